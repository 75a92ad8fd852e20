import Derived.Test.YtnopjcakilfepaaS4
namespace Go.Proofs.Ytnopjcakilfepaa.QS
set_option linter.unusedVariables false
set_option linter.unusedSimpArgs false
open Go.RowKit Go.Proofs.Ytnopjcakilfepaa.SS Go.Proofs.Ytnopjcakilfepaa.Hp Go.Proofs.YtnopjcakilfepaaW.PrintWords Go.Proofs.YtnopjcakilfepaaW.PrintLast Go.Proofs.YtnopjcakilfepaaW.PrintMore
attribute [local go_sem] max2_int min2_int max_two min_two max_three min_three max_four min_four
def symg.T35 : Bool × List (List Nat × List Nat) := (true, [([], []), ([], []), ([], []), ([], []), ([2, 3], [2, 3]), ([1, 4], [1, 4]), ([5], [5]), ([], []), ([], []), ([7, 8], [7, 8]), ([9], [9]), ([0, 6, 10], [0, 6, 10]), ([11], [11]), ([12], [12])])
def symg.B35 : List Nat := [0, 0, 0, 0, 12, 30, 62, 0, 0, 384, 896, 2047, 4095, 8191]
theorem symg.tab35 : rtab .any (opsOf Try.f81 35) = symg.T35 := by kernel_rfl
theorem symg.bits35 : waitsOk symg.T35.2 symg.B35 = true := by kernel_rfl
theorem sym_tail (lt : Rec → Rec → Bool) (ho : Ord lt) (N : Nat) (w0 : World) (g : Nat) (hg : N ≤ g) (cp : Nat) (ia im ib n mid lo hi s e : Nat) (P A B Q : List Rec) (hn : (P ++ (A ++ (B ++ Q))).length = n) (hn2 : n ≤ 1000000)
    (ih : ∀ (ia im ib : Nat) (P A' B' Q : List Rec), A'.length + B'.length < A.length + B.length → 1 ≤ A'.length → 1 ≤ B'.length → P.length = ia → ia + A'.length = im → im + B'.length = ib → Sorted lt A' → Sorted lt B' → (P ++ (A' ++ (B' ++ Q))).length = n → ∀ W, Kp g w0 W → RowB W g (P ++ (A' ++ (B' ++ Q))) → Calls Try.prog 81 #[.slice (some ⟨g, 0, none⟩) n cp, .int .i64 (ia : Int), .int .i64 (im : Int), .int .i64 (ib : Int), .func (.func 64) #[] #[]] W fun e w' => e = .returned (.tuple #[]) ∧ Kp g w0 w' ∧ RowB w' g (P ++ (mrg lt A' B' ++ Q))) (ha : Sorted lt A) (hb : Sorted lt B) (hia : ia = P.length) (him : im = ia + A.length) (hib : ib = im + B.length) (hA : 1 ≤ A.length) (hB : 1 ≤ B.length) (hmid : mid = (ia + ib) / 2)
    (hlo : mid < im ∧ lo = mid + im - ib ∧ hi = mid ∨ im ≤ mid ∧ lo = ia ∧ hi = im) (h : Bs (fC lt (P ++ (A ++ (B ++ Q))) (mid + im - 1)) lo hi s s) (he : e = mid + im - s) :
    ∃ D1 D2 : List Rec, (s < im → s < mid → ∀ W, Kp g w0 W → RowB W g (P ++ (A ++ (B ++ Q))) → Calls Try.prog 83 #[.slice (some ⟨g, 0, none⟩) n cp, .int .i64 (s : Int), .int .i64 (im : Int), .int .i64 (e : Int), .func (.func 64) #[] #[]] W fun e w' => e = .returned (.tuple #[]) ∧ Kp g w0 w' ∧ RowB w' g D1) ∧ (¬(s < im ∧ s < mid) → ∀ W, RowB W g (P ++ (A ++ (B ++ Q))) → RowB W g D1) ∧
      (ia < s → s < mid → ∀ W, Kp g w0 W → RowB W g D1 → Calls Try.prog 81 #[.slice (some ⟨g, 0, none⟩) n cp, .int .i64 (ia : Int), .int .i64 (s : Int), .int .i64 (mid : Int), .func (.func 64) #[] #[]] W fun e w' => e = .returned (.tuple #[]) ∧ Kp g w0 w' ∧ RowB w' g D2) ∧ (¬(ia < s ∧ s < mid) → ∀ W, RowB W g D1 → RowB W g D2) ∧
      (s < im → e < ib → ∀ W, Kp g w0 W → RowB W g D2 → Calls Try.prog 81 #[.slice (some ⟨g, 0, none⟩) n cp, .int .i64 (mid : Int), .int .i64 (e : Int), .int .i64 (ib : Int), .func (.func 64) #[] #[]] W fun e w' => e = .returned (.tuple #[]) ∧ Kp g w0 w' ∧ RowB w' g (P ++ (mrg lt A B ++ Q))) ∧ (¬(s < im ∧ e < ib) → ∀ W, RowB W g D2 → RowB W g (P ++ (mrg lt A B ++ Q))) ∧ ia ≤ s ∧ s ≤ im ∧ s ≤ mid ∧ im ≤ e ∧ e ≤ ib := by
  obtain ⟨hmrg, b1, b2, b3, b4, b5⟩ := sym_end ho P A B Q ha hb ia im ib mid lo hi s e hia him hib hA hB hmid hlo h he
  obtain ⟨a1, ea1⟩ : ∃ a1, a1 = A.take (s - ia) := ⟨_, rfl⟩
  obtain ⟨a2, ea2⟩ : ∃ a2, a2 = A.drop (s - ia) := ⟨_, rfl⟩
  obtain ⟨c1, ec1⟩ : ∃ c1, c1 = B.take (e - im) := ⟨_, rfl⟩
  obtain ⟨c2, ec2⟩ : ∃ c2, c2 = B.drop (e - im) := ⟨_, rfl⟩
  have hAs : A = a1 ++ a2 := by rw [ea1, ea2, List.take_append_drop]
  have hBs : B = c1 ++ c2 := by rw [ec1, ec2, List.take_append_drop]
  have la1 : a1.length = s - ia := by rw [ea1, List.length_take]; omega
  have la2 : a2.length = im - s := by rw [ea2, List.length_drop]; omega
  have lc1 : c1.length = e - im := by rw [ec1, List.length_take]; omega
  have lc2 : c2.length = ib - e := by rw [ec2, List.length_drop]; omega
  have sa := ha
  have sb := hb
  rw [hAs] at sa
  rw [hBs] at sb
  have sa1 := (List.pairwise_append.1 sa).1
  have sa2 := (List.pairwise_append.1 sa).2.1
  have sc1 := (List.pairwise_append.1 sb).1
  have sc2 := (List.pairwise_append.1 sb).2.1
  rw [← ea1, ← ea2, ← ec1, ← ec2] at hmrg
  have hnl : P.length + (A.length + (B.length + Q.length)) = n := by rw [← hn]; simp only [List.length_append]
  have hD0 : P ++ (A ++ (B ++ Q)) = (P ++ a1) ++ (a2 ++ (c1 ++ (c2 ++ Q))) := by rw [hAs, hBs]; simp only [List.append_assoc]
  refine ⟨(P ++ a1) ++ (c1 ++ (a2 ++ (c2 ++ Q))), P ++ (mrg lt a1 c1 ++ (a2 ++ (c2 ++ Q))), ?_, ?_, ?_, ?_, ?_, ?_, b1, b2, b3, b4, b5⟩
  · intro u1 u2 W hW hR
    rw [hD0] at hR hn
    exact rotate_calls N w0 g hg cp _ s im e n (P ++ a1) a2 c1 (c2 ++ Q) (by rw [List.length_append]; omega) (by omega) (by omega) (by omega) (by omega) hn hn2 W hW hR
  · intro u W hR
    rw [hD0] at hR
    rcases Nat.lt_or_ge s im with u1 | u1
    · have : c1 = [] := List.eq_nil_of_length_eq_zero (by omega)
      rw [this] at hR ⊢
      exact hR
    · have : a2 = [] := List.eq_nil_of_length_eq_zero (by omega)
      rw [this] at hR ⊢
      exact hR
  · intro u1 u2 W hW hR
    rw [List.append_assoc] at hR
    exact ih ia s mid P a1 c1 (a2 ++ (c2 ++ Q)) (by omega) (by omega) (by omega) (by omega) (by omega) (by omega) sa1 sc1 (by simp only [List.length_append]; omega) W hW hR
  · intro u W hR
    rw [List.append_assoc] at hR
    rcases Nat.lt_or_ge ia s with u1 | u1
    · have : c1 = [] := List.eq_nil_of_length_eq_zero (by omega)
      rw [this] at hR ⊢
      rw [mrg_nil_right]
      exact hR
    · have : a1 = [] := List.eq_nil_of_length_eq_zero (by omega)
      rw [this] at hR ⊢
      rw [mrg_nil]
      exact hR
  · intro u1 u2 W hW hR
    rw [← List.append_assoc P] at hR
    have := ih mid e ib (P ++ mrg lt a1 c1) a2 c2 Q (by omega) (by omega) (by omega) (by rw [List.length_append, mrg_length]; omega) (by omega) (by omega) sa2 sc2 (by simp only [List.length_append, mrg_length]; omega) W hW hR
    rw [hmrg, List.append_assoc]
    rw [List.append_assoc] at this
    exact this
  · intro u W hR
    rw [hmrg]
    rcases Nat.lt_or_ge s im with u1 | u1
    · have : c2 = [] := List.eq_nil_of_length_eq_zero (by omega)
      rw [this] at hR ⊢
      rw [mrg_nil_right]
      simpa [List.append_assoc] using hR
    · have : a2 = [] := List.eq_nil_of_length_eq_zero (by omega)
      rw [this] at hR ⊢
      rw [mrg_nil]
      simpa [List.append_assoc] using hR
set_option maxHeartbeats 16000000 in
set_option maxRecDepth 100000 in
theorem symG_calls (lt : Rec → Rec → Bool) (ho : Ord lt) (hc : Cmp lt) (N : Nat) (w0 : World) (g : Nat) (hg : N ≤ g) (cp : Nat) (ia im ib n : Nat) (P A B Q : List Rec) (hP : P.length = ia) (hA : ia + A.length = im) (hB1 : im + B.length = ib) (hA2 : 2 ≤ A.length) (hB2 : 2 ≤ B.length) (hAs : Sorted lt A) (hBs : Sorted lt B) (hn : (P ++ (A ++ (B ++ Q))).length = n) (hn2 : n ≤ 1000000)
    (ih : ∀ (ia im ib : Nat) (P A' B' Q : List Rec), A'.length + B'.length < A.length + B.length → 1 ≤ A'.length → 1 ≤ B'.length → P.length = ia → ia + A'.length = im → im + B'.length = ib → Sorted lt A' → Sorted lt B' → (P ++ (A' ++ (B' ++ Q))).length = n → ∀ W, Kp g w0 W → RowB W g (P ++ (A' ++ (B' ++ Q))) → Calls Try.prog 81 #[.slice (some ⟨g, 0, none⟩) n cp, .int .i64 (ia : Int), .int .i64 (im : Int), .int .i64 (ib : Int), .func (.func 64) #[] #[]] W fun e w' => e = .returned (.tuple #[]) ∧ Kp g w0 w' ∧ RowB w' g (P ++ (mrg lt A' B' ++ Q))) (w : World) (hB : Kp g w0 w) (hR : RowB w g (P ++ (A ++ (B ++ Q)))) :
    Calls Try.prog 81 #[.slice (some ⟨g, 0, none⟩) n cp, .int .i64 (ia : Int), .int .i64 (im : Int), .int .i64 (ib : Int), .func (.func 64) #[] #[]] w fun e w' => e = .returned (.tuple #[]) ∧ Kp g w0 w' ∧ RowB w' g (P ++ (mrg lt A B ++ Q)) := by
  have HG := Aside0.mk hg
  have HIH := Aside0.mk ih
  have HNL := Aside0.mk hn
  have HCMP : Aside0 (∀ (W : World) (x y : Rec), Calls Try.prog 64 #[.agg #[.int .u64 x.id, .int .u64 x.first, .int .i64 x.prio, .int .i64 x.len, .int .u64 x.en, .bool x.played, .int .i64 x.lpn, .slice x.A x.n x.c], .agg #[.int .u64 y.id, .int .u64 y.first, .int .i64 y.prio, .int .i64 y.len, .int .u64 y.en, .bool y.played, .int .i64 y.lpn, .slice y.A y.n y.c]] W fun e w' => ∃ r : Int, e = .returned (.int .i64 r) ∧ decide (r < 0) = lt x y ∧ Below W.heap.size W w') := ⟨hc⟩
  have HL : Aside0 (P.length = ia ∧ ia + A.length = im ∧ im + B.length = ib ∧ ib ≤ n ∧ n ≤ 1000000 ∧ 2 ≤ A.length ∧ 2 ≤ B.length) := ⟨hP, hA, hB1, by rw [← hn]; simp only [List.length_append]; omega, hn2, hA2, hB2⟩
  obtain ⟨na, hna⟩ : ∃ na, na = A.length := ⟨_, rfl⟩
  obtain ⟨nb, hnb⟩ : ∃ nb, nb = B.length := ⟨_, rfl⟩
  obtain ⟨mid, hmid⟩ : ∃ mid, mid = (ia + ib) / 2 := ⟨_, rfl⟩
  obtain ⟨nn, hnn⟩ : ∃ nn, nn = mid + im := ⟨_, rfl⟩
  obtain ⟨p, hp⟩ : ∃ p, p = nn - 1 := ⟨_, rfl⟩
  have HN := Aside0.mk (And.intro hmid (And.intro hnn hp))
  have HW0 : IntKind.i64.wrap ((im : Int) - (ia : Int)) = (na : Int) := by rw [i64_w]; unfold wrap64; have := HL.out; omega
  have HW00 : ((na : Int) == 1) = false := by simp; omega
  have HW03 : IntKind.i64.wrap ((ib : Int) - (im : Int)) = (nb : Int) := by rw [i64_w]; unfold wrap64; have := HL.out; omega
  have HW04 : ((nb : Int) == 1) = false := by simp; omega
  have HW05 : IntKind.i64.wrap ((ia : Int) + (ib : Int)) = ((ia + ib : Nat) : Int) := by rw [i64_w]; unfold wrap64; have := HL.out; omega
  have HWM : IntKind.i64.wrap ((mid : Int) + (im : Int)) = (nn : Int) := by rw [i64_w]; unfold wrap64; have := HL.out; omega
  have HMID := Aside0.mk (mid_val ia ib mid hmid (by have := HL.out; omega))
  obtain ⟨dd, hdd⟩ : ∃ dd, dd = P ++ (A ++ (B ++ Q)) := ⟨_, rfl⟩
  have HDD := Aside0.mk hdd
  have HDL : Aside0 (dd.length = n) := ⟨by rw [hdd]; exact hn⟩
  rw [← hdd] at hR
  have HR := Aside0.mk hR
  replace hB := Aside0.mk hB
  clear hg hc hP hA hA2 hB1 hB2 hn hn2 hR hdd hna hnb hmid hnn hp ih
  go_enter Try.func81, Try.ntmps81
  go_upto_region 25 with fail
  rw [HMID.out]
  clear HMID
  by_cases hmm : mid < im
  · obtain ⟨lo, hlo⟩ : ∃ lo, lo = nn - ib := ⟨_, rfl⟩
    have t0 : decide (mid < im) = true := decide_eq_true (by omega)
    have HWL : IntKind.i64.wrap ((nn : Int) - (ib : Int)) = (((nn : Int) - (ib : Int))) := by rw [i64_w]; unfold wrap64; have := HL.out; have := HN.out; omega
    have HWP1 : IntKind.i64.wrap ((nn : Int) - 1) = (p : Int) := by rw [i64_w]; unfold wrap64; have := HL.out; have := HN.out; omega
    have HLO : Aside0 (mid < im ∧ lo = mid + im - ib ∧ mid = mid ∨ im ≤ mid ∧ lo = ia ∧ mid = im) := ⟨by have := HL.out; have := HN.out; omega⟩
    have HMO : Aside0 (Mono (fC lt dd p) lo mid) := ⟨by
      rw [HDD.out]
      refine fC_mono ho P A B Q p lo mid hAs hBs (by have := HL.out; have := HN.out; have := HLO.out; omega) (by have := HL.out; have := HN.out; have := HLO.out; omega) (fun c h1 h2 => by have := HL.out; have := HN.out; have := HLO.out; omega)⟩
    have HB0 : Aside0 (Bs (fC lt dd p) lo mid lo mid) := ⟨Bs.init _ _ _ (by have := HL.out; have := HN.out; have := HLO.out; omega)⟩
    have HLV : Aside0 ((lo : Int) = (nn : Int) - (ib : Int)) := ⟨by have := HL.out; have := HN.out; omega⟩
    have HO := Aside0.mk ho
    have HAB := Aside0.mk (And.intro hAs hBs)
    clear hmm hlo ho hAs hBs
    go_upto_region 33 with fail
    clear HWL HWP1 HW0 HW00 HW03 HW04 HWM t0 HW05
    go_loopg [20, 21] (mid - lo) (fun kq v20 v21 w' => ∃ i j : Nat, v20 = .int .i64 (i : Int) ∧ v21 = .int .i64 (j : Int) ∧ Aside0 (Bs (fC lt dd p) lo mid i j) ∧ Aside0 (RowB w' g dd) ∧ Aside0 (Kp g w0 w') ∧ Aside0 (kq + i = j))
    case atStart => exact ⟨lo, mid, by first | rfl | (rw [HLV.out]), rfl, HB0, HR, hB, ⟨by have := HB0.out; unfold Bs at this; omega⟩⟩
    case round =>
      clear HB0 HR hB
      obtain ⟨i, j, rfl, rfl, HBS, RR, BB, HQ⟩ := hrel
      by_cases hij : i < j
      case pos =>
        have t1 : decide (i < j) = true := decide_eq_true hij
        have HW1 : IntKind.i64.wrap ((i : Int) + (j : Int)) = ((i + j : Nat) : Int) := by rw [i64_w]; unfold wrap64; have := HL.out; have := HN.out; have := HLO.out; have := HBS.out; unfold Bs at this; omega
        obtain ⟨c, hc2⟩ : ∃ c, c = (i + j) / 2 := ⟨_, rfl⟩
        have hb3 := HBS.out
        have hbd : i ≤ c ∧ c < j ∧ j ≤ mid ∧ lo ≤ i ∧ ia ≤ c ∧ c < im ∧ im ≤ p - c ∧ p - c < ib ∧ c ≤ p := by have := HL.out; have := HN.out; have := HLO.out; unfold Bs at hb3; omega
        have HMID2 := Aside0.mk (mid_val i j c hc2 (by have := HL.out; have := HN.out; have := HLO.out; omega))
        go_upto_region 35 with fail
        rw [HMID2.out]
        clear HMID2 HW1
        obtain ⟨pc, hpc⟩ : ∃ pc, pc = p - c := ⟨_, rfl⟩
        obtain ⟨y, hy⟩ : ∃ y, dd[p - c]? = some y := some_of dd (p - c) (by rw [HDL.out]; have := HL.out; omega)
        obtain ⟨x, hx⟩ : ∃ x, dd[c]? = some x := some_of dd c (by rw [HDL.out]; have := HL.out; omega)
        have HX_pc : Aside0 (dd[pc]? = some y) := ⟨by rw [hpc]; exact hy⟩
        have HX_c := Aside0.mk hx
        have LO_pc := Aside0.mk (eq_true (show (0 : Int) ≤ (pc : Int) by omega))
        have HI_pc : Aside0 (((pc : Int) < (n : Int)) = True) := ⟨eq_true (by have := HL.out; omega)⟩
        have LO_c := Aside0.mk (eq_true (show (0 : Int) ≤ (c : Int) by omega))
        have HI_c : Aside0 (((c : Int) < (n : Int)) = True) := ⟨eq_true (by have := HL.out; omega)⟩
        have HWP : Aside0 (IntKind.i64.wrap ((p : Int) - (c : Int)) = (pc : Int)) := ⟨by rw [i64_w]; unfold wrap64; have := HL.out; have := HN.out; omega⟩
        have B0 := Aside0.mk (kp_drew BB.out)
        have R0 := Aside0.mk (RowB.below RR.out (below_drew1 (Below.refl wr.heap.size wr)))
        have HBD := Aside0.mk (And.intro hbd hij)
        have hf := fC_at (lt := lt) hy hx
        clear t1 RR BB hb3 hbd hij hc2 hy hx hpc
        cases htv : lt y x with
        | true =>
          have HTV := Aside0.mk htv
          have HB2 := Aside0.mk (HBS.out.down HMO.out HBD.out.1.1 HBD.out.1.2.1 (by rw [hf, htv]; rfl))
          clear htv hf
          refine start_ (n := 14) (S := fun w' => True) (ds := []) #[false, false, false, false, false, false, false, false, false, false, false, false, false, false] (by kernel_rfl) rfl rfl trivial (fun hHeld => ?_)
          refine with_tabW symg.tab35 symg.bits35 (fun HT_ HW_ => ?_)
          generalize wr.drew = wq at B0 R0 hHeld ⊢
          refine inv_at [0, 1, 2, 3, 4, 5, 6, 7, 8, 9, 10, 11, 12, 13] (fun a0_ b a w' => ∃ (rv : Value), a = putSel a0_ b [(0, 158, .func (.func 64) #[] #[]), (1, 159, .slice (some ⟨g, 0, none⟩) n cp), (2, 160, .int .i64 (p : Int)), (3, 161, .int .i64 (c : Int)), (4, 162, .int .i64 (pc : Int)), (5, 163, .pointer (some ⟨g, pc * 8, none⟩)), (6, 164, .agg #[.int .u64 y.id, .int .u64 y.first, .int .i64 y.prio, .int .i64 y.len, .int .u64 y.en, .bool y.played, .int .i64 y.lpn, .slice y.A y.n y.c]), (7, 165, .slice (some ⟨g, 0, none⟩) n cp), (8, 166, .int .i64 (c : Int)), (9, 167, .pointer (some ⟨g, c * 8, none⟩)), (10, 168, .agg #[.int .u64 x.id, .int .u64 x.first, .int .i64 x.prio, .int .i64 x.len, .int .u64 x.en, .bool x.played, .int .i64 x.lpn, .slice x.A x.n x.c]), (11, 169, rv), (12, 170, .bool true), (13, 171, .bool false)] ∧ (Kp g w0 w') ∧ (RowB w' g dd) ∧ (b 11 = true → ∃ r_ : Int, rv = .int .i64 r_ ∧ decide (r_ < 0) = true)) HT_.out HW_.out (by kernel_rfl) (by kernel_rfl) ?_ ?_ ?_
          · exact ⟨.bool false, by simp only [putSel, Bool.false_eq_true, if_false], B0.out, R0.out, fun h_ => absurd h_ (by decide)⟩
          · skip
            clear B0 R0
            refine steps_cons ?_ ?_
            · rintro b a w' ⟨rv, ha, Q_B0, Q_R0, Q_HRV⟩ hb_ hon hoff
              refine ⟨_, rfl, fun K hK => ?_⟩
              have e4 : a.tmps[4]? = some (.func (.func 64) #[] #[]) := by rw [ha]; exact (putSel_off rfl).trans rfl
              replace ha := Aside0.mk ha
              have B0 := Aside0.mk Q_B0
              have R0 := Aside0.mk Q_R0
              refine value_ (w1 := w') (v := .func (.func 64) #[] #[]) (by rfl) rfl ?_ ?_
              · go_simp
                (try simp only [i64_w])
                try rfl
              refine hK.out _ _ ⟨rv, (by rw [ha.out]; exact putSel_upk 0 hb_ rfl rfl rfl), Q_B0, Q_R0, fun h0_ => absurd ((hoff 11 (by kernel_rfl)).symm.trans h0_) (by decide)⟩
            refine steps_cons ?_ ?_
            · rintro b a w' ⟨rv, ha, Q_B0, Q_R0, Q_HRV⟩ hb_ hon hoff
              refine ⟨_, rfl, fun K hK => ?_⟩
              have e0 : a.tmps[0]? = some (.slice (some ⟨g, 0, none⟩) n cp) := by rw [ha]; exact (putSel_off rfl).trans rfl
              replace ha := Aside0.mk ha
              have B0 := Aside0.mk Q_B0
              have R0 := Aside0.mk Q_R0
              refine value_ (w1 := w') (v := .slice (some ⟨g, 0, none⟩) n cp) (by rfl) rfl ?_ ?_
              · go_simp
                (try simp only [i64_w])
                try rfl
              refine hK.out _ _ ⟨rv, (by rw [ha.out]; exact putSel_upk 1 hb_ rfl rfl rfl), Q_B0, Q_R0, fun h0_ => absurd ((hoff 11 (by kernel_rfl)).symm.trans h0_) (by decide)⟩
            refine steps_cons ?_ ?_
            · rintro b a w' ⟨rv, ha, Q_B0, Q_R0, Q_HRV⟩ hb_ hon hoff
              refine ⟨_, rfl, fun K hK => ?_⟩
              have e22 : a.tmps[22]? = some (.int .i64 (p : Int)) := by rw [ha]; exact (putSel_off rfl).trans rfl
              replace ha := Aside0.mk ha
              have B0 := Aside0.mk Q_B0
              have R0 := Aside0.mk Q_R0
              refine value_ (w1 := w') (v := .int .i64 (p : Int)) (by rfl) rfl ?_ ?_
              · go_simp
                (try simp only [i64_w])
                try rfl
              refine hK.out _ _ ⟨rv, (by rw [ha.out]; exact putSel_upk 2 hb_ rfl rfl rfl), Q_B0, Q_R0, fun h0_ => absurd ((hoff 11 (by kernel_rfl)).symm.trans h0_) (by decide)⟩
            refine steps_cons ?_ ?_
            · rintro b a w' ⟨rv, ha, Q_B0, Q_R0, Q_HRV⟩ hb_ hon hoff
              refine ⟨_, rfl, fun K hK => ?_⟩
              have e23 : a.tmps[23]? = some (.int .i64 (c : Int)) := by rw [ha]; exact (putSel_off rfl).trans rfl
              replace ha := Aside0.mk ha
              have B0 := Aside0.mk Q_B0
              have R0 := Aside0.mk Q_R0
              refine value_ (w1 := w') (v := .int .i64 (c : Int)) (by rfl) rfl ?_ ?_
              · go_simp
                (try simp only [i64_w])
                try rfl
              refine hK.out _ _ ⟨rv, (by rw [ha.out]; exact putSel_upk 3 hb_ rfl rfl rfl), Q_B0, Q_R0, fun h0_ => absurd ((hoff 11 (by kernel_rfl)).symm.trans h0_) (by decide)⟩
            refine steps_cons ?_ ?_
            · rintro b a w' ⟨rv, ha, Q_B0, Q_R0, Q_HRV⟩ hb_ hon hoff
              refine ⟨_, rfl, fun K hK => ?_⟩
              have e160 : a.tmps[160]? = some (.int .i64 (p : Int)) := by rw [ha]; exact putSel_on (e := (2, 160, .int .i64 (p : Int))) 2 rfl rfl (hon 2 (by kernel_rfl)) rfl
              have e161 : a.tmps[161]? = some (.int .i64 (c : Int)) := by rw [ha]; exact putSel_on (e := (3, 161, .int .i64 (c : Int))) 3 rfl rfl (hon 3 (by kernel_rfl)) rfl
              replace ha := Aside0.mk ha
              have B0 := Aside0.mk Q_B0
              have R0 := Aside0.mk Q_R0
              have hw0_ := HWP.out
              refine value_ (w1 := w') (v := .int .i64 (pc : Int)) (by rfl) rfl ?_ ?_
              · go_simp
                (try simp only [i64_w])
                try rfl
              refine hK.out _ _ ⟨rv, (by rw [ha.out]; exact putSel_upk 4 hb_ rfl rfl rfl), Q_B0, Q_R0, fun h0_ => absurd ((hoff 11 (by kernel_rfl)).symm.trans h0_) (by decide)⟩
            refine steps_cons ?_ ?_
            · rintro b a w' ⟨rv, ha, Q_B0, Q_R0, Q_HRV⟩ hb_ hon hoff
              refine ⟨_, rfl, fun K hK => ?_⟩
              have e159 : a.tmps[159]? = some (.slice (some ⟨g, 0, none⟩) n cp) := by rw [ha]; exact putSel_on (e := (1, 159, .slice (some ⟨g, 0, none⟩) n cp)) 1 rfl rfl (hon 1 (by kernel_rfl)) rfl
              have e162 : a.tmps[162]? = some (.int .i64 (pc : Int)) := by rw [ha]; exact putSel_on (e := (4, 162, .int .i64 (pc : Int))) 4 rfl rfl (hon 4 (by kernel_rfl)) rfl
              replace ha := Aside0.mk ha
              have B0 := Aside0.mk Q_B0
              have R0 := Aside0.mk Q_R0
              have p1_ := LO_pc.out
              have q1_ := HI_pc.out
              refine value_ (w1 := w') (v := .pointer (some ⟨g, pc * 8, none⟩)) (by rfl) rfl ?_ ?_
              · go_simp
                (try simp only [i64_w])
                try rfl
              refine hK.out _ _ ⟨rv, (by rw [ha.out]; exact putSel_upk 5 hb_ rfl rfl rfl), Q_B0, Q_R0, fun h0_ => absurd ((hoff 11 (by kernel_rfl)).symm.trans h0_) (by decide)⟩
            refine steps_cons ?_ ?_
            · rintro b a w' ⟨rv, ha, Q_B0, Q_R0, Q_HRV⟩ hb_ hon hoff
              refine ⟨_, rfl, fun K hK => ?_⟩
              have e163 : a.tmps[163]? = some (.pointer (some ⟨g, pc * 8, none⟩)) := by rw [ha]; exact putSel_on (e := (5, 163, .pointer (some ⟨g, pc * 8, none⟩))) 5 rfl rfl (hon 5 (by kernel_rfl)) rfl
              replace ha := Aside0.mk ha
              have B0 := Aside0.mk Q_B0
              have R0 := Aside0.mk Q_R0
              have cs_ := R0.out.cells HX_pc.out
              refine value_ (w1 := w') (v := .agg #[.int .u64 y.id, .int .u64 y.first, .int .i64 y.prio, .int .i64 y.len, .int .u64 y.en, .bool y.played, .int .i64 y.lpn, .slice y.A y.n y.c]) (by rfl) rfl ?_ ?_
              · go_simp
                (try simp only [i64_w])
                try rfl
              refine hK.out _ _ ⟨rv, (by rw [ha.out]; exact putSel_upk 6 hb_ rfl rfl rfl), Q_B0, Q_R0, fun h0_ => absurd ((hoff 11 (by kernel_rfl)).symm.trans h0_) (by decide)⟩
            refine steps_cons ?_ ?_
            · rintro b a w' ⟨rv, ha, Q_B0, Q_R0, Q_HRV⟩ hb_ hon hoff
              refine ⟨_, rfl, fun K hK => ?_⟩
              have e0 : a.tmps[0]? = some (.slice (some ⟨g, 0, none⟩) n cp) := by rw [ha]; exact (putSel_off rfl).trans rfl
              replace ha := Aside0.mk ha
              have B0 := Aside0.mk Q_B0
              have R0 := Aside0.mk Q_R0
              refine value_ (w1 := w') (v := .slice (some ⟨g, 0, none⟩) n cp) (by rfl) rfl ?_ ?_
              · go_simp
                (try simp only [i64_w])
                try rfl
              refine hK.out _ _ ⟨rv, (by rw [ha.out]; exact putSel_upk 7 hb_ rfl rfl rfl), Q_B0, Q_R0, fun h0_ => absurd ((hoff 11 (by kernel_rfl)).symm.trans h0_) (by decide)⟩
            refine steps_cons ?_ ?_
            · rintro b a w' ⟨rv, ha, Q_B0, Q_R0, Q_HRV⟩ hb_ hon hoff
              refine ⟨_, rfl, fun K hK => ?_⟩
              have e23 : a.tmps[23]? = some (.int .i64 (c : Int)) := by rw [ha]; exact (putSel_off rfl).trans rfl
              replace ha := Aside0.mk ha
              have B0 := Aside0.mk Q_B0
              have R0 := Aside0.mk Q_R0
              refine value_ (w1 := w') (v := .int .i64 (c : Int)) (by rfl) rfl ?_ ?_
              · go_simp
                (try simp only [i64_w])
                try rfl
              refine hK.out _ _ ⟨rv, (by rw [ha.out]; exact putSel_upk 8 hb_ rfl rfl rfl), Q_B0, Q_R0, fun h0_ => absurd ((hoff 11 (by kernel_rfl)).symm.trans h0_) (by decide)⟩
            refine steps_cons ?_ ?_
            · rintro b a w' ⟨rv, ha, Q_B0, Q_R0, Q_HRV⟩ hb_ hon hoff
              refine ⟨_, rfl, fun K hK => ?_⟩
              have e165 : a.tmps[165]? = some (.slice (some ⟨g, 0, none⟩) n cp) := by rw [ha]; exact putSel_on (e := (7, 165, .slice (some ⟨g, 0, none⟩) n cp)) 7 rfl rfl (hon 7 (by kernel_rfl)) rfl
              have e166 : a.tmps[166]? = some (.int .i64 (c : Int)) := by rw [ha]; exact putSel_on (e := (8, 166, .int .i64 (c : Int))) 8 rfl rfl (hon 8 (by kernel_rfl)) rfl
              replace ha := Aside0.mk ha
              have B0 := Aside0.mk Q_B0
              have R0 := Aside0.mk Q_R0
              have p1_ := LO_c.out
              have q1_ := HI_c.out
              refine value_ (w1 := w') (v := .pointer (some ⟨g, c * 8, none⟩)) (by rfl) rfl ?_ ?_
              · go_simp
                (try simp only [i64_w])
                try rfl
              refine hK.out _ _ ⟨rv, (by rw [ha.out]; exact putSel_upk 9 hb_ rfl rfl rfl), Q_B0, Q_R0, fun h0_ => absurd ((hoff 11 (by kernel_rfl)).symm.trans h0_) (by decide)⟩
            refine steps_cons ?_ ?_
            · rintro b a w' ⟨rv, ha, Q_B0, Q_R0, Q_HRV⟩ hb_ hon hoff
              refine ⟨_, rfl, fun K hK => ?_⟩
              have e167 : a.tmps[167]? = some (.pointer (some ⟨g, c * 8, none⟩)) := by rw [ha]; exact putSel_on (e := (9, 167, .pointer (some ⟨g, c * 8, none⟩))) 9 rfl rfl (hon 9 (by kernel_rfl)) rfl
              replace ha := Aside0.mk ha
              have B0 := Aside0.mk Q_B0
              have R0 := Aside0.mk Q_R0
              have cs_ := R0.out.cells HX_c.out
              refine value_ (w1 := w') (v := .agg #[.int .u64 x.id, .int .u64 x.first, .int .i64 x.prio, .int .i64 x.len, .int .u64 x.en, .bool x.played, .int .i64 x.lpn, .slice x.A x.n x.c]) (by rfl) rfl ?_ ?_
              · go_simp
                (try simp only [i64_w])
                try rfl
              refine hK.out _ _ ⟨rv, (by rw [ha.out]; exact putSel_upk 10 hb_ rfl rfl rfl), Q_B0, Q_R0, fun h0_ => absurd ((hoff 11 (by kernel_rfl)).symm.trans h0_) (by decide)⟩
            refine steps_cons ?_ ?_
            · rintro b a w' ⟨rv, ha, Q_B0, Q_R0, Q_HRV⟩ hb_ hon hoff
              refine ⟨_, rfl, fun K hK => ?_⟩
              have e158 : a.tmps[158]? = some (.func (.func 64) #[] #[]) := by rw [ha]; exact putSel_on (e := (0, 158, .func (.func 64) #[] #[])) 0 rfl rfl (hon 0 (by kernel_rfl)) rfl
              have e164 : a.tmps[164]? = some (.agg #[.int .u64 y.id, .int .u64 y.first, .int .i64 y.prio, .int .i64 y.len, .int .u64 y.en, .bool y.played, .int .i64 y.lpn, .slice y.A y.n y.c]) := by rw [ha]; exact putSel_on (e := (6, 164, .agg #[.int .u64 y.id, .int .u64 y.first, .int .i64 y.prio, .int .i64 y.len, .int .u64 y.en, .bool y.played, .int .i64 y.lpn, .slice y.A y.n y.c])) 6 rfl rfl (hon 6 (by kernel_rfl)) rfl
              have e168 : a.tmps[168]? = some (.agg #[.int .u64 x.id, .int .u64 x.first, .int .i64 x.prio, .int .i64 x.len, .int .u64 x.en, .bool x.played, .int .i64 x.lpn, .slice x.A x.n x.c]) := by rw [ha]; exact putSel_on (e := (10, 168, .agg #[.int .u64 x.id, .int .u64 x.first, .int .i64 x.prio, .int .i64 x.len, .int .u64 x.en, .bool x.played, .int .i64 x.lpn, .slice x.A x.n x.c])) 10 rfl rfl (hon 10 (by kernel_rfl)) rfl
              replace ha := Aside0.mk ha
              have B0 := Aside0.mk Q_B0
              have R0 := Aside0.mk Q_R0
              refine goesv_ (t := 158) Try.func64 (by kernel_rfl) rfl #[.agg #[.int .u64 y.id, .int .u64 y.first, .int .i64 y.prio, .int .i64 y.len, .int .u64 y.en, .bool y.played, .int .i64 y.lpn, .slice y.A y.n y.c], .agg #[.int .u64 x.id, .int .u64 x.first, .int .i64 x.prio, .int .i64 x.len, .int .u64 x.en, .bool x.played, .int .i64 x.lpn, .slice x.A x.n x.c]] (by rfl) rfl rfl e158 (by first | (simp only [List.map_toArray, List.map_cons, List.map_nil, Act.eval, Array.getD_eq_getD_getElem?, Option.getD_some, e158, e164, e168]; done) | (simp only [List.map_toArray, List.map_cons, List.map_nil, Act.eval, Array.getD_eq_getD_getElem?, Option.getD_some, e158, e164, e168]; rfl)) ?_
              with_reducible refine (HCMP.out w' y x).mono ?_
              rintro e w2 ⟨r_, rfl, hr_, hb⟩
              refine ⟨_, rfl, ?_⟩
              refine hK.out _ _ ⟨.int .i64 r_, (by rw [ha.out]; exact putSel_upk 11 hb_ rfl rfl rfl), below_row B0.out HG.out R0.out hb, RowB.below R0.out hb, fun _ => ⟨r_, rfl, hr_.trans HTV.out⟩⟩
            refine steps_cons ?_ ?_
            · rintro b a w' ⟨rv, ha, Q_B0, Q_R0, Q_HRV⟩ hb_ hon hoff
              refine ⟨_, rfl, fun K hK => ?_⟩
              have e169 : a.tmps[169]? = some (rv) := by rw [ha]; exact putSel_on (e := (11, 169, rv)) 11 rfl rfl (hon 11 (by kernel_rfl)) rfl
              replace ha := Aside0.mk ha
              have B0 := Aside0.mk Q_B0
              have R0 := Aside0.mk Q_R0
              have HRV := Aside0.mk (Q_HRV (hon 11 (by kernel_rfl)))
              obtain ⟨r_, hr1_, hr2_⟩ := HRV.out
              rw [hr1_] at e169
              refine value_ (w1 := w') (v := .bool true) (by rfl) rfl ?_ ?_
              · go_simp
                (try simp only [i64_w])
                try rfl
              refine hK.out _ _ ⟨rv, (by rw [ha.out]; exact putSel_upk 12 hb_ rfl rfl rfl), Q_B0, Q_R0, Q_HRV⟩
            refine steps_cons ?_ ?_
            · rintro b a w' ⟨rv, ha, Q_B0, Q_R0, Q_HRV⟩ hb_ hon hoff
              refine ⟨_, rfl, fun K hK => ?_⟩
              have e170 : a.tmps[170]? = some (.bool true) := by rw [ha]; exact putSel_on (e := (12, 170, .bool true)) 12 rfl rfl (hon 12 (by kernel_rfl)) rfl
              replace ha := Aside0.mk ha
              have B0 := Aside0.mk Q_B0
              have R0 := Aside0.mk Q_R0
              have HRV := Aside0.mk (Q_HRV (hon 11 (by kernel_rfl)))
              refine value_ (w1 := w') (v := .bool false) (by rfl) rfl ?_ ?_
              · go_simp
                (try simp only [i64_w])
                try rfl
              refine hK.out _ _ ⟨rv, (by rw [ha.out]; exact putSel_upk 13 hb_ rfl rfl rfl), Q_B0, Q_R0, Q_HRV⟩
            exact steps_nil
          rintro b a wl hall ⟨rv, ha, Q_B0, Q_R0, Q_HRV⟩
          clear B0 R0
          have hb0_ := hall 0 (by kernel_rfl)
          have hb1_ := hall 1 (by kernel_rfl)
          have hb2_ := hall 2 (by kernel_rfl)
          have hb3_ := hall 3 (by kernel_rfl)
          have hb4_ := hall 4 (by kernel_rfl)
          have hb5_ := hall 5 (by kernel_rfl)
          have hb6_ := hall 6 (by kernel_rfl)
          have hb7_ := hall 7 (by kernel_rfl)
          have hb8_ := hall 8 (by kernel_rfl)
          have hb9_ := hall 9 (by kernel_rfl)
          have hb10_ := hall 10 (by kernel_rfl)
          have hb11_ := hall 11 (by kernel_rfl)
          have hb12_ := hall 12 (by kernel_rfl)
          have hb13_ := hall 13 (by kernel_rfl)
          subst ha
          simp only [putSel, hb0_, hb1_, hb2_, hb3_, hb4_, hb5_, hb6_, hb7_, hb8_, hb9_, hb10_, hb11_, hb12_, hb13_, if_true, Act.put, List.setIfInBounds_toArray, List.set_cons_zero, List.set_cons_succ]
          have B0 := Aside0.mk Q_B0
          clear Q_B0
          have R0 := Aside0.mk Q_R0
          clear Q_R0
          have HRV := Aside0.mk (Q_HRV hb11_)
          clear Q_HRV
          clear hall hb0_ hb1_ hb2_ hb3_ hb4_ hb5_ hb6_ hb7_ hb8_ hb9_ hb10_ hb11_ hb12_ hb13_
          clear HRV
          go_wp2_with fail
          go_roundg (c - i)
          case measure => have := HQ.out; have := HBD.out; omega
          case rel => exact ⟨i, c, rfl, rfl, HB2, R0, B0, ⟨by have := HBD.out; omega⟩⟩
        | false =>
          have HTV := Aside0.mk htv
          have HB2 := Aside0.mk (HBS.out.up HMO.out HBD.out.1.1 HBD.out.1.2.1 (by rw [hf, htv]; rfl))
          clear htv hf
          refine start_ (n := 14) (S := fun w' => True) (ds := []) #[false, false, false, false, false, false, false, false, false, false, false, false, false, false] (by kernel_rfl) rfl rfl trivial (fun hHeld => ?_)
          refine with_tabW symg.tab35 symg.bits35 (fun HT_ HW_ => ?_)
          generalize wr.drew = wq at B0 R0 hHeld ⊢
          refine inv_at [0, 1, 2, 3, 4, 5, 6, 7, 8, 9, 10, 11, 12, 13] (fun a0_ b a w' => ∃ (rv : Value), a = putSel a0_ b [(0, 158, .func (.func 64) #[] #[]), (1, 159, .slice (some ⟨g, 0, none⟩) n cp), (2, 160, .int .i64 (p : Int)), (3, 161, .int .i64 (c : Int)), (4, 162, .int .i64 (pc : Int)), (5, 163, .pointer (some ⟨g, pc * 8, none⟩)), (6, 164, .agg #[.int .u64 y.id, .int .u64 y.first, .int .i64 y.prio, .int .i64 y.len, .int .u64 y.en, .bool y.played, .int .i64 y.lpn, .slice y.A y.n y.c]), (7, 165, .slice (some ⟨g, 0, none⟩) n cp), (8, 166, .int .i64 (c : Int)), (9, 167, .pointer (some ⟨g, c * 8, none⟩)), (10, 168, .agg #[.int .u64 x.id, .int .u64 x.first, .int .i64 x.prio, .int .i64 x.len, .int .u64 x.en, .bool x.played, .int .i64 x.lpn, .slice x.A x.n x.c]), (11, 169, rv), (12, 170, .bool false), (13, 171, .bool true)] ∧ (Kp g w0 w') ∧ (RowB w' g dd) ∧ (b 11 = true → ∃ r_ : Int, rv = .int .i64 r_ ∧ decide (r_ < 0) = false)) HT_.out HW_.out (by kernel_rfl) (by kernel_rfl) ?_ ?_ ?_
          · exact ⟨.bool false, by simp only [putSel, Bool.false_eq_true, if_false], B0.out, R0.out, fun h_ => absurd h_ (by decide)⟩
          · skip
            clear B0 R0
            refine steps_cons ?_ ?_
            · rintro b a w' ⟨rv, ha, Q_B0, Q_R0, Q_HRV⟩ hb_ hon hoff
              refine ⟨_, rfl, fun K hK => ?_⟩
              have e4 : a.tmps[4]? = some (.func (.func 64) #[] #[]) := by rw [ha]; exact (putSel_off rfl).trans rfl
              replace ha := Aside0.mk ha
              have B0 := Aside0.mk Q_B0
              have R0 := Aside0.mk Q_R0
              refine value_ (w1 := w') (v := .func (.func 64) #[] #[]) (by rfl) rfl ?_ ?_
              · go_simp
                (try simp only [i64_w])
                try rfl
              refine hK.out _ _ ⟨rv, (by rw [ha.out]; exact putSel_upk 0 hb_ rfl rfl rfl), Q_B0, Q_R0, fun h0_ => absurd ((hoff 11 (by kernel_rfl)).symm.trans h0_) (by decide)⟩
            refine steps_cons ?_ ?_
            · rintro b a w' ⟨rv, ha, Q_B0, Q_R0, Q_HRV⟩ hb_ hon hoff
              refine ⟨_, rfl, fun K hK => ?_⟩
              have e0 : a.tmps[0]? = some (.slice (some ⟨g, 0, none⟩) n cp) := by rw [ha]; exact (putSel_off rfl).trans rfl
              replace ha := Aside0.mk ha
              have B0 := Aside0.mk Q_B0
              have R0 := Aside0.mk Q_R0
              refine value_ (w1 := w') (v := .slice (some ⟨g, 0, none⟩) n cp) (by rfl) rfl ?_ ?_
              · go_simp
                (try simp only [i64_w])
                try rfl
              refine hK.out _ _ ⟨rv, (by rw [ha.out]; exact putSel_upk 1 hb_ rfl rfl rfl), Q_B0, Q_R0, fun h0_ => absurd ((hoff 11 (by kernel_rfl)).symm.trans h0_) (by decide)⟩
            refine steps_cons ?_ ?_
            · rintro b a w' ⟨rv, ha, Q_B0, Q_R0, Q_HRV⟩ hb_ hon hoff
              refine ⟨_, rfl, fun K hK => ?_⟩
              have e22 : a.tmps[22]? = some (.int .i64 (p : Int)) := by rw [ha]; exact (putSel_off rfl).trans rfl
              replace ha := Aside0.mk ha
              have B0 := Aside0.mk Q_B0
              have R0 := Aside0.mk Q_R0
              refine value_ (w1 := w') (v := .int .i64 (p : Int)) (by rfl) rfl ?_ ?_
              · go_simp
                (try simp only [i64_w])
                try rfl
              refine hK.out _ _ ⟨rv, (by rw [ha.out]; exact putSel_upk 2 hb_ rfl rfl rfl), Q_B0, Q_R0, fun h0_ => absurd ((hoff 11 (by kernel_rfl)).symm.trans h0_) (by decide)⟩
            refine steps_cons ?_ ?_
            · rintro b a w' ⟨rv, ha, Q_B0, Q_R0, Q_HRV⟩ hb_ hon hoff
              refine ⟨_, rfl, fun K hK => ?_⟩
              have e23 : a.tmps[23]? = some (.int .i64 (c : Int)) := by rw [ha]; exact (putSel_off rfl).trans rfl
              replace ha := Aside0.mk ha
              have B0 := Aside0.mk Q_B0
              have R0 := Aside0.mk Q_R0
              refine value_ (w1 := w') (v := .int .i64 (c : Int)) (by rfl) rfl ?_ ?_
              · go_simp
                (try simp only [i64_w])
                try rfl
              refine hK.out _ _ ⟨rv, (by rw [ha.out]; exact putSel_upk 3 hb_ rfl rfl rfl), Q_B0, Q_R0, fun h0_ => absurd ((hoff 11 (by kernel_rfl)).symm.trans h0_) (by decide)⟩
            refine steps_cons ?_ ?_
            · rintro b a w' ⟨rv, ha, Q_B0, Q_R0, Q_HRV⟩ hb_ hon hoff
              refine ⟨_, rfl, fun K hK => ?_⟩
              have e160 : a.tmps[160]? = some (.int .i64 (p : Int)) := by rw [ha]; exact putSel_on (e := (2, 160, .int .i64 (p : Int))) 2 rfl rfl (hon 2 (by kernel_rfl)) rfl
              have e161 : a.tmps[161]? = some (.int .i64 (c : Int)) := by rw [ha]; exact putSel_on (e := (3, 161, .int .i64 (c : Int))) 3 rfl rfl (hon 3 (by kernel_rfl)) rfl
              replace ha := Aside0.mk ha
              have B0 := Aside0.mk Q_B0
              have R0 := Aside0.mk Q_R0
              have hw0_ := HWP.out
              refine value_ (w1 := w') (v := .int .i64 (pc : Int)) (by rfl) rfl ?_ ?_
              · go_simp
                (try simp only [i64_w])
                try rfl
              refine hK.out _ _ ⟨rv, (by rw [ha.out]; exact putSel_upk 4 hb_ rfl rfl rfl), Q_B0, Q_R0, fun h0_ => absurd ((hoff 11 (by kernel_rfl)).symm.trans h0_) (by decide)⟩
            refine steps_cons ?_ ?_
            · rintro b a w' ⟨rv, ha, Q_B0, Q_R0, Q_HRV⟩ hb_ hon hoff
              refine ⟨_, rfl, fun K hK => ?_⟩
              have e159 : a.tmps[159]? = some (.slice (some ⟨g, 0, none⟩) n cp) := by rw [ha]; exact putSel_on (e := (1, 159, .slice (some ⟨g, 0, none⟩) n cp)) 1 rfl rfl (hon 1 (by kernel_rfl)) rfl
              have e162 : a.tmps[162]? = some (.int .i64 (pc : Int)) := by rw [ha]; exact putSel_on (e := (4, 162, .int .i64 (pc : Int))) 4 rfl rfl (hon 4 (by kernel_rfl)) rfl
              replace ha := Aside0.mk ha
              have B0 := Aside0.mk Q_B0
              have R0 := Aside0.mk Q_R0
              have p1_ := LO_pc.out
              have q1_ := HI_pc.out
              refine value_ (w1 := w') (v := .pointer (some ⟨g, pc * 8, none⟩)) (by rfl) rfl ?_ ?_
              · go_simp
                (try simp only [i64_w])
                try rfl
              refine hK.out _ _ ⟨rv, (by rw [ha.out]; exact putSel_upk 5 hb_ rfl rfl rfl), Q_B0, Q_R0, fun h0_ => absurd ((hoff 11 (by kernel_rfl)).symm.trans h0_) (by decide)⟩
            refine steps_cons ?_ ?_
            · rintro b a w' ⟨rv, ha, Q_B0, Q_R0, Q_HRV⟩ hb_ hon hoff
              refine ⟨_, rfl, fun K hK => ?_⟩
              have e163 : a.tmps[163]? = some (.pointer (some ⟨g, pc * 8, none⟩)) := by rw [ha]; exact putSel_on (e := (5, 163, .pointer (some ⟨g, pc * 8, none⟩))) 5 rfl rfl (hon 5 (by kernel_rfl)) rfl
              replace ha := Aside0.mk ha
              have B0 := Aside0.mk Q_B0
              have R0 := Aside0.mk Q_R0
              have cs_ := R0.out.cells HX_pc.out
              refine value_ (w1 := w') (v := .agg #[.int .u64 y.id, .int .u64 y.first, .int .i64 y.prio, .int .i64 y.len, .int .u64 y.en, .bool y.played, .int .i64 y.lpn, .slice y.A y.n y.c]) (by rfl) rfl ?_ ?_
              · go_simp
                (try simp only [i64_w])
                try rfl
              refine hK.out _ _ ⟨rv, (by rw [ha.out]; exact putSel_upk 6 hb_ rfl rfl rfl), Q_B0, Q_R0, fun h0_ => absurd ((hoff 11 (by kernel_rfl)).symm.trans h0_) (by decide)⟩
            refine steps_cons ?_ ?_
            · rintro b a w' ⟨rv, ha, Q_B0, Q_R0, Q_HRV⟩ hb_ hon hoff
              refine ⟨_, rfl, fun K hK => ?_⟩
              have e0 : a.tmps[0]? = some (.slice (some ⟨g, 0, none⟩) n cp) := by rw [ha]; exact (putSel_off rfl).trans rfl
              replace ha := Aside0.mk ha
              have B0 := Aside0.mk Q_B0
              have R0 := Aside0.mk Q_R0
              refine value_ (w1 := w') (v := .slice (some ⟨g, 0, none⟩) n cp) (by rfl) rfl ?_ ?_
              · go_simp
                (try simp only [i64_w])
                try rfl
              refine hK.out _ _ ⟨rv, (by rw [ha.out]; exact putSel_upk 7 hb_ rfl rfl rfl), Q_B0, Q_R0, fun h0_ => absurd ((hoff 11 (by kernel_rfl)).symm.trans h0_) (by decide)⟩
            refine steps_cons ?_ ?_
            · rintro b a w' ⟨rv, ha, Q_B0, Q_R0, Q_HRV⟩ hb_ hon hoff
              refine ⟨_, rfl, fun K hK => ?_⟩
              have e23 : a.tmps[23]? = some (.int .i64 (c : Int)) := by rw [ha]; exact (putSel_off rfl).trans rfl
              replace ha := Aside0.mk ha
              have B0 := Aside0.mk Q_B0
              have R0 := Aside0.mk Q_R0
              refine value_ (w1 := w') (v := .int .i64 (c : Int)) (by rfl) rfl ?_ ?_
              · go_simp
                (try simp only [i64_w])
                try rfl
              refine hK.out _ _ ⟨rv, (by rw [ha.out]; exact putSel_upk 8 hb_ rfl rfl rfl), Q_B0, Q_R0, fun h0_ => absurd ((hoff 11 (by kernel_rfl)).symm.trans h0_) (by decide)⟩
            refine steps_cons ?_ ?_
            · rintro b a w' ⟨rv, ha, Q_B0, Q_R0, Q_HRV⟩ hb_ hon hoff
              refine ⟨_, rfl, fun K hK => ?_⟩
              have e165 : a.tmps[165]? = some (.slice (some ⟨g, 0, none⟩) n cp) := by rw [ha]; exact putSel_on (e := (7, 165, .slice (some ⟨g, 0, none⟩) n cp)) 7 rfl rfl (hon 7 (by kernel_rfl)) rfl
              have e166 : a.tmps[166]? = some (.int .i64 (c : Int)) := by rw [ha]; exact putSel_on (e := (8, 166, .int .i64 (c : Int))) 8 rfl rfl (hon 8 (by kernel_rfl)) rfl
              replace ha := Aside0.mk ha
              have B0 := Aside0.mk Q_B0
              have R0 := Aside0.mk Q_R0
              have p1_ := LO_c.out
              have q1_ := HI_c.out
              refine value_ (w1 := w') (v := .pointer (some ⟨g, c * 8, none⟩)) (by rfl) rfl ?_ ?_
              · go_simp
                (try simp only [i64_w])
                try rfl
              refine hK.out _ _ ⟨rv, (by rw [ha.out]; exact putSel_upk 9 hb_ rfl rfl rfl), Q_B0, Q_R0, fun h0_ => absurd ((hoff 11 (by kernel_rfl)).symm.trans h0_) (by decide)⟩
            refine steps_cons ?_ ?_
            · rintro b a w' ⟨rv, ha, Q_B0, Q_R0, Q_HRV⟩ hb_ hon hoff
              refine ⟨_, rfl, fun K hK => ?_⟩
              have e167 : a.tmps[167]? = some (.pointer (some ⟨g, c * 8, none⟩)) := by rw [ha]; exact putSel_on (e := (9, 167, .pointer (some ⟨g, c * 8, none⟩))) 9 rfl rfl (hon 9 (by kernel_rfl)) rfl
              replace ha := Aside0.mk ha
              have B0 := Aside0.mk Q_B0
              have R0 := Aside0.mk Q_R0
              have cs_ := R0.out.cells HX_c.out
              refine value_ (w1 := w') (v := .agg #[.int .u64 x.id, .int .u64 x.first, .int .i64 x.prio, .int .i64 x.len, .int .u64 x.en, .bool x.played, .int .i64 x.lpn, .slice x.A x.n x.c]) (by rfl) rfl ?_ ?_
              · go_simp
                (try simp only [i64_w])
                try rfl
              refine hK.out _ _ ⟨rv, (by rw [ha.out]; exact putSel_upk 10 hb_ rfl rfl rfl), Q_B0, Q_R0, fun h0_ => absurd ((hoff 11 (by kernel_rfl)).symm.trans h0_) (by decide)⟩
            refine steps_cons ?_ ?_
            · rintro b a w' ⟨rv, ha, Q_B0, Q_R0, Q_HRV⟩ hb_ hon hoff
              refine ⟨_, rfl, fun K hK => ?_⟩
              have e158 : a.tmps[158]? = some (.func (.func 64) #[] #[]) := by rw [ha]; exact putSel_on (e := (0, 158, .func (.func 64) #[] #[])) 0 rfl rfl (hon 0 (by kernel_rfl)) rfl
              have e164 : a.tmps[164]? = some (.agg #[.int .u64 y.id, .int .u64 y.first, .int .i64 y.prio, .int .i64 y.len, .int .u64 y.en, .bool y.played, .int .i64 y.lpn, .slice y.A y.n y.c]) := by rw [ha]; exact putSel_on (e := (6, 164, .agg #[.int .u64 y.id, .int .u64 y.first, .int .i64 y.prio, .int .i64 y.len, .int .u64 y.en, .bool y.played, .int .i64 y.lpn, .slice y.A y.n y.c])) 6 rfl rfl (hon 6 (by kernel_rfl)) rfl
              have e168 : a.tmps[168]? = some (.agg #[.int .u64 x.id, .int .u64 x.first, .int .i64 x.prio, .int .i64 x.len, .int .u64 x.en, .bool x.played, .int .i64 x.lpn, .slice x.A x.n x.c]) := by rw [ha]; exact putSel_on (e := (10, 168, .agg #[.int .u64 x.id, .int .u64 x.first, .int .i64 x.prio, .int .i64 x.len, .int .u64 x.en, .bool x.played, .int .i64 x.lpn, .slice x.A x.n x.c])) 10 rfl rfl (hon 10 (by kernel_rfl)) rfl
              replace ha := Aside0.mk ha
              have B0 := Aside0.mk Q_B0
              have R0 := Aside0.mk Q_R0
              refine goesv_ (t := 158) Try.func64 (by kernel_rfl) rfl #[.agg #[.int .u64 y.id, .int .u64 y.first, .int .i64 y.prio, .int .i64 y.len, .int .u64 y.en, .bool y.played, .int .i64 y.lpn, .slice y.A y.n y.c], .agg #[.int .u64 x.id, .int .u64 x.first, .int .i64 x.prio, .int .i64 x.len, .int .u64 x.en, .bool x.played, .int .i64 x.lpn, .slice x.A x.n x.c]] (by rfl) rfl rfl e158 (by first | (simp only [List.map_toArray, List.map_cons, List.map_nil, Act.eval, Array.getD_eq_getD_getElem?, Option.getD_some, e158, e164, e168]; done) | (simp only [List.map_toArray, List.map_cons, List.map_nil, Act.eval, Array.getD_eq_getD_getElem?, Option.getD_some, e158, e164, e168]; rfl)) ?_
              with_reducible refine (HCMP.out w' y x).mono ?_
              rintro e w2 ⟨r_, rfl, hr_, hb⟩
              refine ⟨_, rfl, ?_⟩
              refine hK.out _ _ ⟨.int .i64 r_, (by rw [ha.out]; exact putSel_upk 11 hb_ rfl rfl rfl), below_row B0.out HG.out R0.out hb, RowB.below R0.out hb, fun _ => ⟨r_, rfl, hr_.trans HTV.out⟩⟩
            refine steps_cons ?_ ?_
            · rintro b a w' ⟨rv, ha, Q_B0, Q_R0, Q_HRV⟩ hb_ hon hoff
              refine ⟨_, rfl, fun K hK => ?_⟩
              have e169 : a.tmps[169]? = some (rv) := by rw [ha]; exact putSel_on (e := (11, 169, rv)) 11 rfl rfl (hon 11 (by kernel_rfl)) rfl
              replace ha := Aside0.mk ha
              have B0 := Aside0.mk Q_B0
              have R0 := Aside0.mk Q_R0
              have HRV := Aside0.mk (Q_HRV (hon 11 (by kernel_rfl)))
              obtain ⟨r_, hr1_, hr2_⟩ := HRV.out
              rw [hr1_] at e169
              refine value_ (w1 := w') (v := .bool false) (by rfl) rfl ?_ ?_
              · go_simp
                (try simp only [i64_w])
                try rfl
              refine hK.out _ _ ⟨rv, (by rw [ha.out]; exact putSel_upk 12 hb_ rfl rfl rfl), Q_B0, Q_R0, Q_HRV⟩
            refine steps_cons ?_ ?_
            · rintro b a w' ⟨rv, ha, Q_B0, Q_R0, Q_HRV⟩ hb_ hon hoff
              refine ⟨_, rfl, fun K hK => ?_⟩
              have e170 : a.tmps[170]? = some (.bool false) := by rw [ha]; exact putSel_on (e := (12, 170, .bool false)) 12 rfl rfl (hon 12 (by kernel_rfl)) rfl
              replace ha := Aside0.mk ha
              have B0 := Aside0.mk Q_B0
              have R0 := Aside0.mk Q_R0
              have HRV := Aside0.mk (Q_HRV (hon 11 (by kernel_rfl)))
              refine value_ (w1 := w') (v := .bool true) (by rfl) rfl ?_ ?_
              · go_simp
                (try simp only [i64_w])
                try rfl
              refine hK.out _ _ ⟨rv, (by rw [ha.out]; exact putSel_upk 13 hb_ rfl rfl rfl), Q_B0, Q_R0, Q_HRV⟩
            exact steps_nil
          rintro b a wl hall ⟨rv, ha, Q_B0, Q_R0, Q_HRV⟩
          clear B0 R0
          have hb0_ := hall 0 (by kernel_rfl)
          have hb1_ := hall 1 (by kernel_rfl)
          have hb2_ := hall 2 (by kernel_rfl)
          have hb3_ := hall 3 (by kernel_rfl)
          have hb4_ := hall 4 (by kernel_rfl)
          have hb5_ := hall 5 (by kernel_rfl)
          have hb6_ := hall 6 (by kernel_rfl)
          have hb7_ := hall 7 (by kernel_rfl)
          have hb8_ := hall 8 (by kernel_rfl)
          have hb9_ := hall 9 (by kernel_rfl)
          have hb10_ := hall 10 (by kernel_rfl)
          have hb11_ := hall 11 (by kernel_rfl)
          have hb12_ := hall 12 (by kernel_rfl)
          have hb13_ := hall 13 (by kernel_rfl)
          subst ha
          simp only [putSel, hb0_, hb1_, hb2_, hb3_, hb4_, hb5_, hb6_, hb7_, hb8_, hb9_, hb10_, hb11_, hb12_, hb13_, if_true, Act.put, List.setIfInBounds_toArray, List.set_cons_zero, List.set_cons_succ]
          have B0 := Aside0.mk Q_B0
          clear Q_B0
          have R0 := Aside0.mk Q_R0
          clear Q_R0
          have HRV := Aside0.mk (Q_HRV hb11_)
          clear Q_HRV
          clear hall hb0_ hb1_ hb2_ hb3_ hb4_ hb5_ hb6_ hb7_ hb8_ hb9_ hb10_ hb11_ hb12_ hb13_
          clear HRV
          go_wp2_with fail
          go_roundg (j - (c + 1))
          case measure => have := HQ.out; have := HBD.out; omega
          case rel => exact ⟨c + 1, j, by first | rfl | (simp; unfold wrap64; have := HBD.out; have := HL.out; omega), rfl, HB2, R0, B0, ⟨by have := HBD.out; omega⟩⟩
      case neg =>
        have hie : i = j := by have := HBS.out; unfold Bs at this; omega
        subst hie
        obtain ⟨s, hs⟩ : ∃ s, s = i := ⟨_, rfl⟩
        subst hs
        have t1 : decide (s < s) = false := decide_eq_false (by omega)
        obtain ⟨e, he⟩ : ∃ e, e = mid + im - s := ⟨_, rfl⟩
        have hbs := HBS.out
        rw [HDD.out, show p = mid + im - 1 by have := HN.out; omega] at hbs
        obtain ⟨D1, D2, hT⟩ := sym_tail lt HO.out N w0 g HG.out cp ia im ib n mid lo mid s e P A B Q HNL.out HL.out.2.2.2.2.1 HIH.out HAB.out.1 HAB.out.2 (by have := HL.out; omega) (by have := HL.out; omega) (by have := HL.out; omega) (by have := HL.out; omega) (by have := HL.out; omega) (by have := HN.out; omega) (by have := HLO.out; have := HN.out; have := HL.out; omega) hbs he
        rw [← HDD.out] at hT
        have HT := Aside0.mk hT
        have HBD : Aside0 ((ia ≤ s ∧ s ≤ im ∧ s ≤ mid ∧ im ≤ e ∧ e ≤ ib) ∧ e = mid + im - s) := ⟨hT.2.2.2.2.2.2, he⟩
        have HW2 : IntKind.i64.wrap ((nn : Int) - (s : Int)) = (e : Int) := by rw [i64_w]; unfold wrap64; have := HL.out; have := HN.out; have := HBD.out; omega
        clear hT hbs he hij HMO HBS
        go_upto_region 39 with fail
        clear t1 HW2
        by_cases hu1 : s < im <;> by_cases hu2 : s < mid <;> by_cases hu3 : ia < s <;> by_cases hu4 : e < ib
        · have g1 : decide (s < im) = true := decide_eq_true (by omega)
          have g2 : decide (im < e) = true := decide_eq_true (by have := HBD.out; omega)
          have g3 : decide (ia < s) = true := decide_eq_true (by have := HBD.out; omega)
          have g4 : decide (s < mid) = true := decide_eq_true (by have := HBD.out; omega)
          have g5 : decide (mid < e) = true := decide_eq_true (by have := HBD.out; omega)
          have g6 : decide (e < ib) = true := decide_eq_true (by have := HBD.out; omega)
          have HC1 := Aside0.mk (HT.out.1 hu1 hu2)
          have HC2 := Aside0.mk (HT.out.2.2.1 hu3 hu2)
          have HC3 := Aside0.mk (HT.out.2.2.2.2.1 hu1 hu4)
          clear HT hu1 hu2 hu3 hu4
          go_wp2_with (first | (go_at_call 83; refine (HC1.out _ BB.out (RR.out)).mono ?_; rintro e1_ w1 ⟨rfl, B1, R1⟩) | (go_at_call 81; with_reducible refine (HC2.out _ B1 (R1)).mono ?_; rintro e2_ w2 ⟨rfl, B2, R2⟩) | (go_at_call 81; with_reducible refine (HC3.out _ B2 (R2)).mono ?_; rintro e3_ w3 ⟨rfl, B3, R3⟩))
          go_end0
          exact ⟨rfl, B3, R3⟩
        · have g1 : decide (s < im) = true := decide_eq_true (by omega)
          have g2 : decide (im < e) = true := decide_eq_true (by have := HBD.out; omega)
          have g3 : decide (ia < s) = true := decide_eq_true (by have := HBD.out; omega)
          have g4 : decide (s < mid) = true := decide_eq_true (by have := HBD.out; omega)
          have g5 : decide (mid < e) = true := decide_eq_true (by have := HBD.out; omega)
          have g6 : decide (e < ib) = false := decide_eq_false (by have := HBD.out; omega)
          have HC1 := Aside0.mk (HT.out.1 hu1 hu2)
          have HC2 := Aside0.mk (HT.out.2.2.1 hu3 hu2)
          have HK3 := Aside0.mk (HT.out.2.2.2.2.2.1 (by omega))
          clear HT hu1 hu2 hu3 hu4
          go_wp2_with (first | (go_at_call 83; refine (HC1.out _ BB.out (RR.out)).mono ?_; rintro e1_ w1 ⟨rfl, B1, R1⟩) | (go_at_call 81; with_reducible refine (HC2.out _ B1 (R1)).mono ?_; rintro e2_ w2 ⟨rfl, B2, R2⟩))
          go_end0
          exact ⟨rfl, B2, HK3.out _ (R2)⟩
        · have g1 : decide (s < im) = true := decide_eq_true (by omega)
          have g2 : decide (im < e) = true := decide_eq_true (by have := HBD.out; omega)
          have g3 : decide (ia < s) = false := decide_eq_false (by have := HBD.out; omega)
          have g4 : decide (s < mid) = true := decide_eq_true (by have := HBD.out; omega)
          have g5 : decide (mid < e) = true := decide_eq_true (by have := HBD.out; omega)
          have g6 : decide (e < ib) = true := decide_eq_true (by have := HBD.out; omega)
          have HC1 := Aside0.mk (HT.out.1 hu1 hu2)
          have HK2 := Aside0.mk (HT.out.2.2.2.1 (by omega))
          have HC3 := Aside0.mk (HT.out.2.2.2.2.1 hu1 hu4)
          clear HT hu1 hu2 hu3 hu4
          go_wp2_with (first | (go_at_call 83; refine (HC1.out _ BB.out (RR.out)).mono ?_; rintro e1_ w1 ⟨rfl, B1, R1⟩) | (go_at_call 81; with_reducible refine (HC3.out _ B1 (HK2.out _ (R1))).mono ?_; rintro e3_ w3 ⟨rfl, B3, R3⟩))
          go_end0
          exact ⟨rfl, B3, R3⟩
        · have g1 : decide (s < im) = true := decide_eq_true (by omega)
          have g2 : decide (im < e) = true := decide_eq_true (by have := HBD.out; omega)
          have g3 : decide (ia < s) = false := decide_eq_false (by have := HBD.out; omega)
          have g4 : decide (s < mid) = true := decide_eq_true (by have := HBD.out; omega)
          have g5 : decide (mid < e) = true := decide_eq_true (by have := HBD.out; omega)
          have g6 : decide (e < ib) = false := decide_eq_false (by have := HBD.out; omega)
          have HC1 := Aside0.mk (HT.out.1 hu1 hu2)
          have HK2 := Aside0.mk (HT.out.2.2.2.1 (by omega))
          have HK3 := Aside0.mk (HT.out.2.2.2.2.2.1 (by omega))
          clear HT hu1 hu2 hu3 hu4
          go_wp2_with (first | (go_at_call 83; refine (HC1.out _ BB.out (RR.out)).mono ?_; rintro e1_ w1 ⟨rfl, B1, R1⟩))
          go_end0
          exact ⟨rfl, B1, HK3.out _ (HK2.out _ (R1))⟩
        · have g1 : decide (s < im) = true := decide_eq_true (by omega)
          have g2 : decide (im < e) = false := decide_eq_false (by have := HBD.out; omega)
          have g3 : decide (ia < s) = true := decide_eq_true (by have := HBD.out; omega)
          have g4 : decide (s < mid) = false := decide_eq_false (by have := HBD.out; omega)
          have g5 : decide (mid < e) = true := decide_eq_true (by have := HBD.out; omega)
          have g6 : decide (e < ib) = true := decide_eq_true (by have := HBD.out; omega)
          have HK1 := Aside0.mk (HT.out.2.1 (by omega))
          have HK2 := Aside0.mk (HT.out.2.2.2.1 (by omega))
          have HC3 := Aside0.mk (HT.out.2.2.2.2.1 hu1 hu4)
          clear HT hu1 hu2 hu3 hu4
          go_wp2_with (first | (go_at_call 81; with_reducible refine (HC3.out _ BB.out (HK2.out _ (HK1.out _ (RR.out)))).mono ?_; rintro e3_ w3 ⟨rfl, B3, R3⟩))
          go_end0
          exact ⟨rfl, B3, R3⟩
        · have g1 : decide (s < im) = true := decide_eq_true (by omega)
          have g2 : decide (im < e) = false := decide_eq_false (by have := HBD.out; omega)
          have g3 : decide (ia < s) = true := decide_eq_true (by have := HBD.out; omega)
          have g4 : decide (s < mid) = false := decide_eq_false (by have := HBD.out; omega)
          have g5 : decide (mid < e) = true := decide_eq_true (by have := HBD.out; omega)
          have g6 : decide (e < ib) = false := decide_eq_false (by have := HBD.out; omega)
          have HK1 := Aside0.mk (HT.out.2.1 (by omega))
          have HK2 := Aside0.mk (HT.out.2.2.2.1 (by omega))
          have HK3 := Aside0.mk (HT.out.2.2.2.2.2.1 (by omega))
          clear HT hu1 hu2 hu3 hu4
          go_wp2_with fail
          go_end0
          exact ⟨rfl, BB.out, HK3.out _ (HK2.out _ (HK1.out _ (RR.out)))⟩
        · have g1 : decide (s < im) = true := decide_eq_true (by omega)
          have g2 : decide (im < e) = false := decide_eq_false (by have := HBD.out; omega)
          have g3 : decide (ia < s) = false := decide_eq_false (by have := HBD.out; omega)
          have g4 : decide (s < mid) = false := decide_eq_false (by have := HBD.out; omega)
          have g5 : decide (mid < e) = true := decide_eq_true (by have := HBD.out; omega)
          have g6 : decide (e < ib) = true := decide_eq_true (by have := HBD.out; omega)
          have HK1 := Aside0.mk (HT.out.2.1 (by omega))
          have HK2 := Aside0.mk (HT.out.2.2.2.1 (by omega))
          have HC3 := Aside0.mk (HT.out.2.2.2.2.1 hu1 hu4)
          clear HT hu1 hu2 hu3 hu4
          go_wp2_with (first | (go_at_call 81; with_reducible refine (HC3.out _ BB.out (HK2.out _ (HK1.out _ (RR.out)))).mono ?_; rintro e3_ w3 ⟨rfl, B3, R3⟩))
          go_end0
          exact ⟨rfl, B3, R3⟩
        · have g1 : decide (s < im) = true := decide_eq_true (by omega)
          have g2 : decide (im < e) = false := decide_eq_false (by have := HBD.out; omega)
          have g3 : decide (ia < s) = false := decide_eq_false (by have := HBD.out; omega)
          have g4 : decide (s < mid) = false := decide_eq_false (by have := HBD.out; omega)
          have g5 : decide (mid < e) = true := decide_eq_true (by have := HBD.out; omega)
          have g6 : decide (e < ib) = false := decide_eq_false (by have := HBD.out; omega)
          have HK1 := Aside0.mk (HT.out.2.1 (by omega))
          have HK2 := Aside0.mk (HT.out.2.2.2.1 (by omega))
          have HK3 := Aside0.mk (HT.out.2.2.2.2.2.1 (by omega))
          clear HT hu1 hu2 hu3 hu4
          go_wp2_with fail
          go_end0
          exact ⟨rfl, BB.out, HK3.out _ (HK2.out _ (HK1.out _ (RR.out)))⟩
        · have g1 : decide (s < im) = false := decide_eq_false (by omega)
          have g2 : decide (im < e) = true := decide_eq_true (by have := HBD.out; omega)
          have g3 : decide (ia < s) = true := decide_eq_true (by have := HBD.out; omega)
          have g4 : decide (s < mid) = true := decide_eq_true (by have := HBD.out; omega)
          have g5 : decide (mid < e) = false := decide_eq_false (by have := HBD.out; omega)
          have g6 : decide (e < ib) = true := decide_eq_true (by have := HBD.out; omega)
          have HK1 := Aside0.mk (HT.out.2.1 (by omega))
          have HC2 := Aside0.mk (HT.out.2.2.1 hu3 hu2)
          have HK3 := Aside0.mk (HT.out.2.2.2.2.2.1 (by omega))
          clear HT hu1 hu2 hu3 hu4
          go_wp2_with (first | (go_at_call 81; with_reducible refine (HC2.out _ BB.out (HK1.out _ (RR.out))).mono ?_; rintro e2_ w2 ⟨rfl, B2, R2⟩))
          go_end0
          exact ⟨rfl, B2, HK3.out _ (R2)⟩
        · have g1 : decide (s < im) = false := decide_eq_false (by omega)
          have g2 : decide (im < e) = true := decide_eq_true (by have := HBD.out; omega)
          have g3 : decide (ia < s) = true := decide_eq_true (by have := HBD.out; omega)
          have g4 : decide (s < mid) = true := decide_eq_true (by have := HBD.out; omega)
          have g5 : decide (mid < e) = false := decide_eq_false (by have := HBD.out; omega)
          have g6 : decide (e < ib) = false := decide_eq_false (by have := HBD.out; omega)
          have HK1 := Aside0.mk (HT.out.2.1 (by omega))
          have HC2 := Aside0.mk (HT.out.2.2.1 hu3 hu2)
          have HK3 := Aside0.mk (HT.out.2.2.2.2.2.1 (by omega))
          clear HT hu1 hu2 hu3 hu4
          go_wp2_with (first | (go_at_call 81; with_reducible refine (HC2.out _ BB.out (HK1.out _ (RR.out))).mono ?_; rintro e2_ w2 ⟨rfl, B2, R2⟩))
          go_end0
          exact ⟨rfl, B2, HK3.out _ (R2)⟩
        · have g1 : decide (s < im) = false := decide_eq_false (by omega)
          have g2 : decide (im < e) = true := decide_eq_true (by have := HBD.out; omega)
          have g3 : decide (ia < s) = false := decide_eq_false (by have := HBD.out; omega)
          have g4 : decide (s < mid) = true := decide_eq_true (by have := HBD.out; omega)
          have g5 : decide (mid < e) = false := decide_eq_false (by have := HBD.out; omega)
          have g6 : decide (e < ib) = true := decide_eq_true (by have := HBD.out; omega)
          have HK1 := Aside0.mk (HT.out.2.1 (by omega))
          have HK2 := Aside0.mk (HT.out.2.2.2.1 (by omega))
          have HK3 := Aside0.mk (HT.out.2.2.2.2.2.1 (by omega))
          clear HT hu1 hu2 hu3 hu4
          go_wp2_with fail
          go_end0
          exact ⟨rfl, BB.out, HK3.out _ (HK2.out _ (HK1.out _ (RR.out)))⟩
        · have g1 : decide (s < im) = false := decide_eq_false (by omega)
          have g2 : decide (im < e) = true := decide_eq_true (by have := HBD.out; omega)
          have g3 : decide (ia < s) = false := decide_eq_false (by have := HBD.out; omega)
          have g4 : decide (s < mid) = true := decide_eq_true (by have := HBD.out; omega)
          have g5 : decide (mid < e) = false := decide_eq_false (by have := HBD.out; omega)
          have g6 : decide (e < ib) = false := decide_eq_false (by have := HBD.out; omega)
          have HK1 := Aside0.mk (HT.out.2.1 (by omega))
          have HK2 := Aside0.mk (HT.out.2.2.2.1 (by omega))
          have HK3 := Aside0.mk (HT.out.2.2.2.2.2.1 (by omega))
          clear HT hu1 hu2 hu3 hu4
          go_wp2_with fail
          go_end0
          exact ⟨rfl, BB.out, HK3.out _ (HK2.out _ (HK1.out _ (RR.out)))⟩
        · have g1 : decide (s < im) = false := decide_eq_false (by omega)
          have g2 : decide (im < e) = false := decide_eq_false (by have := HBD.out; omega)
          have g3 : decide (ia < s) = true := decide_eq_true (by have := HBD.out; omega)
          have g4 : decide (s < mid) = false := decide_eq_false (by have := HBD.out; omega)
          have g5 : decide (mid < e) = false := decide_eq_false (by have := HBD.out; omega)
          have g6 : decide (e < ib) = true := decide_eq_true (by have := HBD.out; omega)
          have HK1 := Aside0.mk (HT.out.2.1 (by omega))
          have HK2 := Aside0.mk (HT.out.2.2.2.1 (by omega))
          have HK3 := Aside0.mk (HT.out.2.2.2.2.2.1 (by omega))
          clear HT hu1 hu2 hu3 hu4
          go_wp2_with fail
          go_end0
          exact ⟨rfl, BB.out, HK3.out _ (HK2.out _ (HK1.out _ (RR.out)))⟩
        · have g1 : decide (s < im) = false := decide_eq_false (by omega)
          have g2 : decide (im < e) = false := decide_eq_false (by have := HBD.out; omega)
          have g3 : decide (ia < s) = true := decide_eq_true (by have := HBD.out; omega)
          have g4 : decide (s < mid) = false := decide_eq_false (by have := HBD.out; omega)
          have g5 : decide (mid < e) = false := decide_eq_false (by have := HBD.out; omega)
          have g6 : decide (e < ib) = false := decide_eq_false (by have := HBD.out; omega)
          have HK1 := Aside0.mk (HT.out.2.1 (by omega))
          have HK2 := Aside0.mk (HT.out.2.2.2.1 (by omega))
          have HK3 := Aside0.mk (HT.out.2.2.2.2.2.1 (by omega))
          clear HT hu1 hu2 hu3 hu4
          go_wp2_with fail
          go_end0
          exact ⟨rfl, BB.out, HK3.out _ (HK2.out _ (HK1.out _ (RR.out)))⟩
        · have g1 : decide (s < im) = false := decide_eq_false (by omega)
          have g2 : decide (im < e) = false := decide_eq_false (by have := HBD.out; omega)
          have g3 : decide (ia < s) = false := decide_eq_false (by have := HBD.out; omega)
          have g4 : decide (s < mid) = false := decide_eq_false (by have := HBD.out; omega)
          have g5 : decide (mid < e) = false := decide_eq_false (by have := HBD.out; omega)
          have g6 : decide (e < ib) = true := decide_eq_true (by have := HBD.out; omega)
          have HK1 := Aside0.mk (HT.out.2.1 (by omega))
          have HK2 := Aside0.mk (HT.out.2.2.2.1 (by omega))
          have HK3 := Aside0.mk (HT.out.2.2.2.2.2.1 (by omega))
          clear HT hu1 hu2 hu3 hu4
          go_wp2_with fail
          go_end0
          exact ⟨rfl, BB.out, HK3.out _ (HK2.out _ (HK1.out _ (RR.out)))⟩
        · have g1 : decide (s < im) = false := decide_eq_false (by omega)
          have g2 : decide (im < e) = false := decide_eq_false (by have := HBD.out; omega)
          have g3 : decide (ia < s) = false := decide_eq_false (by have := HBD.out; omega)
          have g4 : decide (s < mid) = false := decide_eq_false (by have := HBD.out; omega)
          have g5 : decide (mid < e) = false := decide_eq_false (by have := HBD.out; omega)
          have g6 : decide (e < ib) = false := decide_eq_false (by have := HBD.out; omega)
          have HK1 := Aside0.mk (HT.out.2.1 (by omega))
          have HK2 := Aside0.mk (HT.out.2.2.2.1 (by omega))
          have HK3 := Aside0.mk (HT.out.2.2.2.2.2.1 (by omega))
          clear HT hu1 hu2 hu3 hu4
          go_wp2_with fail
          go_end0
          exact ⟨rfl, BB.out, HK3.out _ (HK2.out _ (HK1.out _ (RR.out)))⟩
  · obtain ⟨lo, hlo⟩ : ∃ lo, lo = nn - ib := ⟨_, rfl⟩
    have t0 : decide (mid < im) = false := decide_eq_false (by omega)
    have HWL : IntKind.i64.wrap ((nn : Int) - (ib : Int)) = (((nn : Int) - (ib : Int))) := by rw [i64_w]; unfold wrap64; have := HL.out; have := HN.out; omega
    have HWP1 : IntKind.i64.wrap ((nn : Int) - 1) = (p : Int) := by rw [i64_w]; unfold wrap64; have := HL.out; have := HN.out; omega
    have HLO : Aside0 (mid < im ∧ ia = mid + im - ib ∧ im = mid ∨ im ≤ mid ∧ ia = ia ∧ im = im) := ⟨by have := HL.out; have := HN.out; omega⟩
    have HMO : Aside0 (Mono (fC lt dd p) ia im) := ⟨by
      rw [HDD.out]
      refine fC_mono ho P A B Q p ia im hAs hBs (by have := HL.out; have := HN.out; have := HLO.out; omega) (by have := HL.out; have := HN.out; have := HLO.out; omega) (fun c h1 h2 => by have := HL.out; have := HN.out; have := HLO.out; omega)⟩
    have HB0 : Aside0 (Bs (fC lt dd p) ia im ia im) := ⟨Bs.init _ _ _ (by have := HL.out; have := HN.out; have := HLO.out; omega)⟩
    have HLV : Aside0 (True) := ⟨trivial⟩
    have HO := Aside0.mk ho
    have HAB := Aside0.mk (And.intro hAs hBs)
    clear hmm hlo ho hAs hBs
    go_upto_region 33 with fail
    clear HWL HWP1 HW0 HW00 HW03 HW04 HWM t0 HW05
    go_loopg [20, 21] (im - ia) (fun kq v20 v21 w' => ∃ i j : Nat, v20 = .int .i64 (i : Int) ∧ v21 = .int .i64 (j : Int) ∧ Aside0 (Bs (fC lt dd p) ia im i j) ∧ Aside0 (RowB w' g dd) ∧ Aside0 (Kp g w0 w') ∧ Aside0 (kq + i = j))
    case atStart => exact ⟨ia, im, rfl, rfl, HB0, HR, hB, ⟨by have := HB0.out; unfold Bs at this; omega⟩⟩
    case round =>
      clear HB0 HR hB
      obtain ⟨i, j, rfl, rfl, HBS, RR, BB, HQ⟩ := hrel
      by_cases hij : i < j
      case pos =>
        have t1 : decide (i < j) = true := decide_eq_true hij
        have HW1 : IntKind.i64.wrap ((i : Int) + (j : Int)) = ((i + j : Nat) : Int) := by rw [i64_w]; unfold wrap64; have := HL.out; have := HN.out; have := HLO.out; have := HBS.out; unfold Bs at this; omega
        obtain ⟨c, hc2⟩ : ∃ c, c = (i + j) / 2 := ⟨_, rfl⟩
        have hb3 := HBS.out
        have hbd : i ≤ c ∧ c < j ∧ j ≤ im ∧ ia ≤ i ∧ ia ≤ c ∧ c < im ∧ im ≤ p - c ∧ p - c < ib ∧ c ≤ p := by have := HL.out; have := HN.out; have := HLO.out; unfold Bs at hb3; omega
        have HMID2 := Aside0.mk (mid_val i j c hc2 (by have := HL.out; have := HN.out; have := HLO.out; omega))
        go_upto_region 35 with fail
        rw [HMID2.out]
        clear HMID2 HW1
        obtain ⟨pc, hpc⟩ : ∃ pc, pc = p - c := ⟨_, rfl⟩
        obtain ⟨y, hy⟩ : ∃ y, dd[p - c]? = some y := some_of dd (p - c) (by rw [HDL.out]; have := HL.out; omega)
        obtain ⟨x, hx⟩ : ∃ x, dd[c]? = some x := some_of dd c (by rw [HDL.out]; have := HL.out; omega)
        have HX_pc : Aside0 (dd[pc]? = some y) := ⟨by rw [hpc]; exact hy⟩
        have HX_c := Aside0.mk hx
        have LO_pc := Aside0.mk (eq_true (show (0 : Int) ≤ (pc : Int) by omega))
        have HI_pc : Aside0 (((pc : Int) < (n : Int)) = True) := ⟨eq_true (by have := HL.out; omega)⟩
        have LO_c := Aside0.mk (eq_true (show (0 : Int) ≤ (c : Int) by omega))
        have HI_c : Aside0 (((c : Int) < (n : Int)) = True) := ⟨eq_true (by have := HL.out; omega)⟩
        have HWP : Aside0 (IntKind.i64.wrap ((p : Int) - (c : Int)) = (pc : Int)) := ⟨by rw [i64_w]; unfold wrap64; have := HL.out; have := HN.out; omega⟩
        have B0 := Aside0.mk (kp_drew BB.out)
        have R0 := Aside0.mk (RowB.below RR.out (below_drew1 (Below.refl wr.heap.size wr)))
        have HBD := Aside0.mk (And.intro hbd hij)
        have hf := fC_at (lt := lt) hy hx
        clear t1 RR BB hb3 hbd hij hc2 hy hx hpc
        cases htv : lt y x with
        | true =>
          have HTV := Aside0.mk htv
          have HB2 := Aside0.mk (HBS.out.down HMO.out HBD.out.1.1 HBD.out.1.2.1 (by rw [hf, htv]; rfl))
          clear htv hf
          refine start_ (n := 14) (S := fun w' => True) (ds := []) #[false, false, false, false, false, false, false, false, false, false, false, false, false, false] (by kernel_rfl) rfl rfl trivial (fun hHeld => ?_)
          refine with_tabW symg.tab35 symg.bits35 (fun HT_ HW_ => ?_)
          generalize wr.drew = wq at B0 R0 hHeld ⊢
          refine inv_at [0, 1, 2, 3, 4, 5, 6, 7, 8, 9, 10, 11, 12, 13] (fun a0_ b a w' => ∃ (rv : Value), a = putSel a0_ b [(0, 158, .func (.func 64) #[] #[]), (1, 159, .slice (some ⟨g, 0, none⟩) n cp), (2, 160, .int .i64 (p : Int)), (3, 161, .int .i64 (c : Int)), (4, 162, .int .i64 (pc : Int)), (5, 163, .pointer (some ⟨g, pc * 8, none⟩)), (6, 164, .agg #[.int .u64 y.id, .int .u64 y.first, .int .i64 y.prio, .int .i64 y.len, .int .u64 y.en, .bool y.played, .int .i64 y.lpn, .slice y.A y.n y.c]), (7, 165, .slice (some ⟨g, 0, none⟩) n cp), (8, 166, .int .i64 (c : Int)), (9, 167, .pointer (some ⟨g, c * 8, none⟩)), (10, 168, .agg #[.int .u64 x.id, .int .u64 x.first, .int .i64 x.prio, .int .i64 x.len, .int .u64 x.en, .bool x.played, .int .i64 x.lpn, .slice x.A x.n x.c]), (11, 169, rv), (12, 170, .bool true), (13, 171, .bool false)] ∧ (Kp g w0 w') ∧ (RowB w' g dd) ∧ (b 11 = true → ∃ r_ : Int, rv = .int .i64 r_ ∧ decide (r_ < 0) = true)) HT_.out HW_.out (by kernel_rfl) (by kernel_rfl) ?_ ?_ ?_
          · exact ⟨.bool false, by simp only [putSel, Bool.false_eq_true, if_false], B0.out, R0.out, fun h_ => absurd h_ (by decide)⟩
          · skip
            clear B0 R0
            refine steps_cons ?_ ?_
            · rintro b a w' ⟨rv, ha, Q_B0, Q_R0, Q_HRV⟩ hb_ hon hoff
              refine ⟨_, rfl, fun K hK => ?_⟩
              have e4 : a.tmps[4]? = some (.func (.func 64) #[] #[]) := by rw [ha]; exact (putSel_off rfl).trans rfl
              replace ha := Aside0.mk ha
              have B0 := Aside0.mk Q_B0
              have R0 := Aside0.mk Q_R0
              refine value_ (w1 := w') (v := .func (.func 64) #[] #[]) (by rfl) rfl ?_ ?_
              · go_simp
                (try simp only [i64_w])
                try rfl
              refine hK.out _ _ ⟨rv, (by rw [ha.out]; exact putSel_upk 0 hb_ rfl rfl rfl), Q_B0, Q_R0, fun h0_ => absurd ((hoff 11 (by kernel_rfl)).symm.trans h0_) (by decide)⟩
            refine steps_cons ?_ ?_
            · rintro b a w' ⟨rv, ha, Q_B0, Q_R0, Q_HRV⟩ hb_ hon hoff
              refine ⟨_, rfl, fun K hK => ?_⟩
              have e0 : a.tmps[0]? = some (.slice (some ⟨g, 0, none⟩) n cp) := by rw [ha]; exact (putSel_off rfl).trans rfl
              replace ha := Aside0.mk ha
              have B0 := Aside0.mk Q_B0
              have R0 := Aside0.mk Q_R0
              refine value_ (w1 := w') (v := .slice (some ⟨g, 0, none⟩) n cp) (by rfl) rfl ?_ ?_
              · go_simp
                (try simp only [i64_w])
                try rfl
              refine hK.out _ _ ⟨rv, (by rw [ha.out]; exact putSel_upk 1 hb_ rfl rfl rfl), Q_B0, Q_R0, fun h0_ => absurd ((hoff 11 (by kernel_rfl)).symm.trans h0_) (by decide)⟩
            refine steps_cons ?_ ?_
            · rintro b a w' ⟨rv, ha, Q_B0, Q_R0, Q_HRV⟩ hb_ hon hoff
              refine ⟨_, rfl, fun K hK => ?_⟩
              have e22 : a.tmps[22]? = some (.int .i64 (p : Int)) := by rw [ha]; exact (putSel_off rfl).trans rfl
              replace ha := Aside0.mk ha
              have B0 := Aside0.mk Q_B0
              have R0 := Aside0.mk Q_R0
              refine value_ (w1 := w') (v := .int .i64 (p : Int)) (by rfl) rfl ?_ ?_
              · go_simp
                (try simp only [i64_w])
                try rfl
              refine hK.out _ _ ⟨rv, (by rw [ha.out]; exact putSel_upk 2 hb_ rfl rfl rfl), Q_B0, Q_R0, fun h0_ => absurd ((hoff 11 (by kernel_rfl)).symm.trans h0_) (by decide)⟩
            refine steps_cons ?_ ?_
            · rintro b a w' ⟨rv, ha, Q_B0, Q_R0, Q_HRV⟩ hb_ hon hoff
              refine ⟨_, rfl, fun K hK => ?_⟩
              have e23 : a.tmps[23]? = some (.int .i64 (c : Int)) := by rw [ha]; exact (putSel_off rfl).trans rfl
              replace ha := Aside0.mk ha
              have B0 := Aside0.mk Q_B0
              have R0 := Aside0.mk Q_R0
              refine value_ (w1 := w') (v := .int .i64 (c : Int)) (by rfl) rfl ?_ ?_
              · go_simp
                (try simp only [i64_w])
                try rfl
              refine hK.out _ _ ⟨rv, (by rw [ha.out]; exact putSel_upk 3 hb_ rfl rfl rfl), Q_B0, Q_R0, fun h0_ => absurd ((hoff 11 (by kernel_rfl)).symm.trans h0_) (by decide)⟩
            refine steps_cons ?_ ?_
            · rintro b a w' ⟨rv, ha, Q_B0, Q_R0, Q_HRV⟩ hb_ hon hoff
              refine ⟨_, rfl, fun K hK => ?_⟩
              have e160 : a.tmps[160]? = some (.int .i64 (p : Int)) := by rw [ha]; exact putSel_on (e := (2, 160, .int .i64 (p : Int))) 2 rfl rfl (hon 2 (by kernel_rfl)) rfl
              have e161 : a.tmps[161]? = some (.int .i64 (c : Int)) := by rw [ha]; exact putSel_on (e := (3, 161, .int .i64 (c : Int))) 3 rfl rfl (hon 3 (by kernel_rfl)) rfl
              replace ha := Aside0.mk ha
              have B0 := Aside0.mk Q_B0
              have R0 := Aside0.mk Q_R0
              have hw0_ := HWP.out
              refine value_ (w1 := w') (v := .int .i64 (pc : Int)) (by rfl) rfl ?_ ?_
              · go_simp
                (try simp only [i64_w])
                try rfl
              refine hK.out _ _ ⟨rv, (by rw [ha.out]; exact putSel_upk 4 hb_ rfl rfl rfl), Q_B0, Q_R0, fun h0_ => absurd ((hoff 11 (by kernel_rfl)).symm.trans h0_) (by decide)⟩
            refine steps_cons ?_ ?_
            · rintro b a w' ⟨rv, ha, Q_B0, Q_R0, Q_HRV⟩ hb_ hon hoff
              refine ⟨_, rfl, fun K hK => ?_⟩
              have e159 : a.tmps[159]? = some (.slice (some ⟨g, 0, none⟩) n cp) := by rw [ha]; exact putSel_on (e := (1, 159, .slice (some ⟨g, 0, none⟩) n cp)) 1 rfl rfl (hon 1 (by kernel_rfl)) rfl
              have e162 : a.tmps[162]? = some (.int .i64 (pc : Int)) := by rw [ha]; exact putSel_on (e := (4, 162, .int .i64 (pc : Int))) 4 rfl rfl (hon 4 (by kernel_rfl)) rfl
              replace ha := Aside0.mk ha
              have B0 := Aside0.mk Q_B0
              have R0 := Aside0.mk Q_R0
              have p1_ := LO_pc.out
              have q1_ := HI_pc.out
              refine value_ (w1 := w') (v := .pointer (some ⟨g, pc * 8, none⟩)) (by rfl) rfl ?_ ?_
              · go_simp
                (try simp only [i64_w])
                try rfl
              refine hK.out _ _ ⟨rv, (by rw [ha.out]; exact putSel_upk 5 hb_ rfl rfl rfl), Q_B0, Q_R0, fun h0_ => absurd ((hoff 11 (by kernel_rfl)).symm.trans h0_) (by decide)⟩
            refine steps_cons ?_ ?_
            · rintro b a w' ⟨rv, ha, Q_B0, Q_R0, Q_HRV⟩ hb_ hon hoff
              refine ⟨_, rfl, fun K hK => ?_⟩
              have e163 : a.tmps[163]? = some (.pointer (some ⟨g, pc * 8, none⟩)) := by rw [ha]; exact putSel_on (e := (5, 163, .pointer (some ⟨g, pc * 8, none⟩))) 5 rfl rfl (hon 5 (by kernel_rfl)) rfl
              replace ha := Aside0.mk ha
              have B0 := Aside0.mk Q_B0
              have R0 := Aside0.mk Q_R0
              have cs_ := R0.out.cells HX_pc.out
              refine value_ (w1 := w') (v := .agg #[.int .u64 y.id, .int .u64 y.first, .int .i64 y.prio, .int .i64 y.len, .int .u64 y.en, .bool y.played, .int .i64 y.lpn, .slice y.A y.n y.c]) (by rfl) rfl ?_ ?_
              · go_simp
                (try simp only [i64_w])
                try rfl
              refine hK.out _ _ ⟨rv, (by rw [ha.out]; exact putSel_upk 6 hb_ rfl rfl rfl), Q_B0, Q_R0, fun h0_ => absurd ((hoff 11 (by kernel_rfl)).symm.trans h0_) (by decide)⟩
            refine steps_cons ?_ ?_
            · rintro b a w' ⟨rv, ha, Q_B0, Q_R0, Q_HRV⟩ hb_ hon hoff
              refine ⟨_, rfl, fun K hK => ?_⟩
              have e0 : a.tmps[0]? = some (.slice (some ⟨g, 0, none⟩) n cp) := by rw [ha]; exact (putSel_off rfl).trans rfl
              replace ha := Aside0.mk ha
              have B0 := Aside0.mk Q_B0
              have R0 := Aside0.mk Q_R0
              refine value_ (w1 := w') (v := .slice (some ⟨g, 0, none⟩) n cp) (by rfl) rfl ?_ ?_
              · go_simp
                (try simp only [i64_w])
                try rfl
              refine hK.out _ _ ⟨rv, (by rw [ha.out]; exact putSel_upk 7 hb_ rfl rfl rfl), Q_B0, Q_R0, fun h0_ => absurd ((hoff 11 (by kernel_rfl)).symm.trans h0_) (by decide)⟩
            refine steps_cons ?_ ?_
            · rintro b a w' ⟨rv, ha, Q_B0, Q_R0, Q_HRV⟩ hb_ hon hoff
              refine ⟨_, rfl, fun K hK => ?_⟩
              have e23 : a.tmps[23]? = some (.int .i64 (c : Int)) := by rw [ha]; exact (putSel_off rfl).trans rfl
              replace ha := Aside0.mk ha
              have B0 := Aside0.mk Q_B0
              have R0 := Aside0.mk Q_R0
              refine value_ (w1 := w') (v := .int .i64 (c : Int)) (by rfl) rfl ?_ ?_
              · go_simp
                (try simp only [i64_w])
                try rfl
              refine hK.out _ _ ⟨rv, (by rw [ha.out]; exact putSel_upk 8 hb_ rfl rfl rfl), Q_B0, Q_R0, fun h0_ => absurd ((hoff 11 (by kernel_rfl)).symm.trans h0_) (by decide)⟩
            refine steps_cons ?_ ?_
            · rintro b a w' ⟨rv, ha, Q_B0, Q_R0, Q_HRV⟩ hb_ hon hoff
              refine ⟨_, rfl, fun K hK => ?_⟩
              have e165 : a.tmps[165]? = some (.slice (some ⟨g, 0, none⟩) n cp) := by rw [ha]; exact putSel_on (e := (7, 165, .slice (some ⟨g, 0, none⟩) n cp)) 7 rfl rfl (hon 7 (by kernel_rfl)) rfl
              have e166 : a.tmps[166]? = some (.int .i64 (c : Int)) := by rw [ha]; exact putSel_on (e := (8, 166, .int .i64 (c : Int))) 8 rfl rfl (hon 8 (by kernel_rfl)) rfl
              replace ha := Aside0.mk ha
              have B0 := Aside0.mk Q_B0
              have R0 := Aside0.mk Q_R0
              have p1_ := LO_c.out
              have q1_ := HI_c.out
              refine value_ (w1 := w') (v := .pointer (some ⟨g, c * 8, none⟩)) (by rfl) rfl ?_ ?_
              · go_simp
                (try simp only [i64_w])
                try rfl
              refine hK.out _ _ ⟨rv, (by rw [ha.out]; exact putSel_upk 9 hb_ rfl rfl rfl), Q_B0, Q_R0, fun h0_ => absurd ((hoff 11 (by kernel_rfl)).symm.trans h0_) (by decide)⟩
            refine steps_cons ?_ ?_
            · rintro b a w' ⟨rv, ha, Q_B0, Q_R0, Q_HRV⟩ hb_ hon hoff
              refine ⟨_, rfl, fun K hK => ?_⟩
              have e167 : a.tmps[167]? = some (.pointer (some ⟨g, c * 8, none⟩)) := by rw [ha]; exact putSel_on (e := (9, 167, .pointer (some ⟨g, c * 8, none⟩))) 9 rfl rfl (hon 9 (by kernel_rfl)) rfl
              replace ha := Aside0.mk ha
              have B0 := Aside0.mk Q_B0
              have R0 := Aside0.mk Q_R0
              have cs_ := R0.out.cells HX_c.out
              refine value_ (w1 := w') (v := .agg #[.int .u64 x.id, .int .u64 x.first, .int .i64 x.prio, .int .i64 x.len, .int .u64 x.en, .bool x.played, .int .i64 x.lpn, .slice x.A x.n x.c]) (by rfl) rfl ?_ ?_
              · go_simp
                (try simp only [i64_w])
                try rfl
              refine hK.out _ _ ⟨rv, (by rw [ha.out]; exact putSel_upk 10 hb_ rfl rfl rfl), Q_B0, Q_R0, fun h0_ => absurd ((hoff 11 (by kernel_rfl)).symm.trans h0_) (by decide)⟩
            refine steps_cons ?_ ?_
            · rintro b a w' ⟨rv, ha, Q_B0, Q_R0, Q_HRV⟩ hb_ hon hoff
              refine ⟨_, rfl, fun K hK => ?_⟩
              have e158 : a.tmps[158]? = some (.func (.func 64) #[] #[]) := by rw [ha]; exact putSel_on (e := (0, 158, .func (.func 64) #[] #[])) 0 rfl rfl (hon 0 (by kernel_rfl)) rfl
              have e164 : a.tmps[164]? = some (.agg #[.int .u64 y.id, .int .u64 y.first, .int .i64 y.prio, .int .i64 y.len, .int .u64 y.en, .bool y.played, .int .i64 y.lpn, .slice y.A y.n y.c]) := by rw [ha]; exact putSel_on (e := (6, 164, .agg #[.int .u64 y.id, .int .u64 y.first, .int .i64 y.prio, .int .i64 y.len, .int .u64 y.en, .bool y.played, .int .i64 y.lpn, .slice y.A y.n y.c])) 6 rfl rfl (hon 6 (by kernel_rfl)) rfl
              have e168 : a.tmps[168]? = some (.agg #[.int .u64 x.id, .int .u64 x.first, .int .i64 x.prio, .int .i64 x.len, .int .u64 x.en, .bool x.played, .int .i64 x.lpn, .slice x.A x.n x.c]) := by rw [ha]; exact putSel_on (e := (10, 168, .agg #[.int .u64 x.id, .int .u64 x.first, .int .i64 x.prio, .int .i64 x.len, .int .u64 x.en, .bool x.played, .int .i64 x.lpn, .slice x.A x.n x.c])) 10 rfl rfl (hon 10 (by kernel_rfl)) rfl
              replace ha := Aside0.mk ha
              have B0 := Aside0.mk Q_B0
              have R0 := Aside0.mk Q_R0
              refine goesv_ (t := 158) Try.func64 (by kernel_rfl) rfl #[.agg #[.int .u64 y.id, .int .u64 y.first, .int .i64 y.prio, .int .i64 y.len, .int .u64 y.en, .bool y.played, .int .i64 y.lpn, .slice y.A y.n y.c], .agg #[.int .u64 x.id, .int .u64 x.first, .int .i64 x.prio, .int .i64 x.len, .int .u64 x.en, .bool x.played, .int .i64 x.lpn, .slice x.A x.n x.c]] (by rfl) rfl rfl e158 (by first | (simp only [List.map_toArray, List.map_cons, List.map_nil, Act.eval, Array.getD_eq_getD_getElem?, Option.getD_some, e158, e164, e168]; done) | (simp only [List.map_toArray, List.map_cons, List.map_nil, Act.eval, Array.getD_eq_getD_getElem?, Option.getD_some, e158, e164, e168]; rfl)) ?_
              with_reducible refine (HCMP.out w' y x).mono ?_
              rintro e w2 ⟨r_, rfl, hr_, hb⟩
              refine ⟨_, rfl, ?_⟩
              refine hK.out _ _ ⟨.int .i64 r_, (by rw [ha.out]; exact putSel_upk 11 hb_ rfl rfl rfl), below_row B0.out HG.out R0.out hb, RowB.below R0.out hb, fun _ => ⟨r_, rfl, hr_.trans HTV.out⟩⟩
            refine steps_cons ?_ ?_
            · rintro b a w' ⟨rv, ha, Q_B0, Q_R0, Q_HRV⟩ hb_ hon hoff
              refine ⟨_, rfl, fun K hK => ?_⟩
              have e169 : a.tmps[169]? = some (rv) := by rw [ha]; exact putSel_on (e := (11, 169, rv)) 11 rfl rfl (hon 11 (by kernel_rfl)) rfl
              replace ha := Aside0.mk ha
              have B0 := Aside0.mk Q_B0
              have R0 := Aside0.mk Q_R0
              have HRV := Aside0.mk (Q_HRV (hon 11 (by kernel_rfl)))
              obtain ⟨r_, hr1_, hr2_⟩ := HRV.out
              rw [hr1_] at e169
              refine value_ (w1 := w') (v := .bool true) (by rfl) rfl ?_ ?_
              · go_simp
                (try simp only [i64_w])
                try rfl
              refine hK.out _ _ ⟨rv, (by rw [ha.out]; exact putSel_upk 12 hb_ rfl rfl rfl), Q_B0, Q_R0, Q_HRV⟩
            refine steps_cons ?_ ?_
            · rintro b a w' ⟨rv, ha, Q_B0, Q_R0, Q_HRV⟩ hb_ hon hoff
              refine ⟨_, rfl, fun K hK => ?_⟩
              have e170 : a.tmps[170]? = some (.bool true) := by rw [ha]; exact putSel_on (e := (12, 170, .bool true)) 12 rfl rfl (hon 12 (by kernel_rfl)) rfl
              replace ha := Aside0.mk ha
              have B0 := Aside0.mk Q_B0
              have R0 := Aside0.mk Q_R0
              have HRV := Aside0.mk (Q_HRV (hon 11 (by kernel_rfl)))
              refine value_ (w1 := w') (v := .bool false) (by rfl) rfl ?_ ?_
              · go_simp
                (try simp only [i64_w])
                try rfl
              refine hK.out _ _ ⟨rv, (by rw [ha.out]; exact putSel_upk 13 hb_ rfl rfl rfl), Q_B0, Q_R0, Q_HRV⟩
            exact steps_nil
          rintro b a wl hall ⟨rv, ha, Q_B0, Q_R0, Q_HRV⟩
          clear B0 R0
          have hb0_ := hall 0 (by kernel_rfl)
          have hb1_ := hall 1 (by kernel_rfl)
          have hb2_ := hall 2 (by kernel_rfl)
          have hb3_ := hall 3 (by kernel_rfl)
          have hb4_ := hall 4 (by kernel_rfl)
          have hb5_ := hall 5 (by kernel_rfl)
          have hb6_ := hall 6 (by kernel_rfl)
          have hb7_ := hall 7 (by kernel_rfl)
          have hb8_ := hall 8 (by kernel_rfl)
          have hb9_ := hall 9 (by kernel_rfl)
          have hb10_ := hall 10 (by kernel_rfl)
          have hb11_ := hall 11 (by kernel_rfl)
          have hb12_ := hall 12 (by kernel_rfl)
          have hb13_ := hall 13 (by kernel_rfl)
          subst ha
          simp only [putSel, hb0_, hb1_, hb2_, hb3_, hb4_, hb5_, hb6_, hb7_, hb8_, hb9_, hb10_, hb11_, hb12_, hb13_, if_true, Act.put, List.setIfInBounds_toArray, List.set_cons_zero, List.set_cons_succ]
          have B0 := Aside0.mk Q_B0
          clear Q_B0
          have R0 := Aside0.mk Q_R0
          clear Q_R0
          have HRV := Aside0.mk (Q_HRV hb11_)
          clear Q_HRV
          clear hall hb0_ hb1_ hb2_ hb3_ hb4_ hb5_ hb6_ hb7_ hb8_ hb9_ hb10_ hb11_ hb12_ hb13_
          clear HRV
          go_wp2_with fail
          go_roundg (c - i)
          case measure => have := HQ.out; have := HBD.out; omega
          case rel => exact ⟨i, c, rfl, rfl, HB2, R0, B0, ⟨by have := HBD.out; omega⟩⟩
        | false =>
          have HTV := Aside0.mk htv
          have HB2 := Aside0.mk (HBS.out.up HMO.out HBD.out.1.1 HBD.out.1.2.1 (by rw [hf, htv]; rfl))
          clear htv hf
          refine start_ (n := 14) (S := fun w' => True) (ds := []) #[false, false, false, false, false, false, false, false, false, false, false, false, false, false] (by kernel_rfl) rfl rfl trivial (fun hHeld => ?_)
          refine with_tabW symg.tab35 symg.bits35 (fun HT_ HW_ => ?_)
          generalize wr.drew = wq at B0 R0 hHeld ⊢
          refine inv_at [0, 1, 2, 3, 4, 5, 6, 7, 8, 9, 10, 11, 12, 13] (fun a0_ b a w' => ∃ (rv : Value), a = putSel a0_ b [(0, 158, .func (.func 64) #[] #[]), (1, 159, .slice (some ⟨g, 0, none⟩) n cp), (2, 160, .int .i64 (p : Int)), (3, 161, .int .i64 (c : Int)), (4, 162, .int .i64 (pc : Int)), (5, 163, .pointer (some ⟨g, pc * 8, none⟩)), (6, 164, .agg #[.int .u64 y.id, .int .u64 y.first, .int .i64 y.prio, .int .i64 y.len, .int .u64 y.en, .bool y.played, .int .i64 y.lpn, .slice y.A y.n y.c]), (7, 165, .slice (some ⟨g, 0, none⟩) n cp), (8, 166, .int .i64 (c : Int)), (9, 167, .pointer (some ⟨g, c * 8, none⟩)), (10, 168, .agg #[.int .u64 x.id, .int .u64 x.first, .int .i64 x.prio, .int .i64 x.len, .int .u64 x.en, .bool x.played, .int .i64 x.lpn, .slice x.A x.n x.c]), (11, 169, rv), (12, 170, .bool false), (13, 171, .bool true)] ∧ (Kp g w0 w') ∧ (RowB w' g dd) ∧ (b 11 = true → ∃ r_ : Int, rv = .int .i64 r_ ∧ decide (r_ < 0) = false)) HT_.out HW_.out (by kernel_rfl) (by kernel_rfl) ?_ ?_ ?_
          · exact ⟨.bool false, by simp only [putSel, Bool.false_eq_true, if_false], B0.out, R0.out, fun h_ => absurd h_ (by decide)⟩
          · skip
            clear B0 R0
            refine steps_cons ?_ ?_
            · rintro b a w' ⟨rv, ha, Q_B0, Q_R0, Q_HRV⟩ hb_ hon hoff
              refine ⟨_, rfl, fun K hK => ?_⟩
              have e4 : a.tmps[4]? = some (.func (.func 64) #[] #[]) := by rw [ha]; exact (putSel_off rfl).trans rfl
              replace ha := Aside0.mk ha
              have B0 := Aside0.mk Q_B0
              have R0 := Aside0.mk Q_R0
              refine value_ (w1 := w') (v := .func (.func 64) #[] #[]) (by rfl) rfl ?_ ?_
              · go_simp
                (try simp only [i64_w])
                try rfl
              refine hK.out _ _ ⟨rv, (by rw [ha.out]; exact putSel_upk 0 hb_ rfl rfl rfl), Q_B0, Q_R0, fun h0_ => absurd ((hoff 11 (by kernel_rfl)).symm.trans h0_) (by decide)⟩
            refine steps_cons ?_ ?_
            · rintro b a w' ⟨rv, ha, Q_B0, Q_R0, Q_HRV⟩ hb_ hon hoff
              refine ⟨_, rfl, fun K hK => ?_⟩
              have e0 : a.tmps[0]? = some (.slice (some ⟨g, 0, none⟩) n cp) := by rw [ha]; exact (putSel_off rfl).trans rfl
              replace ha := Aside0.mk ha
              have B0 := Aside0.mk Q_B0
              have R0 := Aside0.mk Q_R0
              refine value_ (w1 := w') (v := .slice (some ⟨g, 0, none⟩) n cp) (by rfl) rfl ?_ ?_
              · go_simp
                (try simp only [i64_w])
                try rfl
              refine hK.out _ _ ⟨rv, (by rw [ha.out]; exact putSel_upk 1 hb_ rfl rfl rfl), Q_B0, Q_R0, fun h0_ => absurd ((hoff 11 (by kernel_rfl)).symm.trans h0_) (by decide)⟩
            refine steps_cons ?_ ?_
            · rintro b a w' ⟨rv, ha, Q_B0, Q_R0, Q_HRV⟩ hb_ hon hoff
              refine ⟨_, rfl, fun K hK => ?_⟩
              have e22 : a.tmps[22]? = some (.int .i64 (p : Int)) := by rw [ha]; exact (putSel_off rfl).trans rfl
              replace ha := Aside0.mk ha
              have B0 := Aside0.mk Q_B0
              have R0 := Aside0.mk Q_R0
              refine value_ (w1 := w') (v := .int .i64 (p : Int)) (by rfl) rfl ?_ ?_
              · go_simp
                (try simp only [i64_w])
                try rfl
              refine hK.out _ _ ⟨rv, (by rw [ha.out]; exact putSel_upk 2 hb_ rfl rfl rfl), Q_B0, Q_R0, fun h0_ => absurd ((hoff 11 (by kernel_rfl)).symm.trans h0_) (by decide)⟩
            refine steps_cons ?_ ?_
            · rintro b a w' ⟨rv, ha, Q_B0, Q_R0, Q_HRV⟩ hb_ hon hoff
              refine ⟨_, rfl, fun K hK => ?_⟩
              have e23 : a.tmps[23]? = some (.int .i64 (c : Int)) := by rw [ha]; exact (putSel_off rfl).trans rfl
              replace ha := Aside0.mk ha
              have B0 := Aside0.mk Q_B0
              have R0 := Aside0.mk Q_R0
              refine value_ (w1 := w') (v := .int .i64 (c : Int)) (by rfl) rfl ?_ ?_
              · go_simp
                (try simp only [i64_w])
                try rfl
              refine hK.out _ _ ⟨rv, (by rw [ha.out]; exact putSel_upk 3 hb_ rfl rfl rfl), Q_B0, Q_R0, fun h0_ => absurd ((hoff 11 (by kernel_rfl)).symm.trans h0_) (by decide)⟩
            refine steps_cons ?_ ?_
            · rintro b a w' ⟨rv, ha, Q_B0, Q_R0, Q_HRV⟩ hb_ hon hoff
              refine ⟨_, rfl, fun K hK => ?_⟩
              have e160 : a.tmps[160]? = some (.int .i64 (p : Int)) := by rw [ha]; exact putSel_on (e := (2, 160, .int .i64 (p : Int))) 2 rfl rfl (hon 2 (by kernel_rfl)) rfl
              have e161 : a.tmps[161]? = some (.int .i64 (c : Int)) := by rw [ha]; exact putSel_on (e := (3, 161, .int .i64 (c : Int))) 3 rfl rfl (hon 3 (by kernel_rfl)) rfl
              replace ha := Aside0.mk ha
              have B0 := Aside0.mk Q_B0
              have R0 := Aside0.mk Q_R0
              have hw0_ := HWP.out
              refine value_ (w1 := w') (v := .int .i64 (pc : Int)) (by rfl) rfl ?_ ?_
              · go_simp
                (try simp only [i64_w])
                try rfl
              refine hK.out _ _ ⟨rv, (by rw [ha.out]; exact putSel_upk 4 hb_ rfl rfl rfl), Q_B0, Q_R0, fun h0_ => absurd ((hoff 11 (by kernel_rfl)).symm.trans h0_) (by decide)⟩
            refine steps_cons ?_ ?_
            · rintro b a w' ⟨rv, ha, Q_B0, Q_R0, Q_HRV⟩ hb_ hon hoff
              refine ⟨_, rfl, fun K hK => ?_⟩
              have e159 : a.tmps[159]? = some (.slice (some ⟨g, 0, none⟩) n cp) := by rw [ha]; exact putSel_on (e := (1, 159, .slice (some ⟨g, 0, none⟩) n cp)) 1 rfl rfl (hon 1 (by kernel_rfl)) rfl
              have e162 : a.tmps[162]? = some (.int .i64 (pc : Int)) := by rw [ha]; exact putSel_on (e := (4, 162, .int .i64 (pc : Int))) 4 rfl rfl (hon 4 (by kernel_rfl)) rfl
              replace ha := Aside0.mk ha
              have B0 := Aside0.mk Q_B0
              have R0 := Aside0.mk Q_R0
              have p1_ := LO_pc.out
              have q1_ := HI_pc.out
              refine value_ (w1 := w') (v := .pointer (some ⟨g, pc * 8, none⟩)) (by rfl) rfl ?_ ?_
              · go_simp
                (try simp only [i64_w])
                try rfl
              refine hK.out _ _ ⟨rv, (by rw [ha.out]; exact putSel_upk 5 hb_ rfl rfl rfl), Q_B0, Q_R0, fun h0_ => absurd ((hoff 11 (by kernel_rfl)).symm.trans h0_) (by decide)⟩
            refine steps_cons ?_ ?_
            · rintro b a w' ⟨rv, ha, Q_B0, Q_R0, Q_HRV⟩ hb_ hon hoff
              refine ⟨_, rfl, fun K hK => ?_⟩
              have e163 : a.tmps[163]? = some (.pointer (some ⟨g, pc * 8, none⟩)) := by rw [ha]; exact putSel_on (e := (5, 163, .pointer (some ⟨g, pc * 8, none⟩))) 5 rfl rfl (hon 5 (by kernel_rfl)) rfl
              replace ha := Aside0.mk ha
              have B0 := Aside0.mk Q_B0
              have R0 := Aside0.mk Q_R0
              have cs_ := R0.out.cells HX_pc.out
              refine value_ (w1 := w') (v := .agg #[.int .u64 y.id, .int .u64 y.first, .int .i64 y.prio, .int .i64 y.len, .int .u64 y.en, .bool y.played, .int .i64 y.lpn, .slice y.A y.n y.c]) (by rfl) rfl ?_ ?_
              · go_simp
                (try simp only [i64_w])
                try rfl
              refine hK.out _ _ ⟨rv, (by rw [ha.out]; exact putSel_upk 6 hb_ rfl rfl rfl), Q_B0, Q_R0, fun h0_ => absurd ((hoff 11 (by kernel_rfl)).symm.trans h0_) (by decide)⟩
            refine steps_cons ?_ ?_
            · rintro b a w' ⟨rv, ha, Q_B0, Q_R0, Q_HRV⟩ hb_ hon hoff
              refine ⟨_, rfl, fun K hK => ?_⟩
              have e0 : a.tmps[0]? = some (.slice (some ⟨g, 0, none⟩) n cp) := by rw [ha]; exact (putSel_off rfl).trans rfl
              replace ha := Aside0.mk ha
              have B0 := Aside0.mk Q_B0
              have R0 := Aside0.mk Q_R0
              refine value_ (w1 := w') (v := .slice (some ⟨g, 0, none⟩) n cp) (by rfl) rfl ?_ ?_
              · go_simp
                (try simp only [i64_w])
                try rfl
              refine hK.out _ _ ⟨rv, (by rw [ha.out]; exact putSel_upk 7 hb_ rfl rfl rfl), Q_B0, Q_R0, fun h0_ => absurd ((hoff 11 (by kernel_rfl)).symm.trans h0_) (by decide)⟩
            refine steps_cons ?_ ?_
            · rintro b a w' ⟨rv, ha, Q_B0, Q_R0, Q_HRV⟩ hb_ hon hoff
              refine ⟨_, rfl, fun K hK => ?_⟩
              have e23 : a.tmps[23]? = some (.int .i64 (c : Int)) := by rw [ha]; exact (putSel_off rfl).trans rfl
              replace ha := Aside0.mk ha
              have B0 := Aside0.mk Q_B0
              have R0 := Aside0.mk Q_R0
              refine value_ (w1 := w') (v := .int .i64 (c : Int)) (by rfl) rfl ?_ ?_
              · go_simp
                (try simp only [i64_w])
                try rfl
              refine hK.out _ _ ⟨rv, (by rw [ha.out]; exact putSel_upk 8 hb_ rfl rfl rfl), Q_B0, Q_R0, fun h0_ => absurd ((hoff 11 (by kernel_rfl)).symm.trans h0_) (by decide)⟩
            refine steps_cons ?_ ?_
            · rintro b a w' ⟨rv, ha, Q_B0, Q_R0, Q_HRV⟩ hb_ hon hoff
              refine ⟨_, rfl, fun K hK => ?_⟩
              have e165 : a.tmps[165]? = some (.slice (some ⟨g, 0, none⟩) n cp) := by rw [ha]; exact putSel_on (e := (7, 165, .slice (some ⟨g, 0, none⟩) n cp)) 7 rfl rfl (hon 7 (by kernel_rfl)) rfl
              have e166 : a.tmps[166]? = some (.int .i64 (c : Int)) := by rw [ha]; exact putSel_on (e := (8, 166, .int .i64 (c : Int))) 8 rfl rfl (hon 8 (by kernel_rfl)) rfl
              replace ha := Aside0.mk ha
              have B0 := Aside0.mk Q_B0
              have R0 := Aside0.mk Q_R0
              have p1_ := LO_c.out
              have q1_ := HI_c.out
              refine value_ (w1 := w') (v := .pointer (some ⟨g, c * 8, none⟩)) (by rfl) rfl ?_ ?_
              · go_simp
                (try simp only [i64_w])
                try rfl
              refine hK.out _ _ ⟨rv, (by rw [ha.out]; exact putSel_upk 9 hb_ rfl rfl rfl), Q_B0, Q_R0, fun h0_ => absurd ((hoff 11 (by kernel_rfl)).symm.trans h0_) (by decide)⟩
            refine steps_cons ?_ ?_
            · rintro b a w' ⟨rv, ha, Q_B0, Q_R0, Q_HRV⟩ hb_ hon hoff
              refine ⟨_, rfl, fun K hK => ?_⟩
              have e167 : a.tmps[167]? = some (.pointer (some ⟨g, c * 8, none⟩)) := by rw [ha]; exact putSel_on (e := (9, 167, .pointer (some ⟨g, c * 8, none⟩))) 9 rfl rfl (hon 9 (by kernel_rfl)) rfl
              replace ha := Aside0.mk ha
              have B0 := Aside0.mk Q_B0
              have R0 := Aside0.mk Q_R0
              have cs_ := R0.out.cells HX_c.out
              refine value_ (w1 := w') (v := .agg #[.int .u64 x.id, .int .u64 x.first, .int .i64 x.prio, .int .i64 x.len, .int .u64 x.en, .bool x.played, .int .i64 x.lpn, .slice x.A x.n x.c]) (by rfl) rfl ?_ ?_
              · go_simp
                (try simp only [i64_w])
                try rfl
              refine hK.out _ _ ⟨rv, (by rw [ha.out]; exact putSel_upk 10 hb_ rfl rfl rfl), Q_B0, Q_R0, fun h0_ => absurd ((hoff 11 (by kernel_rfl)).symm.trans h0_) (by decide)⟩
            refine steps_cons ?_ ?_
            · rintro b a w' ⟨rv, ha, Q_B0, Q_R0, Q_HRV⟩ hb_ hon hoff
              refine ⟨_, rfl, fun K hK => ?_⟩
              have e158 : a.tmps[158]? = some (.func (.func 64) #[] #[]) := by rw [ha]; exact putSel_on (e := (0, 158, .func (.func 64) #[] #[])) 0 rfl rfl (hon 0 (by kernel_rfl)) rfl
              have e164 : a.tmps[164]? = some (.agg #[.int .u64 y.id, .int .u64 y.first, .int .i64 y.prio, .int .i64 y.len, .int .u64 y.en, .bool y.played, .int .i64 y.lpn, .slice y.A y.n y.c]) := by rw [ha]; exact putSel_on (e := (6, 164, .agg #[.int .u64 y.id, .int .u64 y.first, .int .i64 y.prio, .int .i64 y.len, .int .u64 y.en, .bool y.played, .int .i64 y.lpn, .slice y.A y.n y.c])) 6 rfl rfl (hon 6 (by kernel_rfl)) rfl
              have e168 : a.tmps[168]? = some (.agg #[.int .u64 x.id, .int .u64 x.first, .int .i64 x.prio, .int .i64 x.len, .int .u64 x.en, .bool x.played, .int .i64 x.lpn, .slice x.A x.n x.c]) := by rw [ha]; exact putSel_on (e := (10, 168, .agg #[.int .u64 x.id, .int .u64 x.first, .int .i64 x.prio, .int .i64 x.len, .int .u64 x.en, .bool x.played, .int .i64 x.lpn, .slice x.A x.n x.c])) 10 rfl rfl (hon 10 (by kernel_rfl)) rfl
              replace ha := Aside0.mk ha
              have B0 := Aside0.mk Q_B0
              have R0 := Aside0.mk Q_R0
              refine goesv_ (t := 158) Try.func64 (by kernel_rfl) rfl #[.agg #[.int .u64 y.id, .int .u64 y.first, .int .i64 y.prio, .int .i64 y.len, .int .u64 y.en, .bool y.played, .int .i64 y.lpn, .slice y.A y.n y.c], .agg #[.int .u64 x.id, .int .u64 x.first, .int .i64 x.prio, .int .i64 x.len, .int .u64 x.en, .bool x.played, .int .i64 x.lpn, .slice x.A x.n x.c]] (by rfl) rfl rfl e158 (by first | (simp only [List.map_toArray, List.map_cons, List.map_nil, Act.eval, Array.getD_eq_getD_getElem?, Option.getD_some, e158, e164, e168]; done) | (simp only [List.map_toArray, List.map_cons, List.map_nil, Act.eval, Array.getD_eq_getD_getElem?, Option.getD_some, e158, e164, e168]; rfl)) ?_
              with_reducible refine (HCMP.out w' y x).mono ?_
              rintro e w2 ⟨r_, rfl, hr_, hb⟩
              refine ⟨_, rfl, ?_⟩
              refine hK.out _ _ ⟨.int .i64 r_, (by rw [ha.out]; exact putSel_upk 11 hb_ rfl rfl rfl), below_row B0.out HG.out R0.out hb, RowB.below R0.out hb, fun _ => ⟨r_, rfl, hr_.trans HTV.out⟩⟩
            refine steps_cons ?_ ?_
            · rintro b a w' ⟨rv, ha, Q_B0, Q_R0, Q_HRV⟩ hb_ hon hoff
              refine ⟨_, rfl, fun K hK => ?_⟩
              have e169 : a.tmps[169]? = some (rv) := by rw [ha]; exact putSel_on (e := (11, 169, rv)) 11 rfl rfl (hon 11 (by kernel_rfl)) rfl
              replace ha := Aside0.mk ha
              have B0 := Aside0.mk Q_B0
              have R0 := Aside0.mk Q_R0
              have HRV := Aside0.mk (Q_HRV (hon 11 (by kernel_rfl)))
              obtain ⟨r_, hr1_, hr2_⟩ := HRV.out
              rw [hr1_] at e169
              refine value_ (w1 := w') (v := .bool false) (by rfl) rfl ?_ ?_
              · go_simp
                (try simp only [i64_w])
                try rfl
              refine hK.out _ _ ⟨rv, (by rw [ha.out]; exact putSel_upk 12 hb_ rfl rfl rfl), Q_B0, Q_R0, Q_HRV⟩
            refine steps_cons ?_ ?_
            · rintro b a w' ⟨rv, ha, Q_B0, Q_R0, Q_HRV⟩ hb_ hon hoff
              refine ⟨_, rfl, fun K hK => ?_⟩
              have e170 : a.tmps[170]? = some (.bool false) := by rw [ha]; exact putSel_on (e := (12, 170, .bool false)) 12 rfl rfl (hon 12 (by kernel_rfl)) rfl
              replace ha := Aside0.mk ha
              have B0 := Aside0.mk Q_B0
              have R0 := Aside0.mk Q_R0
              have HRV := Aside0.mk (Q_HRV (hon 11 (by kernel_rfl)))
              refine value_ (w1 := w') (v := .bool true) (by rfl) rfl ?_ ?_
              · go_simp
                (try simp only [i64_w])
                try rfl
              refine hK.out _ _ ⟨rv, (by rw [ha.out]; exact putSel_upk 13 hb_ rfl rfl rfl), Q_B0, Q_R0, Q_HRV⟩
            exact steps_nil
          rintro b a wl hall ⟨rv, ha, Q_B0, Q_R0, Q_HRV⟩
          clear B0 R0
          have hb0_ := hall 0 (by kernel_rfl)
          have hb1_ := hall 1 (by kernel_rfl)
          have hb2_ := hall 2 (by kernel_rfl)
          have hb3_ := hall 3 (by kernel_rfl)
          have hb4_ := hall 4 (by kernel_rfl)
          have hb5_ := hall 5 (by kernel_rfl)
          have hb6_ := hall 6 (by kernel_rfl)
          have hb7_ := hall 7 (by kernel_rfl)
          have hb8_ := hall 8 (by kernel_rfl)
          have hb9_ := hall 9 (by kernel_rfl)
          have hb10_ := hall 10 (by kernel_rfl)
          have hb11_ := hall 11 (by kernel_rfl)
          have hb12_ := hall 12 (by kernel_rfl)
          have hb13_ := hall 13 (by kernel_rfl)
          subst ha
          simp only [putSel, hb0_, hb1_, hb2_, hb3_, hb4_, hb5_, hb6_, hb7_, hb8_, hb9_, hb10_, hb11_, hb12_, hb13_, if_true, Act.put, List.setIfInBounds_toArray, List.set_cons_zero, List.set_cons_succ]
          have B0 := Aside0.mk Q_B0
          clear Q_B0
          have R0 := Aside0.mk Q_R0
          clear Q_R0
          have HRV := Aside0.mk (Q_HRV hb11_)
          clear Q_HRV
          clear hall hb0_ hb1_ hb2_ hb3_ hb4_ hb5_ hb6_ hb7_ hb8_ hb9_ hb10_ hb11_ hb12_ hb13_
          clear HRV
          go_wp2_with fail
          go_roundg (j - (c + 1))
          case measure => have := HQ.out; have := HBD.out; omega
          case rel => exact ⟨c + 1, j, by first | rfl | (simp; unfold wrap64; have := HBD.out; have := HL.out; omega), rfl, HB2, R0, B0, ⟨by have := HBD.out; omega⟩⟩
      case neg =>
        have hie : i = j := by have := HBS.out; unfold Bs at this; omega
        subst hie
        obtain ⟨s, hs⟩ : ∃ s, s = i := ⟨_, rfl⟩
        subst hs
        have t1 : decide (s < s) = false := decide_eq_false (by omega)
        obtain ⟨e, he⟩ : ∃ e, e = mid + im - s := ⟨_, rfl⟩
        have hbs := HBS.out
        rw [HDD.out, show p = mid + im - 1 by have := HN.out; omega] at hbs
        obtain ⟨D1, D2, hT⟩ := sym_tail lt HO.out N w0 g HG.out cp ia im ib n mid ia im s e P A B Q HNL.out HL.out.2.2.2.2.1 HIH.out HAB.out.1 HAB.out.2 (by have := HL.out; omega) (by have := HL.out; omega) (by have := HL.out; omega) (by have := HL.out; omega) (by have := HL.out; omega) (by have := HN.out; omega) (by have := HLO.out; have := HN.out; have := HL.out; omega) hbs he
        rw [← HDD.out] at hT
        have HT := Aside0.mk hT
        have HBD : Aside0 ((ia ≤ s ∧ s ≤ im ∧ s ≤ mid ∧ im ≤ e ∧ e ≤ ib) ∧ e = mid + im - s) := ⟨hT.2.2.2.2.2.2, he⟩
        have HW2 : IntKind.i64.wrap ((nn : Int) - (s : Int)) = (e : Int) := by rw [i64_w]; unfold wrap64; have := HL.out; have := HN.out; have := HBD.out; omega
        clear hT hbs he hij HMO HBS
        go_upto_region 39 with fail
        clear t1 HW2
        by_cases hu1 : s < im <;> by_cases hu2 : s < mid <;> by_cases hu3 : ia < s <;> by_cases hu4 : e < ib
        · have g1 : decide (s < im) = true := decide_eq_true (by omega)
          have g2 : decide (im < e) = true := decide_eq_true (by have := HBD.out; omega)
          have g3 : decide (ia < s) = true := decide_eq_true (by have := HBD.out; omega)
          have g4 : decide (s < mid) = true := decide_eq_true (by have := HBD.out; omega)
          have g5 : decide (mid < e) = true := decide_eq_true (by have := HBD.out; omega)
          have g6 : decide (e < ib) = true := decide_eq_true (by have := HBD.out; omega)
          have HC1 := Aside0.mk (HT.out.1 hu1 hu2)
          have HC2 := Aside0.mk (HT.out.2.2.1 hu3 hu2)
          have HC3 := Aside0.mk (HT.out.2.2.2.2.1 hu1 hu4)
          clear HT hu1 hu2 hu3 hu4
          go_wp2_with (first | (go_at_call 83; refine (HC1.out _ BB.out (RR.out)).mono ?_; rintro e1_ w1 ⟨rfl, B1, R1⟩) | (go_at_call 81; with_reducible refine (HC2.out _ B1 (R1)).mono ?_; rintro e2_ w2 ⟨rfl, B2, R2⟩) | (go_at_call 81; with_reducible refine (HC3.out _ B2 (R2)).mono ?_; rintro e3_ w3 ⟨rfl, B3, R3⟩))
          go_end0
          exact ⟨rfl, B3, R3⟩
        · have g1 : decide (s < im) = true := decide_eq_true (by omega)
          have g2 : decide (im < e) = true := decide_eq_true (by have := HBD.out; omega)
          have g3 : decide (ia < s) = true := decide_eq_true (by have := HBD.out; omega)
          have g4 : decide (s < mid) = true := decide_eq_true (by have := HBD.out; omega)
          have g5 : decide (mid < e) = true := decide_eq_true (by have := HBD.out; omega)
          have g6 : decide (e < ib) = false := decide_eq_false (by have := HBD.out; omega)
          have HC1 := Aside0.mk (HT.out.1 hu1 hu2)
          have HC2 := Aside0.mk (HT.out.2.2.1 hu3 hu2)
          have HK3 := Aside0.mk (HT.out.2.2.2.2.2.1 (by omega))
          clear HT hu1 hu2 hu3 hu4
          go_wp2_with (first | (go_at_call 83; refine (HC1.out _ BB.out (RR.out)).mono ?_; rintro e1_ w1 ⟨rfl, B1, R1⟩) | (go_at_call 81; with_reducible refine (HC2.out _ B1 (R1)).mono ?_; rintro e2_ w2 ⟨rfl, B2, R2⟩))
          go_end0
          exact ⟨rfl, B2, HK3.out _ (R2)⟩
        · have g1 : decide (s < im) = true := decide_eq_true (by omega)
          have g2 : decide (im < e) = true := decide_eq_true (by have := HBD.out; omega)
          have g3 : decide (ia < s) = false := decide_eq_false (by have := HBD.out; omega)
          have g4 : decide (s < mid) = true := decide_eq_true (by have := HBD.out; omega)
          have g5 : decide (mid < e) = true := decide_eq_true (by have := HBD.out; omega)
          have g6 : decide (e < ib) = true := decide_eq_true (by have := HBD.out; omega)
          have HC1 := Aside0.mk (HT.out.1 hu1 hu2)
          have HK2 := Aside0.mk (HT.out.2.2.2.1 (by omega))
          have HC3 := Aside0.mk (HT.out.2.2.2.2.1 hu1 hu4)
          clear HT hu1 hu2 hu3 hu4
          go_wp2_with (first | (go_at_call 83; refine (HC1.out _ BB.out (RR.out)).mono ?_; rintro e1_ w1 ⟨rfl, B1, R1⟩) | (go_at_call 81; with_reducible refine (HC3.out _ B1 (HK2.out _ (R1))).mono ?_; rintro e3_ w3 ⟨rfl, B3, R3⟩))
          go_end0
          exact ⟨rfl, B3, R3⟩
        · have g1 : decide (s < im) = true := decide_eq_true (by omega)
          have g2 : decide (im < e) = true := decide_eq_true (by have := HBD.out; omega)
          have g3 : decide (ia < s) = false := decide_eq_false (by have := HBD.out; omega)
          have g4 : decide (s < mid) = true := decide_eq_true (by have := HBD.out; omega)
          have g5 : decide (mid < e) = true := decide_eq_true (by have := HBD.out; omega)
          have g6 : decide (e < ib) = false := decide_eq_false (by have := HBD.out; omega)
          have HC1 := Aside0.mk (HT.out.1 hu1 hu2)
          have HK2 := Aside0.mk (HT.out.2.2.2.1 (by omega))
          have HK3 := Aside0.mk (HT.out.2.2.2.2.2.1 (by omega))
          clear HT hu1 hu2 hu3 hu4
          go_wp2_with (first | (go_at_call 83; refine (HC1.out _ BB.out (RR.out)).mono ?_; rintro e1_ w1 ⟨rfl, B1, R1⟩))
          go_end0
          exact ⟨rfl, B1, HK3.out _ (HK2.out _ (R1))⟩
        · have g1 : decide (s < im) = true := decide_eq_true (by omega)
          have g2 : decide (im < e) = false := decide_eq_false (by have := HBD.out; omega)
          have g3 : decide (ia < s) = true := decide_eq_true (by have := HBD.out; omega)
          have g4 : decide (s < mid) = false := decide_eq_false (by have := HBD.out; omega)
          have g5 : decide (mid < e) = true := decide_eq_true (by have := HBD.out; omega)
          have g6 : decide (e < ib) = true := decide_eq_true (by have := HBD.out; omega)
          have HK1 := Aside0.mk (HT.out.2.1 (by omega))
          have HK2 := Aside0.mk (HT.out.2.2.2.1 (by omega))
          have HC3 := Aside0.mk (HT.out.2.2.2.2.1 hu1 hu4)
          clear HT hu1 hu2 hu3 hu4
          go_wp2_with (first | (go_at_call 81; with_reducible refine (HC3.out _ BB.out (HK2.out _ (HK1.out _ (RR.out)))).mono ?_; rintro e3_ w3 ⟨rfl, B3, R3⟩))
          go_end0
          exact ⟨rfl, B3, R3⟩
        · have g1 : decide (s < im) = true := decide_eq_true (by omega)
          have g2 : decide (im < e) = false := decide_eq_false (by have := HBD.out; omega)
          have g3 : decide (ia < s) = true := decide_eq_true (by have := HBD.out; omega)
          have g4 : decide (s < mid) = false := decide_eq_false (by have := HBD.out; omega)
          have g5 : decide (mid < e) = true := decide_eq_true (by have := HBD.out; omega)
          have g6 : decide (e < ib) = false := decide_eq_false (by have := HBD.out; omega)
          have HK1 := Aside0.mk (HT.out.2.1 (by omega))
          have HK2 := Aside0.mk (HT.out.2.2.2.1 (by omega))
          have HK3 := Aside0.mk (HT.out.2.2.2.2.2.1 (by omega))
          clear HT hu1 hu2 hu3 hu4
          go_wp2_with fail
          go_end0
          exact ⟨rfl, BB.out, HK3.out _ (HK2.out _ (HK1.out _ (RR.out)))⟩
        · have g1 : decide (s < im) = true := decide_eq_true (by omega)
          have g2 : decide (im < e) = false := decide_eq_false (by have := HBD.out; omega)
          have g3 : decide (ia < s) = false := decide_eq_false (by have := HBD.out; omega)
          have g4 : decide (s < mid) = false := decide_eq_false (by have := HBD.out; omega)
          have g5 : decide (mid < e) = true := decide_eq_true (by have := HBD.out; omega)
          have g6 : decide (e < ib) = true := decide_eq_true (by have := HBD.out; omega)
          have HK1 := Aside0.mk (HT.out.2.1 (by omega))
          have HK2 := Aside0.mk (HT.out.2.2.2.1 (by omega))
          have HC3 := Aside0.mk (HT.out.2.2.2.2.1 hu1 hu4)
          clear HT hu1 hu2 hu3 hu4
          go_wp2_with (first | (go_at_call 81; with_reducible refine (HC3.out _ BB.out (HK2.out _ (HK1.out _ (RR.out)))).mono ?_; rintro e3_ w3 ⟨rfl, B3, R3⟩))
          go_end0
          exact ⟨rfl, B3, R3⟩
        · have g1 : decide (s < im) = true := decide_eq_true (by omega)
          have g2 : decide (im < e) = false := decide_eq_false (by have := HBD.out; omega)
          have g3 : decide (ia < s) = false := decide_eq_false (by have := HBD.out; omega)
          have g4 : decide (s < mid) = false := decide_eq_false (by have := HBD.out; omega)
          have g5 : decide (mid < e) = true := decide_eq_true (by have := HBD.out; omega)
          have g6 : decide (e < ib) = false := decide_eq_false (by have := HBD.out; omega)
          have HK1 := Aside0.mk (HT.out.2.1 (by omega))
          have HK2 := Aside0.mk (HT.out.2.2.2.1 (by omega))
          have HK3 := Aside0.mk (HT.out.2.2.2.2.2.1 (by omega))
          clear HT hu1 hu2 hu3 hu4
          go_wp2_with fail
          go_end0
          exact ⟨rfl, BB.out, HK3.out _ (HK2.out _ (HK1.out _ (RR.out)))⟩
        · have g1 : decide (s < im) = false := decide_eq_false (by omega)
          have g2 : decide (im < e) = true := decide_eq_true (by have := HBD.out; omega)
          have g3 : decide (ia < s) = true := decide_eq_true (by have := HBD.out; omega)
          have g4 : decide (s < mid) = true := decide_eq_true (by have := HBD.out; omega)
          have g5 : decide (mid < e) = false := decide_eq_false (by have := HBD.out; omega)
          have g6 : decide (e < ib) = true := decide_eq_true (by have := HBD.out; omega)
          have HK1 := Aside0.mk (HT.out.2.1 (by omega))
          have HC2 := Aside0.mk (HT.out.2.2.1 hu3 hu2)
          have HK3 := Aside0.mk (HT.out.2.2.2.2.2.1 (by omega))
          clear HT hu1 hu2 hu3 hu4
          go_wp2_with (first | (go_at_call 81; with_reducible refine (HC2.out _ BB.out (HK1.out _ (RR.out))).mono ?_; rintro e2_ w2 ⟨rfl, B2, R2⟩))
          go_end0
          exact ⟨rfl, B2, HK3.out _ (R2)⟩
        · have g1 : decide (s < im) = false := decide_eq_false (by omega)
          have g2 : decide (im < e) = true := decide_eq_true (by have := HBD.out; omega)
          have g3 : decide (ia < s) = true := decide_eq_true (by have := HBD.out; omega)
          have g4 : decide (s < mid) = true := decide_eq_true (by have := HBD.out; omega)
          have g5 : decide (mid < e) = false := decide_eq_false (by have := HBD.out; omega)
          have g6 : decide (e < ib) = false := decide_eq_false (by have := HBD.out; omega)
          have HK1 := Aside0.mk (HT.out.2.1 (by omega))
          have HC2 := Aside0.mk (HT.out.2.2.1 hu3 hu2)
          have HK3 := Aside0.mk (HT.out.2.2.2.2.2.1 (by omega))
          clear HT hu1 hu2 hu3 hu4
          go_wp2_with (first | (go_at_call 81; with_reducible refine (HC2.out _ BB.out (HK1.out _ (RR.out))).mono ?_; rintro e2_ w2 ⟨rfl, B2, R2⟩))
          go_end0
          exact ⟨rfl, B2, HK3.out _ (R2)⟩
        · have g1 : decide (s < im) = false := decide_eq_false (by omega)
          have g2 : decide (im < e) = true := decide_eq_true (by have := HBD.out; omega)
          have g3 : decide (ia < s) = false := decide_eq_false (by have := HBD.out; omega)
          have g4 : decide (s < mid) = true := decide_eq_true (by have := HBD.out; omega)
          have g5 : decide (mid < e) = false := decide_eq_false (by have := HBD.out; omega)
          have g6 : decide (e < ib) = true := decide_eq_true (by have := HBD.out; omega)
          have HK1 := Aside0.mk (HT.out.2.1 (by omega))
          have HK2 := Aside0.mk (HT.out.2.2.2.1 (by omega))
          have HK3 := Aside0.mk (HT.out.2.2.2.2.2.1 (by omega))
          clear HT hu1 hu2 hu3 hu4
          go_wp2_with fail
          go_end0
          exact ⟨rfl, BB.out, HK3.out _ (HK2.out _ (HK1.out _ (RR.out)))⟩
        · have g1 : decide (s < im) = false := decide_eq_false (by omega)
          have g2 : decide (im < e) = true := decide_eq_true (by have := HBD.out; omega)
          have g3 : decide (ia < s) = false := decide_eq_false (by have := HBD.out; omega)
          have g4 : decide (s < mid) = true := decide_eq_true (by have := HBD.out; omega)
          have g5 : decide (mid < e) = false := decide_eq_false (by have := HBD.out; omega)
          have g6 : decide (e < ib) = false := decide_eq_false (by have := HBD.out; omega)
          have HK1 := Aside0.mk (HT.out.2.1 (by omega))
          have HK2 := Aside0.mk (HT.out.2.2.2.1 (by omega))
          have HK3 := Aside0.mk (HT.out.2.2.2.2.2.1 (by omega))
          clear HT hu1 hu2 hu3 hu4
          go_wp2_with fail
          go_end0
          exact ⟨rfl, BB.out, HK3.out _ (HK2.out _ (HK1.out _ (RR.out)))⟩
        · have g1 : decide (s < im) = false := decide_eq_false (by omega)
          have g2 : decide (im < e) = false := decide_eq_false (by have := HBD.out; omega)
          have g3 : decide (ia < s) = true := decide_eq_true (by have := HBD.out; omega)
          have g4 : decide (s < mid) = false := decide_eq_false (by have := HBD.out; omega)
          have g5 : decide (mid < e) = false := decide_eq_false (by have := HBD.out; omega)
          have g6 : decide (e < ib) = true := decide_eq_true (by have := HBD.out; omega)
          have HK1 := Aside0.mk (HT.out.2.1 (by omega))
          have HK2 := Aside0.mk (HT.out.2.2.2.1 (by omega))
          have HK3 := Aside0.mk (HT.out.2.2.2.2.2.1 (by omega))
          clear HT hu1 hu2 hu3 hu4
          go_wp2_with fail
          go_end0
          exact ⟨rfl, BB.out, HK3.out _ (HK2.out _ (HK1.out _ (RR.out)))⟩
        · have g1 : decide (s < im) = false := decide_eq_false (by omega)
          have g2 : decide (im < e) = false := decide_eq_false (by have := HBD.out; omega)
          have g3 : decide (ia < s) = true := decide_eq_true (by have := HBD.out; omega)
          have g4 : decide (s < mid) = false := decide_eq_false (by have := HBD.out; omega)
          have g5 : decide (mid < e) = false := decide_eq_false (by have := HBD.out; omega)
          have g6 : decide (e < ib) = false := decide_eq_false (by have := HBD.out; omega)
          have HK1 := Aside0.mk (HT.out.2.1 (by omega))
          have HK2 := Aside0.mk (HT.out.2.2.2.1 (by omega))
          have HK3 := Aside0.mk (HT.out.2.2.2.2.2.1 (by omega))
          clear HT hu1 hu2 hu3 hu4
          go_wp2_with fail
          go_end0
          exact ⟨rfl, BB.out, HK3.out _ (HK2.out _ (HK1.out _ (RR.out)))⟩
        · have g1 : decide (s < im) = false := decide_eq_false (by omega)
          have g2 : decide (im < e) = false := decide_eq_false (by have := HBD.out; omega)
          have g3 : decide (ia < s) = false := decide_eq_false (by have := HBD.out; omega)
          have g4 : decide (s < mid) = false := decide_eq_false (by have := HBD.out; omega)
          have g5 : decide (mid < e) = false := decide_eq_false (by have := HBD.out; omega)
          have g6 : decide (e < ib) = true := decide_eq_true (by have := HBD.out; omega)
          have HK1 := Aside0.mk (HT.out.2.1 (by omega))
          have HK2 := Aside0.mk (HT.out.2.2.2.1 (by omega))
          have HK3 := Aside0.mk (HT.out.2.2.2.2.2.1 (by omega))
          clear HT hu1 hu2 hu3 hu4
          go_wp2_with fail
          go_end0
          exact ⟨rfl, BB.out, HK3.out _ (HK2.out _ (HK1.out _ (RR.out)))⟩
        · have g1 : decide (s < im) = false := decide_eq_false (by omega)
          have g2 : decide (im < e) = false := decide_eq_false (by have := HBD.out; omega)
          have g3 : decide (ia < s) = false := decide_eq_false (by have := HBD.out; omega)
          have g4 : decide (s < mid) = false := decide_eq_false (by have := HBD.out; omega)
          have g5 : decide (mid < e) = false := decide_eq_false (by have := HBD.out; omega)
          have g6 : decide (e < ib) = false := decide_eq_false (by have := HBD.out; omega)
          have HK1 := Aside0.mk (HT.out.2.1 (by omega))
          have HK2 := Aside0.mk (HT.out.2.2.2.1 (by omega))
          have HK3 := Aside0.mk (HT.out.2.2.2.2.2.1 (by omega))
          clear HT hu1 hu2 hu3 hu4
          go_wp2_with fail
          go_end0
          exact ⟨rfl, BB.out, HK3.out _ (HK2.out _ (HK1.out _ (RR.out)))⟩
set_option maxHeartbeats 4000000 in
theorem sym_calls (lt : Rec → Rec → Bool) (ho : Ord lt) (hc : Cmp lt) (N : Nat) (w0 : World) (g : Nat) (hg : N ≤ g) (cp : Nat) (n : Nat) (hn2 : n ≤ 1000000) : ∀ (L : Nat), ∀ (ia im ib : Nat) (P A B Q : List Rec), A.length + B.length < L + 1 → 1 ≤ A.length → 1 ≤ B.length → P.length = ia → ia + A.length = im → im + B.length = ib → Sorted lt A → Sorted lt B → (P ++ (A ++ (B ++ Q))).length = n → ∀ W, Kp g w0 W → RowB W g (P ++ (A ++ (B ++ Q))) → Calls Try.prog 81 #[.slice (some ⟨g, 0, none⟩) n cp, .int .i64 (ia : Int), .int .i64 (im : Int), .int .i64 (ib : Int), .func (.func 64) #[] #[]] W fun e w' => e = .returned (.tuple #[]) ∧ Kp g w0 w' ∧ RowB w' g (P ++ (mrg lt A B ++ Q))
  | 0 => fun ia im ib P A B Q h0 h1 h2 => absurd h0 (by omega)
  | L + 1 => by
    intro ia im ib P A B Q h0 h1 h2 hP hA hB hAs hBs hn W hW hR
    rcases Nat.lt_or_ge A.length 2 with a2 | a2
    · obtain ⟨x, rfl⟩ := List.length_eq_one_iff.1 (show A.length = 1 by omega)
      exact symL_calls lt ho hc N w0 g hg cp ia im ib n P B Q x hP (by simpa using hA) hB hBs hn hn2 W hW hR
    · rcases Nat.lt_or_ge B.length 2 with b2 | b2
      · obtain ⟨x, rfl⟩ := List.length_eq_one_iff.1 (show B.length = 1 by omega)
        exact symR_calls lt ho hc N w0 g hg cp ia im ib n P A Q x hP hA a2 (by simpa using hB) hAs hn hn2 W hW hR
      · exact symG_calls lt ho hc N w0 g hg cp ia im ib n P A B Q hP hA hB a2 b2 hAs hBs hn hn2 (fun ia' im' ib' P' A' B' Q' hlt => sym_calls lt ho hc N w0 g hg cp n hn2 L ia' im' ib' P' A' B' Q' (by omega)) W hW hR
end Go.Proofs.Ytnopjcakilfepaa.QS
