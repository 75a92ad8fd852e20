/- Parts of the proof of the statement DamageDoes, laid together (3 of 6). -/
import Derived.WalkSpells
import Derived.Test.YtnchdmidaigheaaZDamageDoes1
namespace Go.Proofs.Ytnchdmidaigheaa.QS
set_option linter.unusedVariables false
set_option linter.unusedSimpArgs false
open Go.RowKit Go.Proofs.Ytnchdmidaigheaa.SS Go.Proofs.Ytnchdmidaigheaa.Hp Go.Proofs.YtnchdmidaigheaaW.PrintWords Go.Proofs.YtnchdmidaigheaaW.PrintLast Go.Proofs.YtnchdmidaigheaaW.PrintMore
attribute [local go_sem] max2_int min2_int max_two min_two max_three min_three max_four min_four
def symg.T35 : Bool × List (List Nat × List Nat) := (true, [([], []), ([], []), ([], []), ([], []), ([2, 3], [2, 3]), ([1, 4], [1, 4]), ([5], [5]), ([], []), ([], []), ([7, 8], [7, 8]), ([9], [9]), ([0, 6, 10], [0, 6, 10]), ([11], [11]), ([12], [12])])
def symg.B35 : List Nat := [0, 0, 0, 0, 12, 30, 62, 0, 0, 384, 896, 2047, 4095, 8191]
theorem symg.tab35 : rtab .any (opsOf Try.f120 35) = symg.T35 := by kernel_rfl
theorem symg.bits35 : waitsOk symg.T35.2 symg.B35 = true := by kernel_rfl
theorem sym_tail (lt : Rec → Rec → Bool) (ho : Ord lt) (N : Nat) (w0 : World) (g : Nat) (hg : N ≤ g) (cp : Nat) (ia im ib n mid lo hi s e : Nat) (P A B Q : List Rec) (hn : (P ++ (A ++ (B ++ Q))).length = n) (hn2 : n ≤ 1000000)
    (ih : ∀ (ia im ib : Nat) (P A' B' Q : List Rec), A'.length + B'.length < A.length + B.length → 1 ≤ A'.length → 1 ≤ B'.length → P.length = ia → ia + A'.length = im → im + B'.length = ib → Sorted lt A' → Sorted lt B' → (P ++ (A' ++ (B' ++ Q))).length = n → ∀ W, Kp g w0 W → RowB W g (P ++ (A' ++ (B' ++ Q))) → Calls Try.prog 120 #[.slice (some ⟨g, 0, none⟩) n cp, .int .i64 (ia : Int), .int .i64 (im : Int), .int .i64 (ib : Int), .func (.func 85) #[] #[]] W fun e w' => e = .returned (.tuple #[]) ∧ Kp g w0 w' ∧ RowB w' g (P ++ (mrg lt A' B' ++ Q))) (ha : Sorted lt A) (hb : Sorted lt B) (hia : ia = P.length) (him : im = ia + A.length) (hib : ib = im + B.length) (hA : 1 ≤ A.length) (hB : 1 ≤ B.length) (hmid : mid = (ia + ib) / 2)
    (hlo : mid < im ∧ lo = mid + im - ib ∧ hi = mid ∨ im ≤ mid ∧ lo = ia ∧ hi = im) (h : Bs (fC lt (P ++ (A ++ (B ++ Q))) (mid + im - 1)) lo hi s s) (he : e = mid + im - s) :
    ∃ D1 D2 : List Rec, (s < im → s < mid → ∀ W, Kp g w0 W → RowB W g (P ++ (A ++ (B ++ Q))) → Calls Try.prog 127 #[.slice (some ⟨g, 0, none⟩) n cp, .int .i64 (s : Int), .int .i64 (im : Int), .int .i64 (e : Int), .func (.func 85) #[] #[]] W fun e w' => e = .returned (.tuple #[]) ∧ Kp g w0 w' ∧ RowB w' g D1) ∧ (¬(s < im ∧ s < mid) → ∀ W, RowB W g (P ++ (A ++ (B ++ Q))) → RowB W g D1) ∧
      (ia < s → s < mid → ∀ W, Kp g w0 W → RowB W g D1 → Calls Try.prog 120 #[.slice (some ⟨g, 0, none⟩) n cp, .int .i64 (ia : Int), .int .i64 (s : Int), .int .i64 (mid : Int), .func (.func 85) #[] #[]] W fun e w' => e = .returned (.tuple #[]) ∧ Kp g w0 w' ∧ RowB w' g D2) ∧ (¬(ia < s ∧ s < mid) → ∀ W, RowB W g D1 → RowB W g D2) ∧
      (s < im → e < ib → ∀ W, Kp g w0 W → RowB W g D2 → Calls Try.prog 120 #[.slice (some ⟨g, 0, none⟩) n cp, .int .i64 (mid : Int), .int .i64 (e : Int), .int .i64 (ib : Int), .func (.func 85) #[] #[]] W fun e w' => e = .returned (.tuple #[]) ∧ Kp g w0 w' ∧ RowB w' g (P ++ (mrg lt A B ++ Q))) ∧ (¬(s < im ∧ e < ib) → ∀ W, RowB W g D2 → RowB W g (P ++ (mrg lt A B ++ Q))) ∧ ia ≤ s ∧ s ≤ im ∧ s ≤ mid ∧ im ≤ e ∧ e ≤ ib := by
  obtain ⟨hmrg, b1, b2, b3, b4, b5⟩ := sym_end ho P A B Q ha hb ia im ib mid lo hi s e hia him hib hA hB hmid hlo h he
  obtain ⟨a1, ea1⟩ : ∃ a1, a1 = A.take (s - ia) := ⟨_, rfl⟩
  obtain ⟨a2, ea2⟩ : ∃ a2, a2 = A.drop (s - ia) := ⟨_, rfl⟩
  obtain ⟨c1, ec1⟩ : ∃ c1, c1 = B.take (e - im) := ⟨_, rfl⟩
  obtain ⟨c2, ec2⟩ : ∃ c2, c2 = B.drop (e - im) := ⟨_, rfl⟩
  have hAs : A = a1 ++ a2 := by rw [ea1, ea2, List.take_append_drop]
  have hBs : B = c1 ++ c2 := by rw [ec1, ec2, List.take_append_drop]
  have la1 : a1.length = s - ia := by rw [ea1, List.length_take]; omega
  have la2 : a2.length = im - s := by rw [ea2, List.length_drop]; omega
  have lc1 : c1.length = e - im := by rw [ec1, List.length_take]; omega
  have lc2 : c2.length = ib - e := by rw [ec2, List.length_drop]; omega
  have sa := ha
  have sb := hb
  rw [hAs] at sa
  rw [hBs] at sb
  have sa1 := (List.pairwise_append.1 sa).1
  have sa2 := (List.pairwise_append.1 sa).2.1
  have sc1 := (List.pairwise_append.1 sb).1
  have sc2 := (List.pairwise_append.1 sb).2.1
  rw [← ea1, ← ea2, ← ec1, ← ec2] at hmrg
  have hnl : P.length + (A.length + (B.length + Q.length)) = n := by rw [← hn]; simp only [List.length_append]
  have hD0 : P ++ (A ++ (B ++ Q)) = (P ++ a1) ++ (a2 ++ (c1 ++ (c2 ++ Q))) := by rw [hAs, hBs]; simp only [List.append_assoc]
  refine ⟨(P ++ a1) ++ (c1 ++ (a2 ++ (c2 ++ Q))), P ++ (mrg lt a1 c1 ++ (a2 ++ (c2 ++ Q))), ?_, ?_, ?_, ?_, ?_, ?_, b1, b2, b3, b4, b5⟩
  · intro u1 u2 W hW hR
    rw [hD0] at hR hn
    exact rotate_calls N w0 g hg cp _ s im e n (P ++ a1) a2 c1 (c2 ++ Q) (by rw [List.length_append]; omega) (by omega) (by omega) (by omega) (by omega) hn hn2 W hW hR
  · intro u W hR
    rw [hD0] at hR
    rcases Nat.lt_or_ge s im with u1 | u1
    · have : c1 = [] := List.eq_nil_of_length_eq_zero (by omega)
      rw [this] at hR ⊢
      exact hR
    · have : a2 = [] := List.eq_nil_of_length_eq_zero (by omega)
      rw [this] at hR ⊢
      exact hR
  · intro u1 u2 W hW hR
    rw [List.append_assoc] at hR
    exact ih ia s mid P a1 c1 (a2 ++ (c2 ++ Q)) (by omega) (by omega) (by omega) (by omega) (by omega) (by omega) sa1 sc1 (by simp only [List.length_append]; omega) W hW hR
  · intro u W hR
    rw [List.append_assoc] at hR
    rcases Nat.lt_or_ge ia s with u1 | u1
    · have : c1 = [] := List.eq_nil_of_length_eq_zero (by omega)
      rw [this] at hR ⊢
      rw [mrg_nil_right]
      exact hR
    · have : a1 = [] := List.eq_nil_of_length_eq_zero (by omega)
      rw [this] at hR ⊢
      rw [mrg_nil]
      exact hR
  · intro u1 u2 W hW hR
    rw [← List.append_assoc P] at hR
    have := ih mid e ib (P ++ mrg lt a1 c1) a2 c2 Q (by omega) (by omega) (by omega) (by rw [List.length_append, mrg_length]; omega) (by omega) (by omega) sa2 sc2 (by simp only [List.length_append, mrg_length]; omega) W hW hR
    rw [hmrg, List.append_assoc]
    rw [List.append_assoc] at this
    exact this
  · intro u W hR
    rw [hmrg]
    rcases Nat.lt_or_ge s im with u1 | u1
    · have : c2 = [] := List.eq_nil_of_length_eq_zero (by omega)
      rw [this] at hR ⊢
      rw [mrg_nil_right]
      simpa [List.append_assoc] using hR
    · have : a2 = [] := List.eq_nil_of_length_eq_zero (by omega)
      rw [this] at hR ⊢
      rw [mrg_nil]
      simpa [List.append_assoc] using hR
set_option maxHeartbeats 16000000 in
set_option maxRecDepth 100000 in
theorem symG_calls (lt : Rec → Rec → Bool) (ho : Ord lt) (hc : Cmp lt) (N : Nat) (w0 : World) (g : Nat) (hg : N ≤ g) (cp : Nat) (ia im ib n : Nat) (P A B Q : List Rec) (hP : P.length = ia) (hA : ia + A.length = im) (hB1 : im + B.length = ib) (hA2 : 2 ≤ A.length) (hB2 : 2 ≤ B.length) (hAs : Sorted lt A) (hBs : Sorted lt B) (hn : (P ++ (A ++ (B ++ Q))).length = n) (hn2 : n ≤ 1000000)
    (ih : ∀ (ia im ib : Nat) (P A' B' Q : List Rec), A'.length + B'.length < A.length + B.length → 1 ≤ A'.length → 1 ≤ B'.length → P.length = ia → ia + A'.length = im → im + B'.length = ib → Sorted lt A' → Sorted lt B' → (P ++ (A' ++ (B' ++ Q))).length = n → ∀ W, Kp g w0 W → RowB W g (P ++ (A' ++ (B' ++ Q))) → Calls Try.prog 120 #[.slice (some ⟨g, 0, none⟩) n cp, .int .i64 (ia : Int), .int .i64 (im : Int), .int .i64 (ib : Int), .func (.func 85) #[] #[]] W fun e w' => e = .returned (.tuple #[]) ∧ Kp g w0 w' ∧ RowB w' g (P ++ (mrg lt A' B' ++ Q))) (w : World) (hB : Kp g w0 w) (hR : RowB w g (P ++ (A ++ (B ++ Q)))) :
    Calls Try.prog 120 #[.slice (some ⟨g, 0, none⟩) n cp, .int .i64 (ia : Int), .int .i64 (im : Int), .int .i64 (ib : Int), .func (.func 85) #[] #[]] w fun e w' => e = .returned (.tuple #[]) ∧ Kp g w0 w' ∧ RowB w' g (P ++ (mrg lt A B ++ Q)) := by
  have HG := Aside0.mk hg
  have HIH := Aside0.mk ih
  have HNL := Aside0.mk hn
  have HCMP : Aside0 (∀ (W : World) (x y : Rec), Calls Try.prog 85 #[.agg #[.int .i64 x.nr, .int .i64 x.kd, .slice x.A x.n x.c], .agg #[.int .i64 y.nr, .int .i64 y.kd, .slice y.A y.n y.c]] W fun e w' => ∃ r : Int, e = .returned (.int .i64 r) ∧ decide (r < 0) = lt x y ∧ Below W.heap.size W w') := ⟨hc⟩
  have HL : Aside0 (P.length = ia ∧ ia + A.length = im ∧ im + B.length = ib ∧ ib ≤ n ∧ n ≤ 1000000 ∧ 2 ≤ A.length ∧ 2 ≤ B.length) := ⟨hP, hA, hB1, by rw [← hn]; simp only [List.length_append]; omega, hn2, hA2, hB2⟩
  obtain ⟨na, hna⟩ : ∃ na, na = A.length := ⟨_, rfl⟩
  obtain ⟨nb, hnb⟩ : ∃ nb, nb = B.length := ⟨_, rfl⟩
  obtain ⟨mid, hmid⟩ : ∃ mid, mid = (ia + ib) / 2 := ⟨_, rfl⟩
  obtain ⟨nn, hnn⟩ : ∃ nn, nn = mid + im := ⟨_, rfl⟩
  obtain ⟨p, hp⟩ : ∃ p, p = nn - 1 := ⟨_, rfl⟩
  have HN := Aside0.mk (And.intro hmid (And.intro hnn hp))
  have HW0 : IntKind.i64.wrap ((im : Int) - (ia : Int)) = (na : Int) := by rw [i64_w]; unfold wrap64; have := HL.out; omega
  have HW00 : ((na : Int) == 1) = false := by simp; omega
  have HW03 : IntKind.i64.wrap ((ib : Int) - (im : Int)) = (nb : Int) := by rw [i64_w]; unfold wrap64; have := HL.out; omega
  have HW04 : ((nb : Int) == 1) = false := by simp; omega
  have HW05 : IntKind.i64.wrap ((ia : Int) + (ib : Int)) = ((ia + ib : Nat) : Int) := by rw [i64_w]; unfold wrap64; have := HL.out; omega
  have HWM : IntKind.i64.wrap ((mid : Int) + (im : Int)) = (nn : Int) := by rw [i64_w]; unfold wrap64; have := HL.out; omega
  have HMID := Aside0.mk (mid_val ia ib mid hmid (by have := HL.out; omega))
  obtain ⟨dd, hdd⟩ : ∃ dd, dd = P ++ (A ++ (B ++ Q)) := ⟨_, rfl⟩
  have HDD := Aside0.mk hdd
  have HDL : Aside0 (dd.length = n) := ⟨by rw [hdd]; exact hn⟩
  rw [← hdd] at hR
  have HR := Aside0.mk hR
  replace hB := Aside0.mk hB
  clear hg hc hP hA hA2 hB1 hB2 hn hn2 hR hdd hna hnb hmid hnn hp ih
  go_enter Try.func120, Try.ntmps120
  go_upto_region 25 with fail
  rw [HMID.out]
  clear HMID
  by_cases hmm : mid < im
  · obtain ⟨lo, hlo⟩ : ∃ lo, lo = nn - ib := ⟨_, rfl⟩
    have t0 : decide (mid < im) = true := decide_eq_true (by omega)
    have HWL : IntKind.i64.wrap ((nn : Int) - (ib : Int)) = (((nn : Int) - (ib : Int))) := by rw [i64_w]; unfold wrap64; have := HL.out; have := HN.out; omega
    have HWP1 : IntKind.i64.wrap ((nn : Int) - 1) = (p : Int) := by rw [i64_w]; unfold wrap64; have := HL.out; have := HN.out; omega
    have HLO : Aside0 (mid < im ∧ lo = mid + im - ib ∧ mid = mid ∨ im ≤ mid ∧ lo = ia ∧ mid = im) := ⟨by have := HL.out; have := HN.out; omega⟩
    have HMO : Aside0 (Mono (fC lt dd p) lo mid) := ⟨by
      rw [HDD.out]
      refine fC_mono ho P A B Q p lo mid hAs hBs (by have := HL.out; have := HN.out; have := HLO.out; omega) (by have := HL.out; have := HN.out; have := HLO.out; omega) (fun c h1 h2 => by have := HL.out; have := HN.out; have := HLO.out; omega)⟩
    have HB0 : Aside0 (Bs (fC lt dd p) lo mid lo mid) := ⟨Bs.init _ _ _ (by have := HL.out; have := HN.out; have := HLO.out; omega)⟩
    have HLV : Aside0 ((lo : Int) = (nn : Int) - (ib : Int)) := ⟨by have := HL.out; have := HN.out; omega⟩
    have HO := Aside0.mk ho
    have HAB := Aside0.mk (And.intro hAs hBs)
    clear hmm hlo ho hAs hBs
    go_upto_region 33 with fail
    clear HWL HWP1 HW0 HW00 HW03 HW04 HWM t0 HW05
    go_loopg [20, 21] (mid - lo) (fun kq v20 v21 w' => ∃ i j : Nat, v20 = .int .i64 (i : Int) ∧ v21 = .int .i64 (j : Int) ∧ Aside0 (Bs (fC lt dd p) lo mid i j) ∧ Aside0 (RowB w' g dd) ∧ Aside0 (Kp g w0 w') ∧ Aside0 (kq + i = j))
    case atStart => exact ⟨lo, mid, by first | rfl | (rw [HLV.out]), rfl, HB0, HR, hB, ⟨by have := HB0.out; unfold Bs at this; omega⟩⟩
    case round =>
      clear HB0 HR hB
      obtain ⟨i, j, rfl, rfl, HBS, RR, BB, HQ⟩ := hrel
      by_cases hij : i < j
      case pos =>
        have t1 : decide (i < j) = true := decide_eq_true hij
        have HW1 : IntKind.i64.wrap ((i : Int) + (j : Int)) = ((i + j : Nat) : Int) := by rw [i64_w]; unfold wrap64; have := HL.out; have := HN.out; have := HLO.out; have := HBS.out; unfold Bs at this; omega
        obtain ⟨c, hc2⟩ : ∃ c, c = (i + j) / 2 := ⟨_, rfl⟩
        have hb3 := HBS.out
        have hbd : i ≤ c ∧ c < j ∧ j ≤ mid ∧ lo ≤ i ∧ ia ≤ c ∧ c < im ∧ im ≤ p - c ∧ p - c < ib ∧ c ≤ p := by have := HL.out; have := HN.out; have := HLO.out; unfold Bs at hb3; omega
        have HMID2 := Aside0.mk (mid_val i j c hc2 (by have := HL.out; have := HN.out; have := HLO.out; omega))
        go_upto_region 35 with fail
        rw [HMID2.out]
        clear HMID2 HW1
        obtain ⟨pc, hpc⟩ : ∃ pc, pc = p - c := ⟨_, rfl⟩
        obtain ⟨y, hy⟩ : ∃ y, dd[p - c]? = some y := some_of dd (p - c) (by rw [HDL.out]; have := HL.out; omega)
        obtain ⟨x, hx⟩ : ∃ x, dd[c]? = some x := some_of dd c (by rw [HDL.out]; have := HL.out; omega)
        have HX_pc : Aside0 (dd[pc]? = some y) := ⟨by rw [hpc]; exact hy⟩
        have HX_c := Aside0.mk hx
        have LO_pc := Aside0.mk (eq_true (show (0 : Int) ≤ (pc : Int) by omega))
        have HI_pc : Aside0 (((pc : Int) < (n : Int)) = True) := ⟨eq_true (by have := HL.out; omega)⟩
        have LO_c := Aside0.mk (eq_true (show (0 : Int) ≤ (c : Int) by omega))
        have HI_c : Aside0 (((c : Int) < (n : Int)) = True) := ⟨eq_true (by have := HL.out; omega)⟩
        have HWP : Aside0 (IntKind.i64.wrap ((p : Int) - (c : Int)) = (pc : Int)) := ⟨by rw [i64_w]; unfold wrap64; have := HL.out; have := HN.out; omega⟩
        have B0 := Aside0.mk (kp_drew BB.out)
        have R0 := Aside0.mk (RowB.below RR.out (below_drew1 (Below.refl wr.heap.size wr)))
        have HBD := Aside0.mk (And.intro hbd hij)
        have hf := fC_at (lt := lt) hy hx
        clear t1 RR BB hb3 hbd hij hc2 hy hx hpc
        cases htv : lt y x with
        | true =>
          have HTV := Aside0.mk htv
          have HB2 := Aside0.mk (HBS.out.down HMO.out HBD.out.1.1 HBD.out.1.2.1 (by rw [hf, htv]; rfl))
          clear htv hf
          refine start_ (n := 14) (S := fun w' => True) (ds := []) #[false, false, false, false, false, false, false, false, false, false, false, false, false, false] (by kernel_rfl) rfl rfl trivial (fun hHeld => ?_)
          refine with_tabW symg.tab35 symg.bits35 (fun HT_ HW_ => ?_)
          generalize wr.drew = wq at B0 R0 hHeld ⊢
          refine inv_at [0, 1, 2, 3, 4, 5, 6, 7, 8, 9, 10, 11, 12, 13] (fun a0_ b a w' => ∃ (rv : Value), a = putSel a0_ b [(0, 158, .func (.func 85) #[] #[]), (1, 159, .slice (some ⟨g, 0, none⟩) n cp), (2, 160, .int .i64 (p : Int)), (3, 161, .int .i64 (c : Int)), (4, 162, .int .i64 (pc : Int)), (5, 163, .pointer (some ⟨g, pc * 3, none⟩)), (6, 164, .agg #[.int .i64 y.nr, .int .i64 y.kd, .slice y.A y.n y.c]), (7, 165, .slice (some ⟨g, 0, none⟩) n cp), (8, 166, .int .i64 (c : Int)), (9, 167, .pointer (some ⟨g, c * 3, none⟩)), (10, 168, .agg #[.int .i64 x.nr, .int .i64 x.kd, .slice x.A x.n x.c]), (11, 169, rv), (12, 170, .bool true), (13, 171, .bool false)] ∧ (Kp g w0 w') ∧ (RowB w' g dd) ∧ (b 11 = true → ∃ r_ : Int, rv = .int .i64 r_ ∧ decide (r_ < 0) = true)) HT_.out HW_.out (by kernel_rfl) (by kernel_rfl) ?_ ?_ ?_
          · exact ⟨.bool false, by simp only [putSel, Bool.false_eq_true, if_false], B0.out, R0.out, fun h_ => absurd h_ (by decide)⟩
          · skip
            clear B0 R0
            refine steps_cons ?_ ?_
            · rintro b a w' ⟨rv, ha, Q_B0, Q_R0, Q_HRV⟩ hb_ hon hoff
              refine ⟨_, rfl, fun K hK => ?_⟩
              have e4 : a.tmps[4]? = some (.func (.func 85) #[] #[]) := by rw [ha]; exact (putSel_off rfl).trans rfl
              replace ha := Aside0.mk ha
              have B0 := Aside0.mk Q_B0
              have R0 := Aside0.mk Q_R0
              refine value_ (w1 := w') (v := .func (.func 85) #[] #[]) (by rfl) rfl ?_ ?_
              · go_simp
                (try simp only [i64_w])
                try rfl
              refine hK.out _ _ ⟨rv, (by rw [ha.out]; exact putSel_upk 0 hb_ rfl rfl rfl), Q_B0, Q_R0, fun h0_ => absurd ((hoff 11 (by kernel_rfl)).symm.trans h0_) (by decide)⟩
            refine steps_cons ?_ ?_
            · rintro b a w' ⟨rv, ha, Q_B0, Q_R0, Q_HRV⟩ hb_ hon hoff
              refine ⟨_, rfl, fun K hK => ?_⟩
              have e0 : a.tmps[0]? = some (.slice (some ⟨g, 0, none⟩) n cp) := by rw [ha]; exact (putSel_off rfl).trans rfl
              replace ha := Aside0.mk ha
              have B0 := Aside0.mk Q_B0
              have R0 := Aside0.mk Q_R0
              refine value_ (w1 := w') (v := .slice (some ⟨g, 0, none⟩) n cp) (by rfl) rfl ?_ ?_
              · go_simp
                (try simp only [i64_w])
                try rfl
              refine hK.out _ _ ⟨rv, (by rw [ha.out]; exact putSel_upk 1 hb_ rfl rfl rfl), Q_B0, Q_R0, fun h0_ => absurd ((hoff 11 (by kernel_rfl)).symm.trans h0_) (by decide)⟩
            refine steps_cons ?_ ?_
            · rintro b a w' ⟨rv, ha, Q_B0, Q_R0, Q_HRV⟩ hb_ hon hoff
              refine ⟨_, rfl, fun K hK => ?_⟩
              have e22 : a.tmps[22]? = some (.int .i64 (p : Int)) := by rw [ha]; exact (putSel_off rfl).trans rfl
              replace ha := Aside0.mk ha
              have B0 := Aside0.mk Q_B0
              have R0 := Aside0.mk Q_R0
              refine value_ (w1 := w') (v := .int .i64 (p : Int)) (by rfl) rfl ?_ ?_
              · go_simp
                (try simp only [i64_w])
                try rfl
              refine hK.out _ _ ⟨rv, (by rw [ha.out]; exact putSel_upk 2 hb_ rfl rfl rfl), Q_B0, Q_R0, fun h0_ => absurd ((hoff 11 (by kernel_rfl)).symm.trans h0_) (by decide)⟩
            refine steps_cons ?_ ?_
            · rintro b a w' ⟨rv, ha, Q_B0, Q_R0, Q_HRV⟩ hb_ hon hoff
              refine ⟨_, rfl, fun K hK => ?_⟩
              have e23 : a.tmps[23]? = some (.int .i64 (c : Int)) := by rw [ha]; exact (putSel_off rfl).trans rfl
              replace ha := Aside0.mk ha
              have B0 := Aside0.mk Q_B0
              have R0 := Aside0.mk Q_R0
              refine value_ (w1 := w') (v := .int .i64 (c : Int)) (by rfl) rfl ?_ ?_
              · go_simp
                (try simp only [i64_w])
                try rfl
              refine hK.out _ _ ⟨rv, (by rw [ha.out]; exact putSel_upk 3 hb_ rfl rfl rfl), Q_B0, Q_R0, fun h0_ => absurd ((hoff 11 (by kernel_rfl)).symm.trans h0_) (by decide)⟩
            refine steps_cons ?_ ?_
            · rintro b a w' ⟨rv, ha, Q_B0, Q_R0, Q_HRV⟩ hb_ hon hoff
              refine ⟨_, rfl, fun K hK => ?_⟩
              have e160 : a.tmps[160]? = some (.int .i64 (p : Int)) := by rw [ha]; exact putSel_on (e := (2, 160, .int .i64 (p : Int))) 2 rfl rfl (hon 2 (by kernel_rfl)) rfl
              have e161 : a.tmps[161]? = some (.int .i64 (c : Int)) := by rw [ha]; exact putSel_on (e := (3, 161, .int .i64 (c : Int))) 3 rfl rfl (hon 3 (by kernel_rfl)) rfl
              replace ha := Aside0.mk ha
              have B0 := Aside0.mk Q_B0
              have R0 := Aside0.mk Q_R0
              have hw0_ := HWP.out
              refine value_ (w1 := w') (v := .int .i64 (pc : Int)) (by rfl) rfl ?_ ?_
              · go_simp
                (try simp only [i64_w])
                try rfl
              refine hK.out _ _ ⟨rv, (by rw [ha.out]; exact putSel_upk 4 hb_ rfl rfl rfl), Q_B0, Q_R0, fun h0_ => absurd ((hoff 11 (by kernel_rfl)).symm.trans h0_) (by decide)⟩
            refine steps_cons ?_ ?_
            · rintro b a w' ⟨rv, ha, Q_B0, Q_R0, Q_HRV⟩ hb_ hon hoff
              refine ⟨_, rfl, fun K hK => ?_⟩
              have e159 : a.tmps[159]? = some (.slice (some ⟨g, 0, none⟩) n cp) := by rw [ha]; exact putSel_on (e := (1, 159, .slice (some ⟨g, 0, none⟩) n cp)) 1 rfl rfl (hon 1 (by kernel_rfl)) rfl
              have e162 : a.tmps[162]? = some (.int .i64 (pc : Int)) := by rw [ha]; exact putSel_on (e := (4, 162, .int .i64 (pc : Int))) 4 rfl rfl (hon 4 (by kernel_rfl)) rfl
              replace ha := Aside0.mk ha
              have B0 := Aside0.mk Q_B0
              have R0 := Aside0.mk Q_R0
              have p1_ := LO_pc.out
              have q1_ := HI_pc.out
              refine value_ (w1 := w') (v := .pointer (some ⟨g, pc * 3, none⟩)) (by rfl) rfl ?_ ?_
              · go_simp
                (try simp only [i64_w])
                try rfl
              refine hK.out _ _ ⟨rv, (by rw [ha.out]; exact putSel_upk 5 hb_ rfl rfl rfl), Q_B0, Q_R0, fun h0_ => absurd ((hoff 11 (by kernel_rfl)).symm.trans h0_) (by decide)⟩
            refine steps_cons ?_ ?_
            · rintro b a w' ⟨rv, ha, Q_B0, Q_R0, Q_HRV⟩ hb_ hon hoff
              refine ⟨_, rfl, fun K hK => ?_⟩
              have e163 : a.tmps[163]? = some (.pointer (some ⟨g, pc * 3, none⟩)) := by rw [ha]; exact putSel_on (e := (5, 163, .pointer (some ⟨g, pc * 3, none⟩))) 5 rfl rfl (hon 5 (by kernel_rfl)) rfl
              replace ha := Aside0.mk ha
              have B0 := Aside0.mk Q_B0
              have R0 := Aside0.mk Q_R0
              have cs_ := R0.out.cells HX_pc.out
              refine value_ (w1 := w') (v := .agg #[.int .i64 y.nr, .int .i64 y.kd, .slice y.A y.n y.c]) (by rfl) rfl ?_ ?_
              · go_simp
                (try simp only [i64_w])
                try rfl
              refine hK.out _ _ ⟨rv, (by rw [ha.out]; exact putSel_upk 6 hb_ rfl rfl rfl), Q_B0, Q_R0, fun h0_ => absurd ((hoff 11 (by kernel_rfl)).symm.trans h0_) (by decide)⟩
            refine steps_cons ?_ ?_
            · rintro b a w' ⟨rv, ha, Q_B0, Q_R0, Q_HRV⟩ hb_ hon hoff
              refine ⟨_, rfl, fun K hK => ?_⟩
              have e0 : a.tmps[0]? = some (.slice (some ⟨g, 0, none⟩) n cp) := by rw [ha]; exact (putSel_off rfl).trans rfl
              replace ha := Aside0.mk ha
              have B0 := Aside0.mk Q_B0
              have R0 := Aside0.mk Q_R0
              refine value_ (w1 := w') (v := .slice (some ⟨g, 0, none⟩) n cp) (by rfl) rfl ?_ ?_
              · go_simp
                (try simp only [i64_w])
                try rfl
              refine hK.out _ _ ⟨rv, (by rw [ha.out]; exact putSel_upk 7 hb_ rfl rfl rfl), Q_B0, Q_R0, fun h0_ => absurd ((hoff 11 (by kernel_rfl)).symm.trans h0_) (by decide)⟩
            refine steps_cons ?_ ?_
            · rintro b a w' ⟨rv, ha, Q_B0, Q_R0, Q_HRV⟩ hb_ hon hoff
              refine ⟨_, rfl, fun K hK => ?_⟩
              have e23 : a.tmps[23]? = some (.int .i64 (c : Int)) := by rw [ha]; exact (putSel_off rfl).trans rfl
              replace ha := Aside0.mk ha
              have B0 := Aside0.mk Q_B0
              have R0 := Aside0.mk Q_R0
              refine value_ (w1 := w') (v := .int .i64 (c : Int)) (by rfl) rfl ?_ ?_
              · go_simp
                (try simp only [i64_w])
                try rfl
              refine hK.out _ _ ⟨rv, (by rw [ha.out]; exact putSel_upk 8 hb_ rfl rfl rfl), Q_B0, Q_R0, fun h0_ => absurd ((hoff 11 (by kernel_rfl)).symm.trans h0_) (by decide)⟩
            refine steps_cons ?_ ?_
            · rintro b a w' ⟨rv, ha, Q_B0, Q_R0, Q_HRV⟩ hb_ hon hoff
              refine ⟨_, rfl, fun K hK => ?_⟩
              have e165 : a.tmps[165]? = some (.slice (some ⟨g, 0, none⟩) n cp) := by rw [ha]; exact putSel_on (e := (7, 165, .slice (some ⟨g, 0, none⟩) n cp)) 7 rfl rfl (hon 7 (by kernel_rfl)) rfl
              have e166 : a.tmps[166]? = some (.int .i64 (c : Int)) := by rw [ha]; exact putSel_on (e := (8, 166, .int .i64 (c : Int))) 8 rfl rfl (hon 8 (by kernel_rfl)) rfl
              replace ha := Aside0.mk ha
              have B0 := Aside0.mk Q_B0
              have R0 := Aside0.mk Q_R0
              have p1_ := LO_c.out
              have q1_ := HI_c.out
              refine value_ (w1 := w') (v := .pointer (some ⟨g, c * 3, none⟩)) (by rfl) rfl ?_ ?_
              · go_simp
                (try simp only [i64_w])
                try rfl
              refine hK.out _ _ ⟨rv, (by rw [ha.out]; exact putSel_upk 9 hb_ rfl rfl rfl), Q_B0, Q_R0, fun h0_ => absurd ((hoff 11 (by kernel_rfl)).symm.trans h0_) (by decide)⟩
            refine steps_cons ?_ ?_
            · rintro b a w' ⟨rv, ha, Q_B0, Q_R0, Q_HRV⟩ hb_ hon hoff
              refine ⟨_, rfl, fun K hK => ?_⟩
              have e167 : a.tmps[167]? = some (.pointer (some ⟨g, c * 3, none⟩)) := by rw [ha]; exact putSel_on (e := (9, 167, .pointer (some ⟨g, c * 3, none⟩))) 9 rfl rfl (hon 9 (by kernel_rfl)) rfl
              replace ha := Aside0.mk ha
              have B0 := Aside0.mk Q_B0
              have R0 := Aside0.mk Q_R0
              have cs_ := R0.out.cells HX_c.out
              refine value_ (w1 := w') (v := .agg #[.int .i64 x.nr, .int .i64 x.kd, .slice x.A x.n x.c]) (by rfl) rfl ?_ ?_
              · go_simp
                (try simp only [i64_w])
                try rfl
              refine hK.out _ _ ⟨rv, (by rw [ha.out]; exact putSel_upk 10 hb_ rfl rfl rfl), Q_B0, Q_R0, fun h0_ => absurd ((hoff 11 (by kernel_rfl)).symm.trans h0_) (by decide)⟩
            refine steps_cons ?_ ?_
            · rintro b a w' ⟨rv, ha, Q_B0, Q_R0, Q_HRV⟩ hb_ hon hoff
              refine ⟨_, rfl, fun K hK => ?_⟩
              have e158 : a.tmps[158]? = some (.func (.func 85) #[] #[]) := by rw [ha]; exact putSel_on (e := (0, 158, .func (.func 85) #[] #[])) 0 rfl rfl (hon 0 (by kernel_rfl)) rfl
              have e164 : a.tmps[164]? = some (.agg #[.int .i64 y.nr, .int .i64 y.kd, .slice y.A y.n y.c]) := by rw [ha]; exact putSel_on (e := (6, 164, .agg #[.int .i64 y.nr, .int .i64 y.kd, .slice y.A y.n y.c])) 6 rfl rfl (hon 6 (by kernel_rfl)) rfl
              have e168 : a.tmps[168]? = some (.agg #[.int .i64 x.nr, .int .i64 x.kd, .slice x.A x.n x.c]) := by rw [ha]; exact putSel_on (e := (10, 168, .agg #[.int .i64 x.nr, .int .i64 x.kd, .slice x.A x.n x.c])) 10 rfl rfl (hon 10 (by kernel_rfl)) rfl
              replace ha := Aside0.mk ha
              have B0 := Aside0.mk Q_B0
              have R0 := Aside0.mk Q_R0
              refine goesv_ (t := 158) Try.func85 (by kernel_rfl) rfl #[.agg #[.int .i64 y.nr, .int .i64 y.kd, .slice y.A y.n y.c], .agg #[.int .i64 x.nr, .int .i64 x.kd, .slice x.A x.n x.c]] (by rfl) rfl rfl e158 (by first | (simp only [List.map_toArray, List.map_cons, List.map_nil, Act.eval, Array.getD_eq_getD_getElem?, Option.getD_some, e158, e164, e168]; done) | (simp only [List.map_toArray, List.map_cons, List.map_nil, Act.eval, Array.getD_eq_getD_getElem?, Option.getD_some, e158, e164, e168]; rfl)) ?_
              with_reducible refine (HCMP.out w' y x).mono ?_
              rintro e w2 ⟨r_, rfl, hr_, hb⟩
              refine ⟨_, rfl, ?_⟩
              refine hK.out _ _ ⟨.int .i64 r_, (by rw [ha.out]; exact putSel_upk 11 hb_ rfl rfl rfl), below_row B0.out HG.out R0.out hb, RowB.below R0.out hb, fun _ => ⟨r_, rfl, hr_.trans HTV.out⟩⟩
            refine steps_cons ?_ ?_
            · rintro b a w' ⟨rv, ha, Q_B0, Q_R0, Q_HRV⟩ hb_ hon hoff
              refine ⟨_, rfl, fun K hK => ?_⟩
              have e169 : a.tmps[169]? = some (rv) := by rw [ha]; exact putSel_on (e := (11, 169, rv)) 11 rfl rfl (hon 11 (by kernel_rfl)) rfl
              replace ha := Aside0.mk ha
              have B0 := Aside0.mk Q_B0
              have R0 := Aside0.mk Q_R0
              have HRV := Aside0.mk (Q_HRV (hon 11 (by kernel_rfl)))
              obtain ⟨r_, hr1_, hr2_⟩ := HRV.out
              rw [hr1_] at e169
              refine value_ (w1 := w') (v := .bool true) (by rfl) rfl ?_ ?_
              · go_simp
                (try simp only [i64_w])
                try rfl
              refine hK.out _ _ ⟨rv, (by rw [ha.out]; exact putSel_upk 12 hb_ rfl rfl rfl), Q_B0, Q_R0, Q_HRV⟩
            refine steps_cons ?_ ?_
            · rintro b a w' ⟨rv, ha, Q_B0, Q_R0, Q_HRV⟩ hb_ hon hoff
              refine ⟨_, rfl, fun K hK => ?_⟩
              have e170 : a.tmps[170]? = some (.bool true) := by rw [ha]; exact putSel_on (e := (12, 170, .bool true)) 12 rfl rfl (hon 12 (by kernel_rfl)) rfl
              replace ha := Aside0.mk ha
              have B0 := Aside0.mk Q_B0
              have R0 := Aside0.mk Q_R0
              have HRV := Aside0.mk (Q_HRV (hon 11 (by kernel_rfl)))
              refine value_ (w1 := w') (v := .bool false) (by rfl) rfl ?_ ?_
              · go_simp
                (try simp only [i64_w])
                try rfl
              refine hK.out _ _ ⟨rv, (by rw [ha.out]; exact putSel_upk 13 hb_ rfl rfl rfl), Q_B0, Q_R0, Q_HRV⟩
            exact steps_nil
          rintro b a wl hall ⟨rv, ha, Q_B0, Q_R0, Q_HRV⟩
          clear B0 R0
          have hb0_ := hall 0 (by kernel_rfl)
          have hb1_ := hall 1 (by kernel_rfl)
          have hb2_ := hall 2 (by kernel_rfl)
          have hb3_ := hall 3 (by kernel_rfl)
          have hb4_ := hall 4 (by kernel_rfl)
          have hb5_ := hall 5 (by kernel_rfl)
          have hb6_ := hall 6 (by kernel_rfl)
          have hb7_ := hall 7 (by kernel_rfl)
          have hb8_ := hall 8 (by kernel_rfl)
          have hb9_ := hall 9 (by kernel_rfl)
          have hb10_ := hall 10 (by kernel_rfl)
          have hb11_ := hall 11 (by kernel_rfl)
          have hb12_ := hall 12 (by kernel_rfl)
          have hb13_ := hall 13 (by kernel_rfl)
          subst ha
          simp only [putSel, hb0_, hb1_, hb2_, hb3_, hb4_, hb5_, hb6_, hb7_, hb8_, hb9_, hb10_, hb11_, hb12_, hb13_, if_true, Act.put, List.setIfInBounds_toArray, List.set_cons_zero, List.set_cons_succ]
          have B0 := Aside0.mk Q_B0
          clear Q_B0
          have R0 := Aside0.mk Q_R0
          clear Q_R0
          have HRV := Aside0.mk (Q_HRV hb11_)
          clear Q_HRV
          clear hall hb0_ hb1_ hb2_ hb3_ hb4_ hb5_ hb6_ hb7_ hb8_ hb9_ hb10_ hb11_ hb12_ hb13_
          clear HRV
          go_wp2_with fail
          go_roundg (c - i)
          case measure => have := HQ.out; have := HBD.out; omega
          case rel => exact ⟨i, c, rfl, rfl, HB2, R0, B0, ⟨by have := HBD.out; omega⟩⟩
        | false =>
          have HTV := Aside0.mk htv
          have HB2 := Aside0.mk (HBS.out.up HMO.out HBD.out.1.1 HBD.out.1.2.1 (by rw [hf, htv]; rfl))
          clear htv hf
          refine start_ (n := 14) (S := fun w' => True) (ds := []) #[false, false, false, false, false, false, false, false, false, false, false, false, false, false] (by kernel_rfl) rfl rfl trivial (fun hHeld => ?_)
          refine with_tabW symg.tab35 symg.bits35 (fun HT_ HW_ => ?_)
          generalize wr.drew = wq at B0 R0 hHeld ⊢
          refine inv_at [0, 1, 2, 3, 4, 5, 6, 7, 8, 9, 10, 11, 12, 13] (fun a0_ b a w' => ∃ (rv : Value), a = putSel a0_ b [(0, 158, .func (.func 85) #[] #[]), (1, 159, .slice (some ⟨g, 0, none⟩) n cp), (2, 160, .int .i64 (p : Int)), (3, 161, .int .i64 (c : Int)), (4, 162, .int .i64 (pc : Int)), (5, 163, .pointer (some ⟨g, pc * 3, none⟩)), (6, 164, .agg #[.int .i64 y.nr, .int .i64 y.kd, .slice y.A y.n y.c]), (7, 165, .slice (some ⟨g, 0, none⟩) n cp), (8, 166, .int .i64 (c : Int)), (9, 167, .pointer (some ⟨g, c * 3, none⟩)), (10, 168, .agg #[.int .i64 x.nr, .int .i64 x.kd, .slice x.A x.n x.c]), (11, 169, rv), (12, 170, .bool false), (13, 171, .bool true)] ∧ (Kp g w0 w') ∧ (RowB w' g dd) ∧ (b 11 = true → ∃ r_ : Int, rv = .int .i64 r_ ∧ decide (r_ < 0) = false)) HT_.out HW_.out (by kernel_rfl) (by kernel_rfl) ?_ ?_ ?_
          · exact ⟨.bool false, by simp only [putSel, Bool.false_eq_true, if_false], B0.out, R0.out, fun h_ => absurd h_ (by decide)⟩
          · skip
            clear B0 R0
            refine steps_cons ?_ ?_
            · rintro b a w' ⟨rv, ha, Q_B0, Q_R0, Q_HRV⟩ hb_ hon hoff
              refine ⟨_, rfl, fun K hK => ?_⟩
              have e4 : a.tmps[4]? = some (.func (.func 85) #[] #[]) := by rw [ha]; exact (putSel_off rfl).trans rfl
              replace ha := Aside0.mk ha
              have B0 := Aside0.mk Q_B0
              have R0 := Aside0.mk Q_R0
              refine value_ (w1 := w') (v := .func (.func 85) #[] #[]) (by rfl) rfl ?_ ?_
              · go_simp
                (try simp only [i64_w])
                try rfl
              refine hK.out _ _ ⟨rv, (by rw [ha.out]; exact putSel_upk 0 hb_ rfl rfl rfl), Q_B0, Q_R0, fun h0_ => absurd ((hoff 11 (by kernel_rfl)).symm.trans h0_) (by decide)⟩
            refine steps_cons ?_ ?_
            · rintro b a w' ⟨rv, ha, Q_B0, Q_R0, Q_HRV⟩ hb_ hon hoff
              refine ⟨_, rfl, fun K hK => ?_⟩
              have e0 : a.tmps[0]? = some (.slice (some ⟨g, 0, none⟩) n cp) := by rw [ha]; exact (putSel_off rfl).trans rfl
              replace ha := Aside0.mk ha
              have B0 := Aside0.mk Q_B0
              have R0 := Aside0.mk Q_R0
              refine value_ (w1 := w') (v := .slice (some ⟨g, 0, none⟩) n cp) (by rfl) rfl ?_ ?_
              · go_simp
                (try simp only [i64_w])
                try rfl
              refine hK.out _ _ ⟨rv, (by rw [ha.out]; exact putSel_upk 1 hb_ rfl rfl rfl), Q_B0, Q_R0, fun h0_ => absurd ((hoff 11 (by kernel_rfl)).symm.trans h0_) (by decide)⟩
            refine steps_cons ?_ ?_
            · rintro b a w' ⟨rv, ha, Q_B0, Q_R0, Q_HRV⟩ hb_ hon hoff
              refine ⟨_, rfl, fun K hK => ?_⟩
              have e22 : a.tmps[22]? = some (.int .i64 (p : Int)) := by rw [ha]; exact (putSel_off rfl).trans rfl
              replace ha := Aside0.mk ha
              have B0 := Aside0.mk Q_B0
              have R0 := Aside0.mk Q_R0
              refine value_ (w1 := w') (v := .int .i64 (p : Int)) (by rfl) rfl ?_ ?_
              · go_simp
                (try simp only [i64_w])
                try rfl
              refine hK.out _ _ ⟨rv, (by rw [ha.out]; exact putSel_upk 2 hb_ rfl rfl rfl), Q_B0, Q_R0, fun h0_ => absurd ((hoff 11 (by kernel_rfl)).symm.trans h0_) (by decide)⟩
            refine steps_cons ?_ ?_
            · rintro b a w' ⟨rv, ha, Q_B0, Q_R0, Q_HRV⟩ hb_ hon hoff
              refine ⟨_, rfl, fun K hK => ?_⟩
              have e23 : a.tmps[23]? = some (.int .i64 (c : Int)) := by rw [ha]; exact (putSel_off rfl).trans rfl
              replace ha := Aside0.mk ha
              have B0 := Aside0.mk Q_B0
              have R0 := Aside0.mk Q_R0
              refine value_ (w1 := w') (v := .int .i64 (c : Int)) (by rfl) rfl ?_ ?_
              · go_simp
                (try simp only [i64_w])
                try rfl
              refine hK.out _ _ ⟨rv, (by rw [ha.out]; exact putSel_upk 3 hb_ rfl rfl rfl), Q_B0, Q_R0, fun h0_ => absurd ((hoff 11 (by kernel_rfl)).symm.trans h0_) (by decide)⟩
            refine steps_cons ?_ ?_
            · rintro b a w' ⟨rv, ha, Q_B0, Q_R0, Q_HRV⟩ hb_ hon hoff
              refine ⟨_, rfl, fun K hK => ?_⟩
              have e160 : a.tmps[160]? = some (.int .i64 (p : Int)) := by rw [ha]; exact putSel_on (e := (2, 160, .int .i64 (p : Int))) 2 rfl rfl (hon 2 (by kernel_rfl)) rfl
              have e161 : a.tmps[161]? = some (.int .i64 (c : Int)) := by rw [ha]; exact putSel_on (e := (3, 161, .int .i64 (c : Int))) 3 rfl rfl (hon 3 (by kernel_rfl)) rfl
              replace ha := Aside0.mk ha
              have B0 := Aside0.mk Q_B0
              have R0 := Aside0.mk Q_R0
              have hw0_ := HWP.out
              refine value_ (w1 := w') (v := .int .i64 (pc : Int)) (by rfl) rfl ?_ ?_
              · go_simp
                (try simp only [i64_w])
                try rfl
              refine hK.out _ _ ⟨rv, (by rw [ha.out]; exact putSel_upk 4 hb_ rfl rfl rfl), Q_B0, Q_R0, fun h0_ => absurd ((hoff 11 (by kernel_rfl)).symm.trans h0_) (by decide)⟩
            refine steps_cons ?_ ?_
            · rintro b a w' ⟨rv, ha, Q_B0, Q_R0, Q_HRV⟩ hb_ hon hoff
              refine ⟨_, rfl, fun K hK => ?_⟩
              have e159 : a.tmps[159]? = some (.slice (some ⟨g, 0, none⟩) n cp) := by rw [ha]; exact putSel_on (e := (1, 159, .slice (some ⟨g, 0, none⟩) n cp)) 1 rfl rfl (hon 1 (by kernel_rfl)) rfl
              have e162 : a.tmps[162]? = some (.int .i64 (pc : Int)) := by rw [ha]; exact putSel_on (e := (4, 162, .int .i64 (pc : Int))) 4 rfl rfl (hon 4 (by kernel_rfl)) rfl
              replace ha := Aside0.mk ha
              have B0 := Aside0.mk Q_B0
              have R0 := Aside0.mk Q_R0
              have p1_ := LO_pc.out
              have q1_ := HI_pc.out
              refine value_ (w1 := w') (v := .pointer (some ⟨g, pc * 3, none⟩)) (by rfl) rfl ?_ ?_
              · go_simp
                (try simp only [i64_w])
                try rfl
              refine hK.out _ _ ⟨rv, (by rw [ha.out]; exact putSel_upk 5 hb_ rfl rfl rfl), Q_B0, Q_R0, fun h0_ => absurd ((hoff 11 (by kernel_rfl)).symm.trans h0_) (by decide)⟩
            refine steps_cons ?_ ?_
            · rintro b a w' ⟨rv, ha, Q_B0, Q_R0, Q_HRV⟩ hb_ hon hoff
              refine ⟨_, rfl, fun K hK => ?_⟩
              have e163 : a.tmps[163]? = some (.pointer (some ⟨g, pc * 3, none⟩)) := by rw [ha]; exact putSel_on (e := (5, 163, .pointer (some ⟨g, pc * 3, none⟩))) 5 rfl rfl (hon 5 (by kernel_rfl)) rfl
              replace ha := Aside0.mk ha
              have B0 := Aside0.mk Q_B0
              have R0 := Aside0.mk Q_R0
              have cs_ := R0.out.cells HX_pc.out
              refine value_ (w1 := w') (v := .agg #[.int .i64 y.nr, .int .i64 y.kd, .slice y.A y.n y.c]) (by rfl) rfl ?_ ?_
              · go_simp
                (try simp only [i64_w])
                try rfl
              refine hK.out _ _ ⟨rv, (by rw [ha.out]; exact putSel_upk 6 hb_ rfl rfl rfl), Q_B0, Q_R0, fun h0_ => absurd ((hoff 11 (by kernel_rfl)).symm.trans h0_) (by decide)⟩
            refine steps_cons ?_ ?_
            · rintro b a w' ⟨rv, ha, Q_B0, Q_R0, Q_HRV⟩ hb_ hon hoff
              refine ⟨_, rfl, fun K hK => ?_⟩
              have e0 : a.tmps[0]? = some (.slice (some ⟨g, 0, none⟩) n cp) := by rw [ha]; exact (putSel_off rfl).trans rfl
              replace ha := Aside0.mk ha
              have B0 := Aside0.mk Q_B0
              have R0 := Aside0.mk Q_R0
              refine value_ (w1 := w') (v := .slice (some ⟨g, 0, none⟩) n cp) (by rfl) rfl ?_ ?_
              · go_simp
                (try simp only [i64_w])
                try rfl
              refine hK.out _ _ ⟨rv, (by rw [ha.out]; exact putSel_upk 7 hb_ rfl rfl rfl), Q_B0, Q_R0, fun h0_ => absurd ((hoff 11 (by kernel_rfl)).symm.trans h0_) (by decide)⟩
            refine steps_cons ?_ ?_
            · rintro b a w' ⟨rv, ha, Q_B0, Q_R0, Q_HRV⟩ hb_ hon hoff
              refine ⟨_, rfl, fun K hK => ?_⟩
              have e23 : a.tmps[23]? = some (.int .i64 (c : Int)) := by rw [ha]; exact (putSel_off rfl).trans rfl
              replace ha := Aside0.mk ha
              have B0 := Aside0.mk Q_B0
              have R0 := Aside0.mk Q_R0
              refine value_ (w1 := w') (v := .int .i64 (c : Int)) (by rfl) rfl ?_ ?_
              · go_simp
                (try simp only [i64_w])
                try rfl
              refine hK.out _ _ ⟨rv, (by rw [ha.out]; exact putSel_upk 8 hb_ rfl rfl rfl), Q_B0, Q_R0, fun h0_ => absurd ((hoff 11 (by kernel_rfl)).symm.trans h0_) (by decide)⟩
            refine steps_cons ?_ ?_
            · rintro b a w' ⟨rv, ha, Q_B0, Q_R0, Q_HRV⟩ hb_ hon hoff
              refine ⟨_, rfl, fun K hK => ?_⟩
              have e165 : a.tmps[165]? = some (.slice (some ⟨g, 0, none⟩) n cp) := by rw [ha]; exact putSel_on (e := (7, 165, .slice (some ⟨g, 0, none⟩) n cp)) 7 rfl rfl (hon 7 (by kernel_rfl)) rfl
              have e166 : a.tmps[166]? = some (.int .i64 (c : Int)) := by rw [ha]; exact putSel_on (e := (8, 166, .int .i64 (c : Int))) 8 rfl rfl (hon 8 (by kernel_rfl)) rfl
              replace ha := Aside0.mk ha
              have B0 := Aside0.mk Q_B0
              have R0 := Aside0.mk Q_R0
              have p1_ := LO_c.out
              have q1_ := HI_c.out
              refine value_ (w1 := w') (v := .pointer (some ⟨g, c * 3, none⟩)) (by rfl) rfl ?_ ?_
              · go_simp
                (try simp only [i64_w])
                try rfl
              refine hK.out _ _ ⟨rv, (by rw [ha.out]; exact putSel_upk 9 hb_ rfl rfl rfl), Q_B0, Q_R0, fun h0_ => absurd ((hoff 11 (by kernel_rfl)).symm.trans h0_) (by decide)⟩
            refine steps_cons ?_ ?_
            · rintro b a w' ⟨rv, ha, Q_B0, Q_R0, Q_HRV⟩ hb_ hon hoff
              refine ⟨_, rfl, fun K hK => ?_⟩
              have e167 : a.tmps[167]? = some (.pointer (some ⟨g, c * 3, none⟩)) := by rw [ha]; exact putSel_on (e := (9, 167, .pointer (some ⟨g, c * 3, none⟩))) 9 rfl rfl (hon 9 (by kernel_rfl)) rfl
              replace ha := Aside0.mk ha
              have B0 := Aside0.mk Q_B0
              have R0 := Aside0.mk Q_R0
              have cs_ := R0.out.cells HX_c.out
              refine value_ (w1 := w') (v := .agg #[.int .i64 x.nr, .int .i64 x.kd, .slice x.A x.n x.c]) (by rfl) rfl ?_ ?_
              · go_simp
                (try simp only [i64_w])
                try rfl
              refine hK.out _ _ ⟨rv, (by rw [ha.out]; exact putSel_upk 10 hb_ rfl rfl rfl), Q_B0, Q_R0, fun h0_ => absurd ((hoff 11 (by kernel_rfl)).symm.trans h0_) (by decide)⟩
            refine steps_cons ?_ ?_
            · rintro b a w' ⟨rv, ha, Q_B0, Q_R0, Q_HRV⟩ hb_ hon hoff
              refine ⟨_, rfl, fun K hK => ?_⟩
              have e158 : a.tmps[158]? = some (.func (.func 85) #[] #[]) := by rw [ha]; exact putSel_on (e := (0, 158, .func (.func 85) #[] #[])) 0 rfl rfl (hon 0 (by kernel_rfl)) rfl
              have e164 : a.tmps[164]? = some (.agg #[.int .i64 y.nr, .int .i64 y.kd, .slice y.A y.n y.c]) := by rw [ha]; exact putSel_on (e := (6, 164, .agg #[.int .i64 y.nr, .int .i64 y.kd, .slice y.A y.n y.c])) 6 rfl rfl (hon 6 (by kernel_rfl)) rfl
              have e168 : a.tmps[168]? = some (.agg #[.int .i64 x.nr, .int .i64 x.kd, .slice x.A x.n x.c]) := by rw [ha]; exact putSel_on (e := (10, 168, .agg #[.int .i64 x.nr, .int .i64 x.kd, .slice x.A x.n x.c])) 10 rfl rfl (hon 10 (by kernel_rfl)) rfl
              replace ha := Aside0.mk ha
              have B0 := Aside0.mk Q_B0
              have R0 := Aside0.mk Q_R0
              refine goesv_ (t := 158) Try.func85 (by kernel_rfl) rfl #[.agg #[.int .i64 y.nr, .int .i64 y.kd, .slice y.A y.n y.c], .agg #[.int .i64 x.nr, .int .i64 x.kd, .slice x.A x.n x.c]] (by rfl) rfl rfl e158 (by first | (simp only [List.map_toArray, List.map_cons, List.map_nil, Act.eval, Array.getD_eq_getD_getElem?, Option.getD_some, e158, e164, e168]; done) | (simp only [List.map_toArray, List.map_cons, List.map_nil, Act.eval, Array.getD_eq_getD_getElem?, Option.getD_some, e158, e164, e168]; rfl)) ?_
              with_reducible refine (HCMP.out w' y x).mono ?_
              rintro e w2 ⟨r_, rfl, hr_, hb⟩
              refine ⟨_, rfl, ?_⟩
              refine hK.out _ _ ⟨.int .i64 r_, (by rw [ha.out]; exact putSel_upk 11 hb_ rfl rfl rfl), below_row B0.out HG.out R0.out hb, RowB.below R0.out hb, fun _ => ⟨r_, rfl, hr_.trans HTV.out⟩⟩
            refine steps_cons ?_ ?_
            · rintro b a w' ⟨rv, ha, Q_B0, Q_R0, Q_HRV⟩ hb_ hon hoff
              refine ⟨_, rfl, fun K hK => ?_⟩
              have e169 : a.tmps[169]? = some (rv) := by rw [ha]; exact putSel_on (e := (11, 169, rv)) 11 rfl rfl (hon 11 (by kernel_rfl)) rfl
              replace ha := Aside0.mk ha
              have B0 := Aside0.mk Q_B0
              have R0 := Aside0.mk Q_R0
              have HRV := Aside0.mk (Q_HRV (hon 11 (by kernel_rfl)))
              obtain ⟨r_, hr1_, hr2_⟩ := HRV.out
              rw [hr1_] at e169
              refine value_ (w1 := w') (v := .bool false) (by rfl) rfl ?_ ?_
              · go_simp
                (try simp only [i64_w])
                try rfl
              refine hK.out _ _ ⟨rv, (by rw [ha.out]; exact putSel_upk 12 hb_ rfl rfl rfl), Q_B0, Q_R0, Q_HRV⟩
            refine steps_cons ?_ ?_
            · rintro b a w' ⟨rv, ha, Q_B0, Q_R0, Q_HRV⟩ hb_ hon hoff
              refine ⟨_, rfl, fun K hK => ?_⟩
              have e170 : a.tmps[170]? = some (.bool false) := by rw [ha]; exact putSel_on (e := (12, 170, .bool false)) 12 rfl rfl (hon 12 (by kernel_rfl)) rfl
              replace ha := Aside0.mk ha
              have B0 := Aside0.mk Q_B0
              have R0 := Aside0.mk Q_R0
              have HRV := Aside0.mk (Q_HRV (hon 11 (by kernel_rfl)))
              refine value_ (w1 := w') (v := .bool true) (by rfl) rfl ?_ ?_
              · go_simp
                (try simp only [i64_w])
                try rfl
              refine hK.out _ _ ⟨rv, (by rw [ha.out]; exact putSel_upk 13 hb_ rfl rfl rfl), Q_B0, Q_R0, Q_HRV⟩
            exact steps_nil
          rintro b a wl hall ⟨rv, ha, Q_B0, Q_R0, Q_HRV⟩
          clear B0 R0
          have hb0_ := hall 0 (by kernel_rfl)
          have hb1_ := hall 1 (by kernel_rfl)
          have hb2_ := hall 2 (by kernel_rfl)
          have hb3_ := hall 3 (by kernel_rfl)
          have hb4_ := hall 4 (by kernel_rfl)
          have hb5_ := hall 5 (by kernel_rfl)
          have hb6_ := hall 6 (by kernel_rfl)
          have hb7_ := hall 7 (by kernel_rfl)
          have hb8_ := hall 8 (by kernel_rfl)
          have hb9_ := hall 9 (by kernel_rfl)
          have hb10_ := hall 10 (by kernel_rfl)
          have hb11_ := hall 11 (by kernel_rfl)
          have hb12_ := hall 12 (by kernel_rfl)
          have hb13_ := hall 13 (by kernel_rfl)
          subst ha
          simp only [putSel, hb0_, hb1_, hb2_, hb3_, hb4_, hb5_, hb6_, hb7_, hb8_, hb9_, hb10_, hb11_, hb12_, hb13_, if_true, Act.put, List.setIfInBounds_toArray, List.set_cons_zero, List.set_cons_succ]
          have B0 := Aside0.mk Q_B0
          clear Q_B0
          have R0 := Aside0.mk Q_R0
          clear Q_R0
          have HRV := Aside0.mk (Q_HRV hb11_)
          clear Q_HRV
          clear hall hb0_ hb1_ hb2_ hb3_ hb4_ hb5_ hb6_ hb7_ hb8_ hb9_ hb10_ hb11_ hb12_ hb13_
          clear HRV
          go_wp2_with fail
          go_roundg (j - (c + 1))
          case measure => have := HQ.out; have := HBD.out; omega
          case rel => exact ⟨c + 1, j, by first | rfl | (simp; unfold wrap64; have := HBD.out; have := HL.out; omega), rfl, HB2, R0, B0, ⟨by have := HBD.out; omega⟩⟩
      case neg =>
        have hie : i = j := by have := HBS.out; unfold Bs at this; omega
        subst hie
        obtain ⟨s, hs⟩ : ∃ s, s = i := ⟨_, rfl⟩
        subst hs
        have t1 : decide (s < s) = false := decide_eq_false (by omega)
        obtain ⟨e, he⟩ : ∃ e, e = mid + im - s := ⟨_, rfl⟩
        have hbs := HBS.out
        rw [HDD.out, show p = mid + im - 1 by have := HN.out; omega] at hbs
        obtain ⟨D1, D2, hT⟩ := sym_tail lt HO.out N w0 g HG.out cp ia im ib n mid lo mid s e P A B Q HNL.out HL.out.2.2.2.2.1 HIH.out HAB.out.1 HAB.out.2 (by have := HL.out; omega) (by have := HL.out; omega) (by have := HL.out; omega) (by have := HL.out; omega) (by have := HL.out; omega) (by have := HN.out; omega) (by have := HLO.out; have := HN.out; have := HL.out; omega) hbs he
        rw [← HDD.out] at hT
        have HT := Aside0.mk hT
        have HBD : Aside0 ((ia ≤ s ∧ s ≤ im ∧ s ≤ mid ∧ im ≤ e ∧ e ≤ ib) ∧ e = mid + im - s) := ⟨hT.2.2.2.2.2.2, he⟩
        have HW2 : IntKind.i64.wrap ((nn : Int) - (s : Int)) = (e : Int) := by rw [i64_w]; unfold wrap64; have := HL.out; have := HN.out; have := HBD.out; omega
        clear hT hbs he hij HMO HBS
        go_upto_region 39 with fail
        clear t1 HW2
        by_cases hu1 : s < im <;> by_cases hu2 : s < mid <;> by_cases hu3 : ia < s <;> by_cases hu4 : e < ib
        · have g1 : decide (s < im) = true := decide_eq_true (by omega)
          have g2 : decide (im < e) = true := decide_eq_true (by have := HBD.out; omega)
          have g3 : decide (ia < s) = true := decide_eq_true (by have := HBD.out; omega)
          have g4 : decide (s < mid) = true := decide_eq_true (by have := HBD.out; omega)
          have g5 : decide (mid < e) = true := decide_eq_true (by have := HBD.out; omega)
          have g6 : decide (e < ib) = true := decide_eq_true (by have := HBD.out; omega)
          have HC1 := Aside0.mk (HT.out.1 hu1 hu2)
          have HC2 := Aside0.mk (HT.out.2.2.1 hu3 hu2)
          have HC3 := Aside0.mk (HT.out.2.2.2.2.1 hu1 hu4)
          clear HT hu1 hu2 hu3 hu4
          go_wp2_with (first | (go_at_call 127; refine (HC1.out _ BB.out (RR.out)).mono ?_; rintro e1_ w1 ⟨rfl, B1, R1⟩) | (go_at_call 120; with_reducible refine (HC2.out _ B1 (R1)).mono ?_; rintro e2_ w2 ⟨rfl, B2, R2⟩) | (go_at_call 120; with_reducible refine (HC3.out _ B2 (R2)).mono ?_; rintro e3_ w3 ⟨rfl, B3, R3⟩))
          go_end0
          exact ⟨rfl, B3, R3⟩
        · have g1 : decide (s < im) = true := decide_eq_true (by omega)
          have g2 : decide (im < e) = true := decide_eq_true (by have := HBD.out; omega)
          have g3 : decide (ia < s) = true := decide_eq_true (by have := HBD.out; omega)
          have g4 : decide (s < mid) = true := decide_eq_true (by have := HBD.out; omega)
          have g5 : decide (mid < e) = true := decide_eq_true (by have := HBD.out; omega)
          have g6 : decide (e < ib) = false := decide_eq_false (by have := HBD.out; omega)
          have HC1 := Aside0.mk (HT.out.1 hu1 hu2)
          have HC2 := Aside0.mk (HT.out.2.2.1 hu3 hu2)
          have HK3 := Aside0.mk (HT.out.2.2.2.2.2.1 (by omega))
          clear HT hu1 hu2 hu3 hu4
          go_wp2_with (first | (go_at_call 127; refine (HC1.out _ BB.out (RR.out)).mono ?_; rintro e1_ w1 ⟨rfl, B1, R1⟩) | (go_at_call 120; with_reducible refine (HC2.out _ B1 (R1)).mono ?_; rintro e2_ w2 ⟨rfl, B2, R2⟩))
          go_end0
          exact ⟨rfl, B2, HK3.out _ (R2)⟩
        · have g1 : decide (s < im) = true := decide_eq_true (by omega)
          have g2 : decide (im < e) = true := decide_eq_true (by have := HBD.out; omega)
          have g3 : decide (ia < s) = false := decide_eq_false (by have := HBD.out; omega)
          have g4 : decide (s < mid) = true := decide_eq_true (by have := HBD.out; omega)
          have g5 : decide (mid < e) = true := decide_eq_true (by have := HBD.out; omega)
          have g6 : decide (e < ib) = true := decide_eq_true (by have := HBD.out; omega)
          have HC1 := Aside0.mk (HT.out.1 hu1 hu2)
          have HK2 := Aside0.mk (HT.out.2.2.2.1 (by omega))
          have HC3 := Aside0.mk (HT.out.2.2.2.2.1 hu1 hu4)
          clear HT hu1 hu2 hu3 hu4
          go_wp2_with (first | (go_at_call 127; refine (HC1.out _ BB.out (RR.out)).mono ?_; rintro e1_ w1 ⟨rfl, B1, R1⟩) | (go_at_call 120; with_reducible refine (HC3.out _ B1 (HK2.out _ (R1))).mono ?_; rintro e3_ w3 ⟨rfl, B3, R3⟩))
          go_end0
          exact ⟨rfl, B3, R3⟩
        · have g1 : decide (s < im) = true := decide_eq_true (by omega)
          have g2 : decide (im < e) = true := decide_eq_true (by have := HBD.out; omega)
          have g3 : decide (ia < s) = false := decide_eq_false (by have := HBD.out; omega)
          have g4 : decide (s < mid) = true := decide_eq_true (by have := HBD.out; omega)
          have g5 : decide (mid < e) = true := decide_eq_true (by have := HBD.out; omega)
          have g6 : decide (e < ib) = false := decide_eq_false (by have := HBD.out; omega)
          have HC1 := Aside0.mk (HT.out.1 hu1 hu2)
          have HK2 := Aside0.mk (HT.out.2.2.2.1 (by omega))
          have HK3 := Aside0.mk (HT.out.2.2.2.2.2.1 (by omega))
          clear HT hu1 hu2 hu3 hu4
          go_wp2_with (first | (go_at_call 127; refine (HC1.out _ BB.out (RR.out)).mono ?_; rintro e1_ w1 ⟨rfl, B1, R1⟩))
          go_end0
          exact ⟨rfl, B1, HK3.out _ (HK2.out _ (R1))⟩
        · have g1 : decide (s < im) = true := decide_eq_true (by omega)
          have g2 : decide (im < e) = false := decide_eq_false (by have := HBD.out; omega)
          have g3 : decide (ia < s) = true := decide_eq_true (by have := HBD.out; omega)
          have g4 : decide (s < mid) = false := decide_eq_false (by have := HBD.out; omega)
          have g5 : decide (mid < e) = true := decide_eq_true (by have := HBD.out; omega)
          have g6 : decide (e < ib) = true := decide_eq_true (by have := HBD.out; omega)
          have HK1 := Aside0.mk (HT.out.2.1 (by omega))
          have HK2 := Aside0.mk (HT.out.2.2.2.1 (by omega))
          have HC3 := Aside0.mk (HT.out.2.2.2.2.1 hu1 hu4)
          clear HT hu1 hu2 hu3 hu4
          go_wp2_with (first | (go_at_call 120; with_reducible refine (HC3.out _ BB.out (HK2.out _ (HK1.out _ (RR.out)))).mono ?_; rintro e3_ w3 ⟨rfl, B3, R3⟩))
          go_end0
          exact ⟨rfl, B3, R3⟩
        · have g1 : decide (s < im) = true := decide_eq_true (by omega)
          have g2 : decide (im < e) = false := decide_eq_false (by have := HBD.out; omega)
          have g3 : decide (ia < s) = true := decide_eq_true (by have := HBD.out; omega)
          have g4 : decide (s < mid) = false := decide_eq_false (by have := HBD.out; omega)
          have g5 : decide (mid < e) = true := decide_eq_true (by have := HBD.out; omega)
          have g6 : decide (e < ib) = false := decide_eq_false (by have := HBD.out; omega)
          have HK1 := Aside0.mk (HT.out.2.1 (by omega))
          have HK2 := Aside0.mk (HT.out.2.2.2.1 (by omega))
          have HK3 := Aside0.mk (HT.out.2.2.2.2.2.1 (by omega))
          clear HT hu1 hu2 hu3 hu4
          go_wp2_with fail
          go_end0
          exact ⟨rfl, BB.out, HK3.out _ (HK2.out _ (HK1.out _ (RR.out)))⟩
        · have g1 : decide (s < im) = true := decide_eq_true (by omega)
          have g2 : decide (im < e) = false := decide_eq_false (by have := HBD.out; omega)
          have g3 : decide (ia < s) = false := decide_eq_false (by have := HBD.out; omega)
          have g4 : decide (s < mid) = false := decide_eq_false (by have := HBD.out; omega)
          have g5 : decide (mid < e) = true := decide_eq_true (by have := HBD.out; omega)
          have g6 : decide (e < ib) = true := decide_eq_true (by have := HBD.out; omega)
          have HK1 := Aside0.mk (HT.out.2.1 (by omega))
          have HK2 := Aside0.mk (HT.out.2.2.2.1 (by omega))
          have HC3 := Aside0.mk (HT.out.2.2.2.2.1 hu1 hu4)
          clear HT hu1 hu2 hu3 hu4
          go_wp2_with (first | (go_at_call 120; with_reducible refine (HC3.out _ BB.out (HK2.out _ (HK1.out _ (RR.out)))).mono ?_; rintro e3_ w3 ⟨rfl, B3, R3⟩))
          go_end0
          exact ⟨rfl, B3, R3⟩
        · have g1 : decide (s < im) = true := decide_eq_true (by omega)
          have g2 : decide (im < e) = false := decide_eq_false (by have := HBD.out; omega)
          have g3 : decide (ia < s) = false := decide_eq_false (by have := HBD.out; omega)
          have g4 : decide (s < mid) = false := decide_eq_false (by have := HBD.out; omega)
          have g5 : decide (mid < e) = true := decide_eq_true (by have := HBD.out; omega)
          have g6 : decide (e < ib) = false := decide_eq_false (by have := HBD.out; omega)
          have HK1 := Aside0.mk (HT.out.2.1 (by omega))
          have HK2 := Aside0.mk (HT.out.2.2.2.1 (by omega))
          have HK3 := Aside0.mk (HT.out.2.2.2.2.2.1 (by omega))
          clear HT hu1 hu2 hu3 hu4
          go_wp2_with fail
          go_end0
          exact ⟨rfl, BB.out, HK3.out _ (HK2.out _ (HK1.out _ (RR.out)))⟩
        · have g1 : decide (s < im) = false := decide_eq_false (by omega)
          have g2 : decide (im < e) = true := decide_eq_true (by have := HBD.out; omega)
          have g3 : decide (ia < s) = true := decide_eq_true (by have := HBD.out; omega)
          have g4 : decide (s < mid) = true := decide_eq_true (by have := HBD.out; omega)
          have g5 : decide (mid < e) = false := decide_eq_false (by have := HBD.out; omega)
          have g6 : decide (e < ib) = true := decide_eq_true (by have := HBD.out; omega)
          have HK1 := Aside0.mk (HT.out.2.1 (by omega))
          have HC2 := Aside0.mk (HT.out.2.2.1 hu3 hu2)
          have HK3 := Aside0.mk (HT.out.2.2.2.2.2.1 (by omega))
          clear HT hu1 hu2 hu3 hu4
          go_wp2_with (first | (go_at_call 120; with_reducible refine (HC2.out _ BB.out (HK1.out _ (RR.out))).mono ?_; rintro e2_ w2 ⟨rfl, B2, R2⟩))
          go_end0
          exact ⟨rfl, B2, HK3.out _ (R2)⟩
        · have g1 : decide (s < im) = false := decide_eq_false (by omega)
          have g2 : decide (im < e) = true := decide_eq_true (by have := HBD.out; omega)
          have g3 : decide (ia < s) = true := decide_eq_true (by have := HBD.out; omega)
          have g4 : decide (s < mid) = true := decide_eq_true (by have := HBD.out; omega)
          have g5 : decide (mid < e) = false := decide_eq_false (by have := HBD.out; omega)
          have g6 : decide (e < ib) = false := decide_eq_false (by have := HBD.out; omega)
          have HK1 := Aside0.mk (HT.out.2.1 (by omega))
          have HC2 := Aside0.mk (HT.out.2.2.1 hu3 hu2)
          have HK3 := Aside0.mk (HT.out.2.2.2.2.2.1 (by omega))
          clear HT hu1 hu2 hu3 hu4
          go_wp2_with (first | (go_at_call 120; with_reducible refine (HC2.out _ BB.out (HK1.out _ (RR.out))).mono ?_; rintro e2_ w2 ⟨rfl, B2, R2⟩))
          go_end0
          exact ⟨rfl, B2, HK3.out _ (R2)⟩
        · have g1 : decide (s < im) = false := decide_eq_false (by omega)
          have g2 : decide (im < e) = true := decide_eq_true (by have := HBD.out; omega)
          have g3 : decide (ia < s) = false := decide_eq_false (by have := HBD.out; omega)
          have g4 : decide (s < mid) = true := decide_eq_true (by have := HBD.out; omega)
          have g5 : decide (mid < e) = false := decide_eq_false (by have := HBD.out; omega)
          have g6 : decide (e < ib) = true := decide_eq_true (by have := HBD.out; omega)
          have HK1 := Aside0.mk (HT.out.2.1 (by omega))
          have HK2 := Aside0.mk (HT.out.2.2.2.1 (by omega))
          have HK3 := Aside0.mk (HT.out.2.2.2.2.2.1 (by omega))
          clear HT hu1 hu2 hu3 hu4
          go_wp2_with fail
          go_end0
          exact ⟨rfl, BB.out, HK3.out _ (HK2.out _ (HK1.out _ (RR.out)))⟩
        · have g1 : decide (s < im) = false := decide_eq_false (by omega)
          have g2 : decide (im < e) = true := decide_eq_true (by have := HBD.out; omega)
          have g3 : decide (ia < s) = false := decide_eq_false (by have := HBD.out; omega)
          have g4 : decide (s < mid) = true := decide_eq_true (by have := HBD.out; omega)
          have g5 : decide (mid < e) = false := decide_eq_false (by have := HBD.out; omega)
          have g6 : decide (e < ib) = false := decide_eq_false (by have := HBD.out; omega)
          have HK1 := Aside0.mk (HT.out.2.1 (by omega))
          have HK2 := Aside0.mk (HT.out.2.2.2.1 (by omega))
          have HK3 := Aside0.mk (HT.out.2.2.2.2.2.1 (by omega))
          clear HT hu1 hu2 hu3 hu4
          go_wp2_with fail
          go_end0
          exact ⟨rfl, BB.out, HK3.out _ (HK2.out _ (HK1.out _ (RR.out)))⟩
        · have g1 : decide (s < im) = false := decide_eq_false (by omega)
          have g2 : decide (im < e) = false := decide_eq_false (by have := HBD.out; omega)
          have g3 : decide (ia < s) = true := decide_eq_true (by have := HBD.out; omega)
          have g4 : decide (s < mid) = false := decide_eq_false (by have := HBD.out; omega)
          have g5 : decide (mid < e) = false := decide_eq_false (by have := HBD.out; omega)
          have g6 : decide (e < ib) = true := decide_eq_true (by have := HBD.out; omega)
          have HK1 := Aside0.mk (HT.out.2.1 (by omega))
          have HK2 := Aside0.mk (HT.out.2.2.2.1 (by omega))
          have HK3 := Aside0.mk (HT.out.2.2.2.2.2.1 (by omega))
          clear HT hu1 hu2 hu3 hu4
          go_wp2_with fail
          go_end0
          exact ⟨rfl, BB.out, HK3.out _ (HK2.out _ (HK1.out _ (RR.out)))⟩
        · have g1 : decide (s < im) = false := decide_eq_false (by omega)
          have g2 : decide (im < e) = false := decide_eq_false (by have := HBD.out; omega)
          have g3 : decide (ia < s) = true := decide_eq_true (by have := HBD.out; omega)
          have g4 : decide (s < mid) = false := decide_eq_false (by have := HBD.out; omega)
          have g5 : decide (mid < e) = false := decide_eq_false (by have := HBD.out; omega)
          have g6 : decide (e < ib) = false := decide_eq_false (by have := HBD.out; omega)
          have HK1 := Aside0.mk (HT.out.2.1 (by omega))
          have HK2 := Aside0.mk (HT.out.2.2.2.1 (by omega))
          have HK3 := Aside0.mk (HT.out.2.2.2.2.2.1 (by omega))
          clear HT hu1 hu2 hu3 hu4
          go_wp2_with fail
          go_end0
          exact ⟨rfl, BB.out, HK3.out _ (HK2.out _ (HK1.out _ (RR.out)))⟩
        · have g1 : decide (s < im) = false := decide_eq_false (by omega)
          have g2 : decide (im < e) = false := decide_eq_false (by have := HBD.out; omega)
          have g3 : decide (ia < s) = false := decide_eq_false (by have := HBD.out; omega)
          have g4 : decide (s < mid) = false := decide_eq_false (by have := HBD.out; omega)
          have g5 : decide (mid < e) = false := decide_eq_false (by have := HBD.out; omega)
          have g6 : decide (e < ib) = true := decide_eq_true (by have := HBD.out; omega)
          have HK1 := Aside0.mk (HT.out.2.1 (by omega))
          have HK2 := Aside0.mk (HT.out.2.2.2.1 (by omega))
          have HK3 := Aside0.mk (HT.out.2.2.2.2.2.1 (by omega))
          clear HT hu1 hu2 hu3 hu4
          go_wp2_with fail
          go_end0
          exact ⟨rfl, BB.out, HK3.out _ (HK2.out _ (HK1.out _ (RR.out)))⟩
        · have g1 : decide (s < im) = false := decide_eq_false (by omega)
          have g2 : decide (im < e) = false := decide_eq_false (by have := HBD.out; omega)
          have g3 : decide (ia < s) = false := decide_eq_false (by have := HBD.out; omega)
          have g4 : decide (s < mid) = false := decide_eq_false (by have := HBD.out; omega)
          have g5 : decide (mid < e) = false := decide_eq_false (by have := HBD.out; omega)
          have g6 : decide (e < ib) = false := decide_eq_false (by have := HBD.out; omega)
          have HK1 := Aside0.mk (HT.out.2.1 (by omega))
          have HK2 := Aside0.mk (HT.out.2.2.2.1 (by omega))
          have HK3 := Aside0.mk (HT.out.2.2.2.2.2.1 (by omega))
          clear HT hu1 hu2 hu3 hu4
          go_wp2_with fail
          go_end0
          exact ⟨rfl, BB.out, HK3.out _ (HK2.out _ (HK1.out _ (RR.out)))⟩
  · obtain ⟨lo, hlo⟩ : ∃ lo, lo = nn - ib := ⟨_, rfl⟩
    have t0 : decide (mid < im) = false := decide_eq_false (by omega)
    have HWL : IntKind.i64.wrap ((nn : Int) - (ib : Int)) = (((nn : Int) - (ib : Int))) := by rw [i64_w]; unfold wrap64; have := HL.out; have := HN.out; omega
    have HWP1 : IntKind.i64.wrap ((nn : Int) - 1) = (p : Int) := by rw [i64_w]; unfold wrap64; have := HL.out; have := HN.out; omega
    have HLO : Aside0 (mid < im ∧ ia = mid + im - ib ∧ im = mid ∨ im ≤ mid ∧ ia = ia ∧ im = im) := ⟨by have := HL.out; have := HN.out; omega⟩
    have HMO : Aside0 (Mono (fC lt dd p) ia im) := ⟨by
      rw [HDD.out]
      refine fC_mono ho P A B Q p ia im hAs hBs (by have := HL.out; have := HN.out; have := HLO.out; omega) (by have := HL.out; have := HN.out; have := HLO.out; omega) (fun c h1 h2 => by have := HL.out; have := HN.out; have := HLO.out; omega)⟩
    have HB0 : Aside0 (Bs (fC lt dd p) ia im ia im) := ⟨Bs.init _ _ _ (by have := HL.out; have := HN.out; have := HLO.out; omega)⟩
    have HLV : Aside0 (True) := ⟨trivial⟩
    have HO := Aside0.mk ho
    have HAB := Aside0.mk (And.intro hAs hBs)
    clear hmm hlo ho hAs hBs
    go_upto_region 33 with fail
    clear HWL HWP1 HW0 HW00 HW03 HW04 HWM t0 HW05
    go_loopg [20, 21] (im - ia) (fun kq v20 v21 w' => ∃ i j : Nat, v20 = .int .i64 (i : Int) ∧ v21 = .int .i64 (j : Int) ∧ Aside0 (Bs (fC lt dd p) ia im i j) ∧ Aside0 (RowB w' g dd) ∧ Aside0 (Kp g w0 w') ∧ Aside0 (kq + i = j))
    case atStart => exact ⟨ia, im, rfl, rfl, HB0, HR, hB, ⟨by have := HB0.out; unfold Bs at this; omega⟩⟩
    case round =>
      clear HB0 HR hB
      obtain ⟨i, j, rfl, rfl, HBS, RR, BB, HQ⟩ := hrel
      by_cases hij : i < j
      case pos =>
        have t1 : decide (i < j) = true := decide_eq_true hij
        have HW1 : IntKind.i64.wrap ((i : Int) + (j : Int)) = ((i + j : Nat) : Int) := by rw [i64_w]; unfold wrap64; have := HL.out; have := HN.out; have := HLO.out; have := HBS.out; unfold Bs at this; omega
        obtain ⟨c, hc2⟩ : ∃ c, c = (i + j) / 2 := ⟨_, rfl⟩
        have hb3 := HBS.out
        have hbd : i ≤ c ∧ c < j ∧ j ≤ im ∧ ia ≤ i ∧ ia ≤ c ∧ c < im ∧ im ≤ p - c ∧ p - c < ib ∧ c ≤ p := by have := HL.out; have := HN.out; have := HLO.out; unfold Bs at hb3; omega
        have HMID2 := Aside0.mk (mid_val i j c hc2 (by have := HL.out; have := HN.out; have := HLO.out; omega))
        go_upto_region 35 with fail
        rw [HMID2.out]
        clear HMID2 HW1
        obtain ⟨pc, hpc⟩ : ∃ pc, pc = p - c := ⟨_, rfl⟩
        obtain ⟨y, hy⟩ : ∃ y, dd[p - c]? = some y := some_of dd (p - c) (by rw [HDL.out]; have := HL.out; omega)
        obtain ⟨x, hx⟩ : ∃ x, dd[c]? = some x := some_of dd c (by rw [HDL.out]; have := HL.out; omega)
        have HX_pc : Aside0 (dd[pc]? = some y) := ⟨by rw [hpc]; exact hy⟩
        have HX_c := Aside0.mk hx
        have LO_pc := Aside0.mk (eq_true (show (0 : Int) ≤ (pc : Int) by omega))
        have HI_pc : Aside0 (((pc : Int) < (n : Int)) = True) := ⟨eq_true (by have := HL.out; omega)⟩
        have LO_c := Aside0.mk (eq_true (show (0 : Int) ≤ (c : Int) by omega))
        have HI_c : Aside0 (((c : Int) < (n : Int)) = True) := ⟨eq_true (by have := HL.out; omega)⟩
        have HWP : Aside0 (IntKind.i64.wrap ((p : Int) - (c : Int)) = (pc : Int)) := ⟨by rw [i64_w]; unfold wrap64; have := HL.out; have := HN.out; omega⟩
        have B0 := Aside0.mk (kp_drew BB.out)
        have R0 := Aside0.mk (RowB.below RR.out (below_drew1 (Below.refl wr.heap.size wr)))
        have HBD := Aside0.mk (And.intro hbd hij)
        have hf := fC_at (lt := lt) hy hx
        clear t1 RR BB hb3 hbd hij hc2 hy hx hpc
        cases htv : lt y x with
        | true =>
          have HTV := Aside0.mk htv
          have HB2 := Aside0.mk (HBS.out.down HMO.out HBD.out.1.1 HBD.out.1.2.1 (by rw [hf, htv]; rfl))
          clear htv hf
          refine start_ (n := 14) (S := fun w' => True) (ds := []) #[false, false, false, false, false, false, false, false, false, false, false, false, false, false] (by kernel_rfl) rfl rfl trivial (fun hHeld => ?_)
          refine with_tabW symg.tab35 symg.bits35 (fun HT_ HW_ => ?_)
          generalize wr.drew = wq at B0 R0 hHeld ⊢
          refine inv_at [0, 1, 2, 3, 4, 5, 6, 7, 8, 9, 10, 11, 12, 13] (fun a0_ b a w' => ∃ (rv : Value), a = putSel a0_ b [(0, 158, .func (.func 85) #[] #[]), (1, 159, .slice (some ⟨g, 0, none⟩) n cp), (2, 160, .int .i64 (p : Int)), (3, 161, .int .i64 (c : Int)), (4, 162, .int .i64 (pc : Int)), (5, 163, .pointer (some ⟨g, pc * 3, none⟩)), (6, 164, .agg #[.int .i64 y.nr, .int .i64 y.kd, .slice y.A y.n y.c]), (7, 165, .slice (some ⟨g, 0, none⟩) n cp), (8, 166, .int .i64 (c : Int)), (9, 167, .pointer (some ⟨g, c * 3, none⟩)), (10, 168, .agg #[.int .i64 x.nr, .int .i64 x.kd, .slice x.A x.n x.c]), (11, 169, rv), (12, 170, .bool true), (13, 171, .bool false)] ∧ (Kp g w0 w') ∧ (RowB w' g dd) ∧ (b 11 = true → ∃ r_ : Int, rv = .int .i64 r_ ∧ decide (r_ < 0) = true)) HT_.out HW_.out (by kernel_rfl) (by kernel_rfl) ?_ ?_ ?_
          · exact ⟨.bool false, by simp only [putSel, Bool.false_eq_true, if_false], B0.out, R0.out, fun h_ => absurd h_ (by decide)⟩
          · skip
            clear B0 R0
            refine steps_cons ?_ ?_
            · rintro b a w' ⟨rv, ha, Q_B0, Q_R0, Q_HRV⟩ hb_ hon hoff
              refine ⟨_, rfl, fun K hK => ?_⟩
              have e4 : a.tmps[4]? = some (.func (.func 85) #[] #[]) := by rw [ha]; exact (putSel_off rfl).trans rfl
              replace ha := Aside0.mk ha
              have B0 := Aside0.mk Q_B0
              have R0 := Aside0.mk Q_R0
              refine value_ (w1 := w') (v := .func (.func 85) #[] #[]) (by rfl) rfl ?_ ?_
              · go_simp
                (try simp only [i64_w])
                try rfl
              refine hK.out _ _ ⟨rv, (by rw [ha.out]; exact putSel_upk 0 hb_ rfl rfl rfl), Q_B0, Q_R0, fun h0_ => absurd ((hoff 11 (by kernel_rfl)).symm.trans h0_) (by decide)⟩
            refine steps_cons ?_ ?_
            · rintro b a w' ⟨rv, ha, Q_B0, Q_R0, Q_HRV⟩ hb_ hon hoff
              refine ⟨_, rfl, fun K hK => ?_⟩
              have e0 : a.tmps[0]? = some (.slice (some ⟨g, 0, none⟩) n cp) := by rw [ha]; exact (putSel_off rfl).trans rfl
              replace ha := Aside0.mk ha
              have B0 := Aside0.mk Q_B0
              have R0 := Aside0.mk Q_R0
              refine value_ (w1 := w') (v := .slice (some ⟨g, 0, none⟩) n cp) (by rfl) rfl ?_ ?_
              · go_simp
                (try simp only [i64_w])
                try rfl
              refine hK.out _ _ ⟨rv, (by rw [ha.out]; exact putSel_upk 1 hb_ rfl rfl rfl), Q_B0, Q_R0, fun h0_ => absurd ((hoff 11 (by kernel_rfl)).symm.trans h0_) (by decide)⟩
            refine steps_cons ?_ ?_
            · rintro b a w' ⟨rv, ha, Q_B0, Q_R0, Q_HRV⟩ hb_ hon hoff
              refine ⟨_, rfl, fun K hK => ?_⟩
              have e22 : a.tmps[22]? = some (.int .i64 (p : Int)) := by rw [ha]; exact (putSel_off rfl).trans rfl
              replace ha := Aside0.mk ha
              have B0 := Aside0.mk Q_B0
              have R0 := Aside0.mk Q_R0
              refine value_ (w1 := w') (v := .int .i64 (p : Int)) (by rfl) rfl ?_ ?_
              · go_simp
                (try simp only [i64_w])
                try rfl
              refine hK.out _ _ ⟨rv, (by rw [ha.out]; exact putSel_upk 2 hb_ rfl rfl rfl), Q_B0, Q_R0, fun h0_ => absurd ((hoff 11 (by kernel_rfl)).symm.trans h0_) (by decide)⟩
            refine steps_cons ?_ ?_
            · rintro b a w' ⟨rv, ha, Q_B0, Q_R0, Q_HRV⟩ hb_ hon hoff
              refine ⟨_, rfl, fun K hK => ?_⟩
              have e23 : a.tmps[23]? = some (.int .i64 (c : Int)) := by rw [ha]; exact (putSel_off rfl).trans rfl
              replace ha := Aside0.mk ha
              have B0 := Aside0.mk Q_B0
              have R0 := Aside0.mk Q_R0
              refine value_ (w1 := w') (v := .int .i64 (c : Int)) (by rfl) rfl ?_ ?_
              · go_simp
                (try simp only [i64_w])
                try rfl
              refine hK.out _ _ ⟨rv, (by rw [ha.out]; exact putSel_upk 3 hb_ rfl rfl rfl), Q_B0, Q_R0, fun h0_ => absurd ((hoff 11 (by kernel_rfl)).symm.trans h0_) (by decide)⟩
            refine steps_cons ?_ ?_
            · rintro b a w' ⟨rv, ha, Q_B0, Q_R0, Q_HRV⟩ hb_ hon hoff
              refine ⟨_, rfl, fun K hK => ?_⟩
              have e160 : a.tmps[160]? = some (.int .i64 (p : Int)) := by rw [ha]; exact putSel_on (e := (2, 160, .int .i64 (p : Int))) 2 rfl rfl (hon 2 (by kernel_rfl)) rfl
              have e161 : a.tmps[161]? = some (.int .i64 (c : Int)) := by rw [ha]; exact putSel_on (e := (3, 161, .int .i64 (c : Int))) 3 rfl rfl (hon 3 (by kernel_rfl)) rfl
              replace ha := Aside0.mk ha
              have B0 := Aside0.mk Q_B0
              have R0 := Aside0.mk Q_R0
              have hw0_ := HWP.out
              refine value_ (w1 := w') (v := .int .i64 (pc : Int)) (by rfl) rfl ?_ ?_
              · go_simp
                (try simp only [i64_w])
                try rfl
              refine hK.out _ _ ⟨rv, (by rw [ha.out]; exact putSel_upk 4 hb_ rfl rfl rfl), Q_B0, Q_R0, fun h0_ => absurd ((hoff 11 (by kernel_rfl)).symm.trans h0_) (by decide)⟩
            refine steps_cons ?_ ?_
            · rintro b a w' ⟨rv, ha, Q_B0, Q_R0, Q_HRV⟩ hb_ hon hoff
              refine ⟨_, rfl, fun K hK => ?_⟩
              have e159 : a.tmps[159]? = some (.slice (some ⟨g, 0, none⟩) n cp) := by rw [ha]; exact putSel_on (e := (1, 159, .slice (some ⟨g, 0, none⟩) n cp)) 1 rfl rfl (hon 1 (by kernel_rfl)) rfl
              have e162 : a.tmps[162]? = some (.int .i64 (pc : Int)) := by rw [ha]; exact putSel_on (e := (4, 162, .int .i64 (pc : Int))) 4 rfl rfl (hon 4 (by kernel_rfl)) rfl
              replace ha := Aside0.mk ha
              have B0 := Aside0.mk Q_B0
              have R0 := Aside0.mk Q_R0
              have p1_ := LO_pc.out
              have q1_ := HI_pc.out
              refine value_ (w1 := w') (v := .pointer (some ⟨g, pc * 3, none⟩)) (by rfl) rfl ?_ ?_
              · go_simp
                (try simp only [i64_w])
                try rfl
              refine hK.out _ _ ⟨rv, (by rw [ha.out]; exact putSel_upk 5 hb_ rfl rfl rfl), Q_B0, Q_R0, fun h0_ => absurd ((hoff 11 (by kernel_rfl)).symm.trans h0_) (by decide)⟩
            refine steps_cons ?_ ?_
            · rintro b a w' ⟨rv, ha, Q_B0, Q_R0, Q_HRV⟩ hb_ hon hoff
              refine ⟨_, rfl, fun K hK => ?_⟩
              have e163 : a.tmps[163]? = some (.pointer (some ⟨g, pc * 3, none⟩)) := by rw [ha]; exact putSel_on (e := (5, 163, .pointer (some ⟨g, pc * 3, none⟩))) 5 rfl rfl (hon 5 (by kernel_rfl)) rfl
              replace ha := Aside0.mk ha
              have B0 := Aside0.mk Q_B0
              have R0 := Aside0.mk Q_R0
              have cs_ := R0.out.cells HX_pc.out
              refine value_ (w1 := w') (v := .agg #[.int .i64 y.nr, .int .i64 y.kd, .slice y.A y.n y.c]) (by rfl) rfl ?_ ?_
              · go_simp
                (try simp only [i64_w])
                try rfl
              refine hK.out _ _ ⟨rv, (by rw [ha.out]; exact putSel_upk 6 hb_ rfl rfl rfl), Q_B0, Q_R0, fun h0_ => absurd ((hoff 11 (by kernel_rfl)).symm.trans h0_) (by decide)⟩
            refine steps_cons ?_ ?_
            · rintro b a w' ⟨rv, ha, Q_B0, Q_R0, Q_HRV⟩ hb_ hon hoff
              refine ⟨_, rfl, fun K hK => ?_⟩
              have e0 : a.tmps[0]? = some (.slice (some ⟨g, 0, none⟩) n cp) := by rw [ha]; exact (putSel_off rfl).trans rfl
              replace ha := Aside0.mk ha
              have B0 := Aside0.mk Q_B0
              have R0 := Aside0.mk Q_R0
              refine value_ (w1 := w') (v := .slice (some ⟨g, 0, none⟩) n cp) (by rfl) rfl ?_ ?_
              · go_simp
                (try simp only [i64_w])
                try rfl
              refine hK.out _ _ ⟨rv, (by rw [ha.out]; exact putSel_upk 7 hb_ rfl rfl rfl), Q_B0, Q_R0, fun h0_ => absurd ((hoff 11 (by kernel_rfl)).symm.trans h0_) (by decide)⟩
            refine steps_cons ?_ ?_
            · rintro b a w' ⟨rv, ha, Q_B0, Q_R0, Q_HRV⟩ hb_ hon hoff
              refine ⟨_, rfl, fun K hK => ?_⟩
              have e23 : a.tmps[23]? = some (.int .i64 (c : Int)) := by rw [ha]; exact (putSel_off rfl).trans rfl
              replace ha := Aside0.mk ha
              have B0 := Aside0.mk Q_B0
              have R0 := Aside0.mk Q_R0
              refine value_ (w1 := w') (v := .int .i64 (c : Int)) (by rfl) rfl ?_ ?_
              · go_simp
                (try simp only [i64_w])
                try rfl
              refine hK.out _ _ ⟨rv, (by rw [ha.out]; exact putSel_upk 8 hb_ rfl rfl rfl), Q_B0, Q_R0, fun h0_ => absurd ((hoff 11 (by kernel_rfl)).symm.trans h0_) (by decide)⟩
            refine steps_cons ?_ ?_
            · rintro b a w' ⟨rv, ha, Q_B0, Q_R0, Q_HRV⟩ hb_ hon hoff
              refine ⟨_, rfl, fun K hK => ?_⟩
              have e165 : a.tmps[165]? = some (.slice (some ⟨g, 0, none⟩) n cp) := by rw [ha]; exact putSel_on (e := (7, 165, .slice (some ⟨g, 0, none⟩) n cp)) 7 rfl rfl (hon 7 (by kernel_rfl)) rfl
              have e166 : a.tmps[166]? = some (.int .i64 (c : Int)) := by rw [ha]; exact putSel_on (e := (8, 166, .int .i64 (c : Int))) 8 rfl rfl (hon 8 (by kernel_rfl)) rfl
              replace ha := Aside0.mk ha
              have B0 := Aside0.mk Q_B0
              have R0 := Aside0.mk Q_R0
              have p1_ := LO_c.out
              have q1_ := HI_c.out
              refine value_ (w1 := w') (v := .pointer (some ⟨g, c * 3, none⟩)) (by rfl) rfl ?_ ?_
              · go_simp
                (try simp only [i64_w])
                try rfl
              refine hK.out _ _ ⟨rv, (by rw [ha.out]; exact putSel_upk 9 hb_ rfl rfl rfl), Q_B0, Q_R0, fun h0_ => absurd ((hoff 11 (by kernel_rfl)).symm.trans h0_) (by decide)⟩
            refine steps_cons ?_ ?_
            · rintro b a w' ⟨rv, ha, Q_B0, Q_R0, Q_HRV⟩ hb_ hon hoff
              refine ⟨_, rfl, fun K hK => ?_⟩
              have e167 : a.tmps[167]? = some (.pointer (some ⟨g, c * 3, none⟩)) := by rw [ha]; exact putSel_on (e := (9, 167, .pointer (some ⟨g, c * 3, none⟩))) 9 rfl rfl (hon 9 (by kernel_rfl)) rfl
              replace ha := Aside0.mk ha
              have B0 := Aside0.mk Q_B0
              have R0 := Aside0.mk Q_R0
              have cs_ := R0.out.cells HX_c.out
              refine value_ (w1 := w') (v := .agg #[.int .i64 x.nr, .int .i64 x.kd, .slice x.A x.n x.c]) (by rfl) rfl ?_ ?_
              · go_simp
                (try simp only [i64_w])
                try rfl
              refine hK.out _ _ ⟨rv, (by rw [ha.out]; exact putSel_upk 10 hb_ rfl rfl rfl), Q_B0, Q_R0, fun h0_ => absurd ((hoff 11 (by kernel_rfl)).symm.trans h0_) (by decide)⟩
            refine steps_cons ?_ ?_
            · rintro b a w' ⟨rv, ha, Q_B0, Q_R0, Q_HRV⟩ hb_ hon hoff
              refine ⟨_, rfl, fun K hK => ?_⟩
              have e158 : a.tmps[158]? = some (.func (.func 85) #[] #[]) := by rw [ha]; exact putSel_on (e := (0, 158, .func (.func 85) #[] #[])) 0 rfl rfl (hon 0 (by kernel_rfl)) rfl
              have e164 : a.tmps[164]? = some (.agg #[.int .i64 y.nr, .int .i64 y.kd, .slice y.A y.n y.c]) := by rw [ha]; exact putSel_on (e := (6, 164, .agg #[.int .i64 y.nr, .int .i64 y.kd, .slice y.A y.n y.c])) 6 rfl rfl (hon 6 (by kernel_rfl)) rfl
              have e168 : a.tmps[168]? = some (.agg #[.int .i64 x.nr, .int .i64 x.kd, .slice x.A x.n x.c]) := by rw [ha]; exact putSel_on (e := (10, 168, .agg #[.int .i64 x.nr, .int .i64 x.kd, .slice x.A x.n x.c])) 10 rfl rfl (hon 10 (by kernel_rfl)) rfl
              replace ha := Aside0.mk ha
              have B0 := Aside0.mk Q_B0
              have R0 := Aside0.mk Q_R0
              refine goesv_ (t := 158) Try.func85 (by kernel_rfl) rfl #[.agg #[.int .i64 y.nr, .int .i64 y.kd, .slice y.A y.n y.c], .agg #[.int .i64 x.nr, .int .i64 x.kd, .slice x.A x.n x.c]] (by rfl) rfl rfl e158 (by first | (simp only [List.map_toArray, List.map_cons, List.map_nil, Act.eval, Array.getD_eq_getD_getElem?, Option.getD_some, e158, e164, e168]; done) | (simp only [List.map_toArray, List.map_cons, List.map_nil, Act.eval, Array.getD_eq_getD_getElem?, Option.getD_some, e158, e164, e168]; rfl)) ?_
              with_reducible refine (HCMP.out w' y x).mono ?_
              rintro e w2 ⟨r_, rfl, hr_, hb⟩
              refine ⟨_, rfl, ?_⟩
              refine hK.out _ _ ⟨.int .i64 r_, (by rw [ha.out]; exact putSel_upk 11 hb_ rfl rfl rfl), below_row B0.out HG.out R0.out hb, RowB.below R0.out hb, fun _ => ⟨r_, rfl, hr_.trans HTV.out⟩⟩
            refine steps_cons ?_ ?_
            · rintro b a w' ⟨rv, ha, Q_B0, Q_R0, Q_HRV⟩ hb_ hon hoff
              refine ⟨_, rfl, fun K hK => ?_⟩
              have e169 : a.tmps[169]? = some (rv) := by rw [ha]; exact putSel_on (e := (11, 169, rv)) 11 rfl rfl (hon 11 (by kernel_rfl)) rfl
              replace ha := Aside0.mk ha
              have B0 := Aside0.mk Q_B0
              have R0 := Aside0.mk Q_R0
              have HRV := Aside0.mk (Q_HRV (hon 11 (by kernel_rfl)))
              obtain ⟨r_, hr1_, hr2_⟩ := HRV.out
              rw [hr1_] at e169
              refine value_ (w1 := w') (v := .bool true) (by rfl) rfl ?_ ?_
              · go_simp
                (try simp only [i64_w])
                try rfl
              refine hK.out _ _ ⟨rv, (by rw [ha.out]; exact putSel_upk 12 hb_ rfl rfl rfl), Q_B0, Q_R0, Q_HRV⟩
            refine steps_cons ?_ ?_
            · rintro b a w' ⟨rv, ha, Q_B0, Q_R0, Q_HRV⟩ hb_ hon hoff
              refine ⟨_, rfl, fun K hK => ?_⟩
              have e170 : a.tmps[170]? = some (.bool true) := by rw [ha]; exact putSel_on (e := (12, 170, .bool true)) 12 rfl rfl (hon 12 (by kernel_rfl)) rfl
              replace ha := Aside0.mk ha
              have B0 := Aside0.mk Q_B0
              have R0 := Aside0.mk Q_R0
              have HRV := Aside0.mk (Q_HRV (hon 11 (by kernel_rfl)))
              refine value_ (w1 := w') (v := .bool false) (by rfl) rfl ?_ ?_
              · go_simp
                (try simp only [i64_w])
                try rfl
              refine hK.out _ _ ⟨rv, (by rw [ha.out]; exact putSel_upk 13 hb_ rfl rfl rfl), Q_B0, Q_R0, Q_HRV⟩
            exact steps_nil
          rintro b a wl hall ⟨rv, ha, Q_B0, Q_R0, Q_HRV⟩
          clear B0 R0
          have hb0_ := hall 0 (by kernel_rfl)
          have hb1_ := hall 1 (by kernel_rfl)
          have hb2_ := hall 2 (by kernel_rfl)
          have hb3_ := hall 3 (by kernel_rfl)
          have hb4_ := hall 4 (by kernel_rfl)
          have hb5_ := hall 5 (by kernel_rfl)
          have hb6_ := hall 6 (by kernel_rfl)
          have hb7_ := hall 7 (by kernel_rfl)
          have hb8_ := hall 8 (by kernel_rfl)
          have hb9_ := hall 9 (by kernel_rfl)
          have hb10_ := hall 10 (by kernel_rfl)
          have hb11_ := hall 11 (by kernel_rfl)
          have hb12_ := hall 12 (by kernel_rfl)
          have hb13_ := hall 13 (by kernel_rfl)
          subst ha
          simp only [putSel, hb0_, hb1_, hb2_, hb3_, hb4_, hb5_, hb6_, hb7_, hb8_, hb9_, hb10_, hb11_, hb12_, hb13_, if_true, Act.put, List.setIfInBounds_toArray, List.set_cons_zero, List.set_cons_succ]
          have B0 := Aside0.mk Q_B0
          clear Q_B0
          have R0 := Aside0.mk Q_R0
          clear Q_R0
          have HRV := Aside0.mk (Q_HRV hb11_)
          clear Q_HRV
          clear hall hb0_ hb1_ hb2_ hb3_ hb4_ hb5_ hb6_ hb7_ hb8_ hb9_ hb10_ hb11_ hb12_ hb13_
          clear HRV
          go_wp2_with fail
          go_roundg (c - i)
          case measure => have := HQ.out; have := HBD.out; omega
          case rel => exact ⟨i, c, rfl, rfl, HB2, R0, B0, ⟨by have := HBD.out; omega⟩⟩
        | false =>
          have HTV := Aside0.mk htv
          have HB2 := Aside0.mk (HBS.out.up HMO.out HBD.out.1.1 HBD.out.1.2.1 (by rw [hf, htv]; rfl))
          clear htv hf
          refine start_ (n := 14) (S := fun w' => True) (ds := []) #[false, false, false, false, false, false, false, false, false, false, false, false, false, false] (by kernel_rfl) rfl rfl trivial (fun hHeld => ?_)
          refine with_tabW symg.tab35 symg.bits35 (fun HT_ HW_ => ?_)
          generalize wr.drew = wq at B0 R0 hHeld ⊢
          refine inv_at [0, 1, 2, 3, 4, 5, 6, 7, 8, 9, 10, 11, 12, 13] (fun a0_ b a w' => ∃ (rv : Value), a = putSel a0_ b [(0, 158, .func (.func 85) #[] #[]), (1, 159, .slice (some ⟨g, 0, none⟩) n cp), (2, 160, .int .i64 (p : Int)), (3, 161, .int .i64 (c : Int)), (4, 162, .int .i64 (pc : Int)), (5, 163, .pointer (some ⟨g, pc * 3, none⟩)), (6, 164, .agg #[.int .i64 y.nr, .int .i64 y.kd, .slice y.A y.n y.c]), (7, 165, .slice (some ⟨g, 0, none⟩) n cp), (8, 166, .int .i64 (c : Int)), (9, 167, .pointer (some ⟨g, c * 3, none⟩)), (10, 168, .agg #[.int .i64 x.nr, .int .i64 x.kd, .slice x.A x.n x.c]), (11, 169, rv), (12, 170, .bool false), (13, 171, .bool true)] ∧ (Kp g w0 w') ∧ (RowB w' g dd) ∧ (b 11 = true → ∃ r_ : Int, rv = .int .i64 r_ ∧ decide (r_ < 0) = false)) HT_.out HW_.out (by kernel_rfl) (by kernel_rfl) ?_ ?_ ?_
          · exact ⟨.bool false, by simp only [putSel, Bool.false_eq_true, if_false], B0.out, R0.out, fun h_ => absurd h_ (by decide)⟩
          · skip
            clear B0 R0
            refine steps_cons ?_ ?_
            · rintro b a w' ⟨rv, ha, Q_B0, Q_R0, Q_HRV⟩ hb_ hon hoff
              refine ⟨_, rfl, fun K hK => ?_⟩
              have e4 : a.tmps[4]? = some (.func (.func 85) #[] #[]) := by rw [ha]; exact (putSel_off rfl).trans rfl
              replace ha := Aside0.mk ha
              have B0 := Aside0.mk Q_B0
              have R0 := Aside0.mk Q_R0
              refine value_ (w1 := w') (v := .func (.func 85) #[] #[]) (by rfl) rfl ?_ ?_
              · go_simp
                (try simp only [i64_w])
                try rfl
              refine hK.out _ _ ⟨rv, (by rw [ha.out]; exact putSel_upk 0 hb_ rfl rfl rfl), Q_B0, Q_R0, fun h0_ => absurd ((hoff 11 (by kernel_rfl)).symm.trans h0_) (by decide)⟩
            refine steps_cons ?_ ?_
            · rintro b a w' ⟨rv, ha, Q_B0, Q_R0, Q_HRV⟩ hb_ hon hoff
              refine ⟨_, rfl, fun K hK => ?_⟩
              have e0 : a.tmps[0]? = some (.slice (some ⟨g, 0, none⟩) n cp) := by rw [ha]; exact (putSel_off rfl).trans rfl
              replace ha := Aside0.mk ha
              have B0 := Aside0.mk Q_B0
              have R0 := Aside0.mk Q_R0
              refine value_ (w1 := w') (v := .slice (some ⟨g, 0, none⟩) n cp) (by rfl) rfl ?_ ?_
              · go_simp
                (try simp only [i64_w])
                try rfl
              refine hK.out _ _ ⟨rv, (by rw [ha.out]; exact putSel_upk 1 hb_ rfl rfl rfl), Q_B0, Q_R0, fun h0_ => absurd ((hoff 11 (by kernel_rfl)).symm.trans h0_) (by decide)⟩
            refine steps_cons ?_ ?_
            · rintro b a w' ⟨rv, ha, Q_B0, Q_R0, Q_HRV⟩ hb_ hon hoff
              refine ⟨_, rfl, fun K hK => ?_⟩
              have e22 : a.tmps[22]? = some (.int .i64 (p : Int)) := by rw [ha]; exact (putSel_off rfl).trans rfl
              replace ha := Aside0.mk ha
              have B0 := Aside0.mk Q_B0
              have R0 := Aside0.mk Q_R0
              refine value_ (w1 := w') (v := .int .i64 (p : Int)) (by rfl) rfl ?_ ?_
              · go_simp
                (try simp only [i64_w])
                try rfl
              refine hK.out _ _ ⟨rv, (by rw [ha.out]; exact putSel_upk 2 hb_ rfl rfl rfl), Q_B0, Q_R0, fun h0_ => absurd ((hoff 11 (by kernel_rfl)).symm.trans h0_) (by decide)⟩
            refine steps_cons ?_ ?_
            · rintro b a w' ⟨rv, ha, Q_B0, Q_R0, Q_HRV⟩ hb_ hon hoff
              refine ⟨_, rfl, fun K hK => ?_⟩
              have e23 : a.tmps[23]? = some (.int .i64 (c : Int)) := by rw [ha]; exact (putSel_off rfl).trans rfl
              replace ha := Aside0.mk ha
              have B0 := Aside0.mk Q_B0
              have R0 := Aside0.mk Q_R0
              refine value_ (w1 := w') (v := .int .i64 (c : Int)) (by rfl) rfl ?_ ?_
              · go_simp
                (try simp only [i64_w])
                try rfl
              refine hK.out _ _ ⟨rv, (by rw [ha.out]; exact putSel_upk 3 hb_ rfl rfl rfl), Q_B0, Q_R0, fun h0_ => absurd ((hoff 11 (by kernel_rfl)).symm.trans h0_) (by decide)⟩
            refine steps_cons ?_ ?_
            · rintro b a w' ⟨rv, ha, Q_B0, Q_R0, Q_HRV⟩ hb_ hon hoff
              refine ⟨_, rfl, fun K hK => ?_⟩
              have e160 : a.tmps[160]? = some (.int .i64 (p : Int)) := by rw [ha]; exact putSel_on (e := (2, 160, .int .i64 (p : Int))) 2 rfl rfl (hon 2 (by kernel_rfl)) rfl
              have e161 : a.tmps[161]? = some (.int .i64 (c : Int)) := by rw [ha]; exact putSel_on (e := (3, 161, .int .i64 (c : Int))) 3 rfl rfl (hon 3 (by kernel_rfl)) rfl
              replace ha := Aside0.mk ha
              have B0 := Aside0.mk Q_B0
              have R0 := Aside0.mk Q_R0
              have hw0_ := HWP.out
              refine value_ (w1 := w') (v := .int .i64 (pc : Int)) (by rfl) rfl ?_ ?_
              · go_simp
                (try simp only [i64_w])
                try rfl
              refine hK.out _ _ ⟨rv, (by rw [ha.out]; exact putSel_upk 4 hb_ rfl rfl rfl), Q_B0, Q_R0, fun h0_ => absurd ((hoff 11 (by kernel_rfl)).symm.trans h0_) (by decide)⟩
            refine steps_cons ?_ ?_
            · rintro b a w' ⟨rv, ha, Q_B0, Q_R0, Q_HRV⟩ hb_ hon hoff
              refine ⟨_, rfl, fun K hK => ?_⟩
              have e159 : a.tmps[159]? = some (.slice (some ⟨g, 0, none⟩) n cp) := by rw [ha]; exact putSel_on (e := (1, 159, .slice (some ⟨g, 0, none⟩) n cp)) 1 rfl rfl (hon 1 (by kernel_rfl)) rfl
              have e162 : a.tmps[162]? = some (.int .i64 (pc : Int)) := by rw [ha]; exact putSel_on (e := (4, 162, .int .i64 (pc : Int))) 4 rfl rfl (hon 4 (by kernel_rfl)) rfl
              replace ha := Aside0.mk ha
              have B0 := Aside0.mk Q_B0
              have R0 := Aside0.mk Q_R0
              have p1_ := LO_pc.out
              have q1_ := HI_pc.out
              refine value_ (w1 := w') (v := .pointer (some ⟨g, pc * 3, none⟩)) (by rfl) rfl ?_ ?_
              · go_simp
                (try simp only [i64_w])
                try rfl
              refine hK.out _ _ ⟨rv, (by rw [ha.out]; exact putSel_upk 5 hb_ rfl rfl rfl), Q_B0, Q_R0, fun h0_ => absurd ((hoff 11 (by kernel_rfl)).symm.trans h0_) (by decide)⟩
            refine steps_cons ?_ ?_
            · rintro b a w' ⟨rv, ha, Q_B0, Q_R0, Q_HRV⟩ hb_ hon hoff
              refine ⟨_, rfl, fun K hK => ?_⟩
              have e163 : a.tmps[163]? = some (.pointer (some ⟨g, pc * 3, none⟩)) := by rw [ha]; exact putSel_on (e := (5, 163, .pointer (some ⟨g, pc * 3, none⟩))) 5 rfl rfl (hon 5 (by kernel_rfl)) rfl
              replace ha := Aside0.mk ha
              have B0 := Aside0.mk Q_B0
              have R0 := Aside0.mk Q_R0
              have cs_ := R0.out.cells HX_pc.out
              refine value_ (w1 := w') (v := .agg #[.int .i64 y.nr, .int .i64 y.kd, .slice y.A y.n y.c]) (by rfl) rfl ?_ ?_
              · go_simp
                (try simp only [i64_w])
                try rfl
              refine hK.out _ _ ⟨rv, (by rw [ha.out]; exact putSel_upk 6 hb_ rfl rfl rfl), Q_B0, Q_R0, fun h0_ => absurd ((hoff 11 (by kernel_rfl)).symm.trans h0_) (by decide)⟩
            refine steps_cons ?_ ?_
            · rintro b a w' ⟨rv, ha, Q_B0, Q_R0, Q_HRV⟩ hb_ hon hoff
              refine ⟨_, rfl, fun K hK => ?_⟩
              have e0 : a.tmps[0]? = some (.slice (some ⟨g, 0, none⟩) n cp) := by rw [ha]; exact (putSel_off rfl).trans rfl
              replace ha := Aside0.mk ha
              have B0 := Aside0.mk Q_B0
              have R0 := Aside0.mk Q_R0
              refine value_ (w1 := w') (v := .slice (some ⟨g, 0, none⟩) n cp) (by rfl) rfl ?_ ?_
              · go_simp
                (try simp only [i64_w])
                try rfl
              refine hK.out _ _ ⟨rv, (by rw [ha.out]; exact putSel_upk 7 hb_ rfl rfl rfl), Q_B0, Q_R0, fun h0_ => absurd ((hoff 11 (by kernel_rfl)).symm.trans h0_) (by decide)⟩
            refine steps_cons ?_ ?_
            · rintro b a w' ⟨rv, ha, Q_B0, Q_R0, Q_HRV⟩ hb_ hon hoff
              refine ⟨_, rfl, fun K hK => ?_⟩
              have e23 : a.tmps[23]? = some (.int .i64 (c : Int)) := by rw [ha]; exact (putSel_off rfl).trans rfl
              replace ha := Aside0.mk ha
              have B0 := Aside0.mk Q_B0
              have R0 := Aside0.mk Q_R0
              refine value_ (w1 := w') (v := .int .i64 (c : Int)) (by rfl) rfl ?_ ?_
              · go_simp
                (try simp only [i64_w])
                try rfl
              refine hK.out _ _ ⟨rv, (by rw [ha.out]; exact putSel_upk 8 hb_ rfl rfl rfl), Q_B0, Q_R0, fun h0_ => absurd ((hoff 11 (by kernel_rfl)).symm.trans h0_) (by decide)⟩
            refine steps_cons ?_ ?_
            · rintro b a w' ⟨rv, ha, Q_B0, Q_R0, Q_HRV⟩ hb_ hon hoff
              refine ⟨_, rfl, fun K hK => ?_⟩
              have e165 : a.tmps[165]? = some (.slice (some ⟨g, 0, none⟩) n cp) := by rw [ha]; exact putSel_on (e := (7, 165, .slice (some ⟨g, 0, none⟩) n cp)) 7 rfl rfl (hon 7 (by kernel_rfl)) rfl
              have e166 : a.tmps[166]? = some (.int .i64 (c : Int)) := by rw [ha]; exact putSel_on (e := (8, 166, .int .i64 (c : Int))) 8 rfl rfl (hon 8 (by kernel_rfl)) rfl
              replace ha := Aside0.mk ha
              have B0 := Aside0.mk Q_B0
              have R0 := Aside0.mk Q_R0
              have p1_ := LO_c.out
              have q1_ := HI_c.out
              refine value_ (w1 := w') (v := .pointer (some ⟨g, c * 3, none⟩)) (by rfl) rfl ?_ ?_
              · go_simp
                (try simp only [i64_w])
                try rfl
              refine hK.out _ _ ⟨rv, (by rw [ha.out]; exact putSel_upk 9 hb_ rfl rfl rfl), Q_B0, Q_R0, fun h0_ => absurd ((hoff 11 (by kernel_rfl)).symm.trans h0_) (by decide)⟩
            refine steps_cons ?_ ?_
            · rintro b a w' ⟨rv, ha, Q_B0, Q_R0, Q_HRV⟩ hb_ hon hoff
              refine ⟨_, rfl, fun K hK => ?_⟩
              have e167 : a.tmps[167]? = some (.pointer (some ⟨g, c * 3, none⟩)) := by rw [ha]; exact putSel_on (e := (9, 167, .pointer (some ⟨g, c * 3, none⟩))) 9 rfl rfl (hon 9 (by kernel_rfl)) rfl
              replace ha := Aside0.mk ha
              have B0 := Aside0.mk Q_B0
              have R0 := Aside0.mk Q_R0
              have cs_ := R0.out.cells HX_c.out
              refine value_ (w1 := w') (v := .agg #[.int .i64 x.nr, .int .i64 x.kd, .slice x.A x.n x.c]) (by rfl) rfl ?_ ?_
              · go_simp
                (try simp only [i64_w])
                try rfl
              refine hK.out _ _ ⟨rv, (by rw [ha.out]; exact putSel_upk 10 hb_ rfl rfl rfl), Q_B0, Q_R0, fun h0_ => absurd ((hoff 11 (by kernel_rfl)).symm.trans h0_) (by decide)⟩
            refine steps_cons ?_ ?_
            · rintro b a w' ⟨rv, ha, Q_B0, Q_R0, Q_HRV⟩ hb_ hon hoff
              refine ⟨_, rfl, fun K hK => ?_⟩
              have e158 : a.tmps[158]? = some (.func (.func 85) #[] #[]) := by rw [ha]; exact putSel_on (e := (0, 158, .func (.func 85) #[] #[])) 0 rfl rfl (hon 0 (by kernel_rfl)) rfl
              have e164 : a.tmps[164]? = some (.agg #[.int .i64 y.nr, .int .i64 y.kd, .slice y.A y.n y.c]) := by rw [ha]; exact putSel_on (e := (6, 164, .agg #[.int .i64 y.nr, .int .i64 y.kd, .slice y.A y.n y.c])) 6 rfl rfl (hon 6 (by kernel_rfl)) rfl
              have e168 : a.tmps[168]? = some (.agg #[.int .i64 x.nr, .int .i64 x.kd, .slice x.A x.n x.c]) := by rw [ha]; exact putSel_on (e := (10, 168, .agg #[.int .i64 x.nr, .int .i64 x.kd, .slice x.A x.n x.c])) 10 rfl rfl (hon 10 (by kernel_rfl)) rfl
              replace ha := Aside0.mk ha
              have B0 := Aside0.mk Q_B0
              have R0 := Aside0.mk Q_R0
              refine goesv_ (t := 158) Try.func85 (by kernel_rfl) rfl #[.agg #[.int .i64 y.nr, .int .i64 y.kd, .slice y.A y.n y.c], .agg #[.int .i64 x.nr, .int .i64 x.kd, .slice x.A x.n x.c]] (by rfl) rfl rfl e158 (by first | (simp only [List.map_toArray, List.map_cons, List.map_nil, Act.eval, Array.getD_eq_getD_getElem?, Option.getD_some, e158, e164, e168]; done) | (simp only [List.map_toArray, List.map_cons, List.map_nil, Act.eval, Array.getD_eq_getD_getElem?, Option.getD_some, e158, e164, e168]; rfl)) ?_
              with_reducible refine (HCMP.out w' y x).mono ?_
              rintro e w2 ⟨r_, rfl, hr_, hb⟩
              refine ⟨_, rfl, ?_⟩
              refine hK.out _ _ ⟨.int .i64 r_, (by rw [ha.out]; exact putSel_upk 11 hb_ rfl rfl rfl), below_row B0.out HG.out R0.out hb, RowB.below R0.out hb, fun _ => ⟨r_, rfl, hr_.trans HTV.out⟩⟩
            refine steps_cons ?_ ?_
            · rintro b a w' ⟨rv, ha, Q_B0, Q_R0, Q_HRV⟩ hb_ hon hoff
              refine ⟨_, rfl, fun K hK => ?_⟩
              have e169 : a.tmps[169]? = some (rv) := by rw [ha]; exact putSel_on (e := (11, 169, rv)) 11 rfl rfl (hon 11 (by kernel_rfl)) rfl
              replace ha := Aside0.mk ha
              have B0 := Aside0.mk Q_B0
              have R0 := Aside0.mk Q_R0
              have HRV := Aside0.mk (Q_HRV (hon 11 (by kernel_rfl)))
              obtain ⟨r_, hr1_, hr2_⟩ := HRV.out
              rw [hr1_] at e169
              refine value_ (w1 := w') (v := .bool false) (by rfl) rfl ?_ ?_
              · go_simp
                (try simp only [i64_w])
                try rfl
              refine hK.out _ _ ⟨rv, (by rw [ha.out]; exact putSel_upk 12 hb_ rfl rfl rfl), Q_B0, Q_R0, Q_HRV⟩
            refine steps_cons ?_ ?_
            · rintro b a w' ⟨rv, ha, Q_B0, Q_R0, Q_HRV⟩ hb_ hon hoff
              refine ⟨_, rfl, fun K hK => ?_⟩
              have e170 : a.tmps[170]? = some (.bool false) := by rw [ha]; exact putSel_on (e := (12, 170, .bool false)) 12 rfl rfl (hon 12 (by kernel_rfl)) rfl
              replace ha := Aside0.mk ha
              have B0 := Aside0.mk Q_B0
              have R0 := Aside0.mk Q_R0
              have HRV := Aside0.mk (Q_HRV (hon 11 (by kernel_rfl)))
              refine value_ (w1 := w') (v := .bool true) (by rfl) rfl ?_ ?_
              · go_simp
                (try simp only [i64_w])
                try rfl
              refine hK.out _ _ ⟨rv, (by rw [ha.out]; exact putSel_upk 13 hb_ rfl rfl rfl), Q_B0, Q_R0, Q_HRV⟩
            exact steps_nil
          rintro b a wl hall ⟨rv, ha, Q_B0, Q_R0, Q_HRV⟩
          clear B0 R0
          have hb0_ := hall 0 (by kernel_rfl)
          have hb1_ := hall 1 (by kernel_rfl)
          have hb2_ := hall 2 (by kernel_rfl)
          have hb3_ := hall 3 (by kernel_rfl)
          have hb4_ := hall 4 (by kernel_rfl)
          have hb5_ := hall 5 (by kernel_rfl)
          have hb6_ := hall 6 (by kernel_rfl)
          have hb7_ := hall 7 (by kernel_rfl)
          have hb8_ := hall 8 (by kernel_rfl)
          have hb9_ := hall 9 (by kernel_rfl)
          have hb10_ := hall 10 (by kernel_rfl)
          have hb11_ := hall 11 (by kernel_rfl)
          have hb12_ := hall 12 (by kernel_rfl)
          have hb13_ := hall 13 (by kernel_rfl)
          subst ha
          simp only [putSel, hb0_, hb1_, hb2_, hb3_, hb4_, hb5_, hb6_, hb7_, hb8_, hb9_, hb10_, hb11_, hb12_, hb13_, if_true, Act.put, List.setIfInBounds_toArray, List.set_cons_zero, List.set_cons_succ]
          have B0 := Aside0.mk Q_B0
          clear Q_B0
          have R0 := Aside0.mk Q_R0
          clear Q_R0
          have HRV := Aside0.mk (Q_HRV hb11_)
          clear Q_HRV
          clear hall hb0_ hb1_ hb2_ hb3_ hb4_ hb5_ hb6_ hb7_ hb8_ hb9_ hb10_ hb11_ hb12_ hb13_
          clear HRV
          go_wp2_with fail
          go_roundg (j - (c + 1))
          case measure => have := HQ.out; have := HBD.out; omega
          case rel => exact ⟨c + 1, j, by first | rfl | (simp; unfold wrap64; have := HBD.out; have := HL.out; omega), rfl, HB2, R0, B0, ⟨by have := HBD.out; omega⟩⟩
      case neg =>
        have hie : i = j := by have := HBS.out; unfold Bs at this; omega
        subst hie
        obtain ⟨s, hs⟩ : ∃ s, s = i := ⟨_, rfl⟩
        subst hs
        have t1 : decide (s < s) = false := decide_eq_false (by omega)
        obtain ⟨e, he⟩ : ∃ e, e = mid + im - s := ⟨_, rfl⟩
        have hbs := HBS.out
        rw [HDD.out, show p = mid + im - 1 by have := HN.out; omega] at hbs
        obtain ⟨D1, D2, hT⟩ := sym_tail lt HO.out N w0 g HG.out cp ia im ib n mid ia im s e P A B Q HNL.out HL.out.2.2.2.2.1 HIH.out HAB.out.1 HAB.out.2 (by have := HL.out; omega) (by have := HL.out; omega) (by have := HL.out; omega) (by have := HL.out; omega) (by have := HL.out; omega) (by have := HN.out; omega) (by have := HLO.out; have := HN.out; have := HL.out; omega) hbs he
        rw [← HDD.out] at hT
        have HT := Aside0.mk hT
        have HBD : Aside0 ((ia ≤ s ∧ s ≤ im ∧ s ≤ mid ∧ im ≤ e ∧ e ≤ ib) ∧ e = mid + im - s) := ⟨hT.2.2.2.2.2.2, he⟩
        have HW2 : IntKind.i64.wrap ((nn : Int) - (s : Int)) = (e : Int) := by rw [i64_w]; unfold wrap64; have := HL.out; have := HN.out; have := HBD.out; omega
        clear hT hbs he hij HMO HBS
        go_upto_region 39 with fail
        clear t1 HW2
        by_cases hu1 : s < im <;> by_cases hu2 : s < mid <;> by_cases hu3 : ia < s <;> by_cases hu4 : e < ib
        · have g1 : decide (s < im) = true := decide_eq_true (by omega)
          have g2 : decide (im < e) = true := decide_eq_true (by have := HBD.out; omega)
          have g3 : decide (ia < s) = true := decide_eq_true (by have := HBD.out; omega)
          have g4 : decide (s < mid) = true := decide_eq_true (by have := HBD.out; omega)
          have g5 : decide (mid < e) = true := decide_eq_true (by have := HBD.out; omega)
          have g6 : decide (e < ib) = true := decide_eq_true (by have := HBD.out; omega)
          have HC1 := Aside0.mk (HT.out.1 hu1 hu2)
          have HC2 := Aside0.mk (HT.out.2.2.1 hu3 hu2)
          have HC3 := Aside0.mk (HT.out.2.2.2.2.1 hu1 hu4)
          clear HT hu1 hu2 hu3 hu4
          go_wp2_with (first | (go_at_call 127; refine (HC1.out _ BB.out (RR.out)).mono ?_; rintro e1_ w1 ⟨rfl, B1, R1⟩) | (go_at_call 120; with_reducible refine (HC2.out _ B1 (R1)).mono ?_; rintro e2_ w2 ⟨rfl, B2, R2⟩) | (go_at_call 120; with_reducible refine (HC3.out _ B2 (R2)).mono ?_; rintro e3_ w3 ⟨rfl, B3, R3⟩))
          go_end0
          exact ⟨rfl, B3, R3⟩
        · have g1 : decide (s < im) = true := decide_eq_true (by omega)
          have g2 : decide (im < e) = true := decide_eq_true (by have := HBD.out; omega)
          have g3 : decide (ia < s) = true := decide_eq_true (by have := HBD.out; omega)
          have g4 : decide (s < mid) = true := decide_eq_true (by have := HBD.out; omega)
          have g5 : decide (mid < e) = true := decide_eq_true (by have := HBD.out; omega)
          have g6 : decide (e < ib) = false := decide_eq_false (by have := HBD.out; omega)
          have HC1 := Aside0.mk (HT.out.1 hu1 hu2)
          have HC2 := Aside0.mk (HT.out.2.2.1 hu3 hu2)
          have HK3 := Aside0.mk (HT.out.2.2.2.2.2.1 (by omega))
          clear HT hu1 hu2 hu3 hu4
          go_wp2_with (first | (go_at_call 127; refine (HC1.out _ BB.out (RR.out)).mono ?_; rintro e1_ w1 ⟨rfl, B1, R1⟩) | (go_at_call 120; with_reducible refine (HC2.out _ B1 (R1)).mono ?_; rintro e2_ w2 ⟨rfl, B2, R2⟩))
          go_end0
          exact ⟨rfl, B2, HK3.out _ (R2)⟩
        · have g1 : decide (s < im) = true := decide_eq_true (by omega)
          have g2 : decide (im < e) = true := decide_eq_true (by have := HBD.out; omega)
          have g3 : decide (ia < s) = false := decide_eq_false (by have := HBD.out; omega)
          have g4 : decide (s < mid) = true := decide_eq_true (by have := HBD.out; omega)
          have g5 : decide (mid < e) = true := decide_eq_true (by have := HBD.out; omega)
          have g6 : decide (e < ib) = true := decide_eq_true (by have := HBD.out; omega)
          have HC1 := Aside0.mk (HT.out.1 hu1 hu2)
          have HK2 := Aside0.mk (HT.out.2.2.2.1 (by omega))
          have HC3 := Aside0.mk (HT.out.2.2.2.2.1 hu1 hu4)
          clear HT hu1 hu2 hu3 hu4
          go_wp2_with (first | (go_at_call 127; refine (HC1.out _ BB.out (RR.out)).mono ?_; rintro e1_ w1 ⟨rfl, B1, R1⟩) | (go_at_call 120; with_reducible refine (HC3.out _ B1 (HK2.out _ (R1))).mono ?_; rintro e3_ w3 ⟨rfl, B3, R3⟩))
          go_end0
          exact ⟨rfl, B3, R3⟩
        · have g1 : decide (s < im) = true := decide_eq_true (by omega)
          have g2 : decide (im < e) = true := decide_eq_true (by have := HBD.out; omega)
          have g3 : decide (ia < s) = false := decide_eq_false (by have := HBD.out; omega)
          have g4 : decide (s < mid) = true := decide_eq_true (by have := HBD.out; omega)
          have g5 : decide (mid < e) = true := decide_eq_true (by have := HBD.out; omega)
          have g6 : decide (e < ib) = false := decide_eq_false (by have := HBD.out; omega)
          have HC1 := Aside0.mk (HT.out.1 hu1 hu2)
          have HK2 := Aside0.mk (HT.out.2.2.2.1 (by omega))
          have HK3 := Aside0.mk (HT.out.2.2.2.2.2.1 (by omega))
          clear HT hu1 hu2 hu3 hu4
          go_wp2_with (first | (go_at_call 127; refine (HC1.out _ BB.out (RR.out)).mono ?_; rintro e1_ w1 ⟨rfl, B1, R1⟩))
          go_end0
          exact ⟨rfl, B1, HK3.out _ (HK2.out _ (R1))⟩
        · have g1 : decide (s < im) = true := decide_eq_true (by omega)
          have g2 : decide (im < e) = false := decide_eq_false (by have := HBD.out; omega)
          have g3 : decide (ia < s) = true := decide_eq_true (by have := HBD.out; omega)
          have g4 : decide (s < mid) = false := decide_eq_false (by have := HBD.out; omega)
          have g5 : decide (mid < e) = true := decide_eq_true (by have := HBD.out; omega)
          have g6 : decide (e < ib) = true := decide_eq_true (by have := HBD.out; omega)
          have HK1 := Aside0.mk (HT.out.2.1 (by omega))
          have HK2 := Aside0.mk (HT.out.2.2.2.1 (by omega))
          have HC3 := Aside0.mk (HT.out.2.2.2.2.1 hu1 hu4)
          clear HT hu1 hu2 hu3 hu4
          go_wp2_with (first | (go_at_call 120; with_reducible refine (HC3.out _ BB.out (HK2.out _ (HK1.out _ (RR.out)))).mono ?_; rintro e3_ w3 ⟨rfl, B3, R3⟩))
          go_end0
          exact ⟨rfl, B3, R3⟩
        · have g1 : decide (s < im) = true := decide_eq_true (by omega)
          have g2 : decide (im < e) = false := decide_eq_false (by have := HBD.out; omega)
          have g3 : decide (ia < s) = true := decide_eq_true (by have := HBD.out; omega)
          have g4 : decide (s < mid) = false := decide_eq_false (by have := HBD.out; omega)
          have g5 : decide (mid < e) = true := decide_eq_true (by have := HBD.out; omega)
          have g6 : decide (e < ib) = false := decide_eq_false (by have := HBD.out; omega)
          have HK1 := Aside0.mk (HT.out.2.1 (by omega))
          have HK2 := Aside0.mk (HT.out.2.2.2.1 (by omega))
          have HK3 := Aside0.mk (HT.out.2.2.2.2.2.1 (by omega))
          clear HT hu1 hu2 hu3 hu4
          go_wp2_with fail
          go_end0
          exact ⟨rfl, BB.out, HK3.out _ (HK2.out _ (HK1.out _ (RR.out)))⟩
        · have g1 : decide (s < im) = true := decide_eq_true (by omega)
          have g2 : decide (im < e) = false := decide_eq_false (by have := HBD.out; omega)
          have g3 : decide (ia < s) = false := decide_eq_false (by have := HBD.out; omega)
          have g4 : decide (s < mid) = false := decide_eq_false (by have := HBD.out; omega)
          have g5 : decide (mid < e) = true := decide_eq_true (by have := HBD.out; omega)
          have g6 : decide (e < ib) = true := decide_eq_true (by have := HBD.out; omega)
          have HK1 := Aside0.mk (HT.out.2.1 (by omega))
          have HK2 := Aside0.mk (HT.out.2.2.2.1 (by omega))
          have HC3 := Aside0.mk (HT.out.2.2.2.2.1 hu1 hu4)
          clear HT hu1 hu2 hu3 hu4
          go_wp2_with (first | (go_at_call 120; with_reducible refine (HC3.out _ BB.out (HK2.out _ (HK1.out _ (RR.out)))).mono ?_; rintro e3_ w3 ⟨rfl, B3, R3⟩))
          go_end0
          exact ⟨rfl, B3, R3⟩
        · have g1 : decide (s < im) = true := decide_eq_true (by omega)
          have g2 : decide (im < e) = false := decide_eq_false (by have := HBD.out; omega)
          have g3 : decide (ia < s) = false := decide_eq_false (by have := HBD.out; omega)
          have g4 : decide (s < mid) = false := decide_eq_false (by have := HBD.out; omega)
          have g5 : decide (mid < e) = true := decide_eq_true (by have := HBD.out; omega)
          have g6 : decide (e < ib) = false := decide_eq_false (by have := HBD.out; omega)
          have HK1 := Aside0.mk (HT.out.2.1 (by omega))
          have HK2 := Aside0.mk (HT.out.2.2.2.1 (by omega))
          have HK3 := Aside0.mk (HT.out.2.2.2.2.2.1 (by omega))
          clear HT hu1 hu2 hu3 hu4
          go_wp2_with fail
          go_end0
          exact ⟨rfl, BB.out, HK3.out _ (HK2.out _ (HK1.out _ (RR.out)))⟩
        · have g1 : decide (s < im) = false := decide_eq_false (by omega)
          have g2 : decide (im < e) = true := decide_eq_true (by have := HBD.out; omega)
          have g3 : decide (ia < s) = true := decide_eq_true (by have := HBD.out; omega)
          have g4 : decide (s < mid) = true := decide_eq_true (by have := HBD.out; omega)
          have g5 : decide (mid < e) = false := decide_eq_false (by have := HBD.out; omega)
          have g6 : decide (e < ib) = true := decide_eq_true (by have := HBD.out; omega)
          have HK1 := Aside0.mk (HT.out.2.1 (by omega))
          have HC2 := Aside0.mk (HT.out.2.2.1 hu3 hu2)
          have HK3 := Aside0.mk (HT.out.2.2.2.2.2.1 (by omega))
          clear HT hu1 hu2 hu3 hu4
          go_wp2_with (first | (go_at_call 120; with_reducible refine (HC2.out _ BB.out (HK1.out _ (RR.out))).mono ?_; rintro e2_ w2 ⟨rfl, B2, R2⟩))
          go_end0
          exact ⟨rfl, B2, HK3.out _ (R2)⟩
        · have g1 : decide (s < im) = false := decide_eq_false (by omega)
          have g2 : decide (im < e) = true := decide_eq_true (by have := HBD.out; omega)
          have g3 : decide (ia < s) = true := decide_eq_true (by have := HBD.out; omega)
          have g4 : decide (s < mid) = true := decide_eq_true (by have := HBD.out; omega)
          have g5 : decide (mid < e) = false := decide_eq_false (by have := HBD.out; omega)
          have g6 : decide (e < ib) = false := decide_eq_false (by have := HBD.out; omega)
          have HK1 := Aside0.mk (HT.out.2.1 (by omega))
          have HC2 := Aside0.mk (HT.out.2.2.1 hu3 hu2)
          have HK3 := Aside0.mk (HT.out.2.2.2.2.2.1 (by omega))
          clear HT hu1 hu2 hu3 hu4
          go_wp2_with (first | (go_at_call 120; with_reducible refine (HC2.out _ BB.out (HK1.out _ (RR.out))).mono ?_; rintro e2_ w2 ⟨rfl, B2, R2⟩))
          go_end0
          exact ⟨rfl, B2, HK3.out _ (R2)⟩
        · have g1 : decide (s < im) = false := decide_eq_false (by omega)
          have g2 : decide (im < e) = true := decide_eq_true (by have := HBD.out; omega)
          have g3 : decide (ia < s) = false := decide_eq_false (by have := HBD.out; omega)
          have g4 : decide (s < mid) = true := decide_eq_true (by have := HBD.out; omega)
          have g5 : decide (mid < e) = false := decide_eq_false (by have := HBD.out; omega)
          have g6 : decide (e < ib) = true := decide_eq_true (by have := HBD.out; omega)
          have HK1 := Aside0.mk (HT.out.2.1 (by omega))
          have HK2 := Aside0.mk (HT.out.2.2.2.1 (by omega))
          have HK3 := Aside0.mk (HT.out.2.2.2.2.2.1 (by omega))
          clear HT hu1 hu2 hu3 hu4
          go_wp2_with fail
          go_end0
          exact ⟨rfl, BB.out, HK3.out _ (HK2.out _ (HK1.out _ (RR.out)))⟩
        · have g1 : decide (s < im) = false := decide_eq_false (by omega)
          have g2 : decide (im < e) = true := decide_eq_true (by have := HBD.out; omega)
          have g3 : decide (ia < s) = false := decide_eq_false (by have := HBD.out; omega)
          have g4 : decide (s < mid) = true := decide_eq_true (by have := HBD.out; omega)
          have g5 : decide (mid < e) = false := decide_eq_false (by have := HBD.out; omega)
          have g6 : decide (e < ib) = false := decide_eq_false (by have := HBD.out; omega)
          have HK1 := Aside0.mk (HT.out.2.1 (by omega))
          have HK2 := Aside0.mk (HT.out.2.2.2.1 (by omega))
          have HK3 := Aside0.mk (HT.out.2.2.2.2.2.1 (by omega))
          clear HT hu1 hu2 hu3 hu4
          go_wp2_with fail
          go_end0
          exact ⟨rfl, BB.out, HK3.out _ (HK2.out _ (HK1.out _ (RR.out)))⟩
        · have g1 : decide (s < im) = false := decide_eq_false (by omega)
          have g2 : decide (im < e) = false := decide_eq_false (by have := HBD.out; omega)
          have g3 : decide (ia < s) = true := decide_eq_true (by have := HBD.out; omega)
          have g4 : decide (s < mid) = false := decide_eq_false (by have := HBD.out; omega)
          have g5 : decide (mid < e) = false := decide_eq_false (by have := HBD.out; omega)
          have g6 : decide (e < ib) = true := decide_eq_true (by have := HBD.out; omega)
          have HK1 := Aside0.mk (HT.out.2.1 (by omega))
          have HK2 := Aside0.mk (HT.out.2.2.2.1 (by omega))
          have HK3 := Aside0.mk (HT.out.2.2.2.2.2.1 (by omega))
          clear HT hu1 hu2 hu3 hu4
          go_wp2_with fail
          go_end0
          exact ⟨rfl, BB.out, HK3.out _ (HK2.out _ (HK1.out _ (RR.out)))⟩
        · have g1 : decide (s < im) = false := decide_eq_false (by omega)
          have g2 : decide (im < e) = false := decide_eq_false (by have := HBD.out; omega)
          have g3 : decide (ia < s) = true := decide_eq_true (by have := HBD.out; omega)
          have g4 : decide (s < mid) = false := decide_eq_false (by have := HBD.out; omega)
          have g5 : decide (mid < e) = false := decide_eq_false (by have := HBD.out; omega)
          have g6 : decide (e < ib) = false := decide_eq_false (by have := HBD.out; omega)
          have HK1 := Aside0.mk (HT.out.2.1 (by omega))
          have HK2 := Aside0.mk (HT.out.2.2.2.1 (by omega))
          have HK3 := Aside0.mk (HT.out.2.2.2.2.2.1 (by omega))
          clear HT hu1 hu2 hu3 hu4
          go_wp2_with fail
          go_end0
          exact ⟨rfl, BB.out, HK3.out _ (HK2.out _ (HK1.out _ (RR.out)))⟩
        · have g1 : decide (s < im) = false := decide_eq_false (by omega)
          have g2 : decide (im < e) = false := decide_eq_false (by have := HBD.out; omega)
          have g3 : decide (ia < s) = false := decide_eq_false (by have := HBD.out; omega)
          have g4 : decide (s < mid) = false := decide_eq_false (by have := HBD.out; omega)
          have g5 : decide (mid < e) = false := decide_eq_false (by have := HBD.out; omega)
          have g6 : decide (e < ib) = true := decide_eq_true (by have := HBD.out; omega)
          have HK1 := Aside0.mk (HT.out.2.1 (by omega))
          have HK2 := Aside0.mk (HT.out.2.2.2.1 (by omega))
          have HK3 := Aside0.mk (HT.out.2.2.2.2.2.1 (by omega))
          clear HT hu1 hu2 hu3 hu4
          go_wp2_with fail
          go_end0
          exact ⟨rfl, BB.out, HK3.out _ (HK2.out _ (HK1.out _ (RR.out)))⟩
        · have g1 : decide (s < im) = false := decide_eq_false (by omega)
          have g2 : decide (im < e) = false := decide_eq_false (by have := HBD.out; omega)
          have g3 : decide (ia < s) = false := decide_eq_false (by have := HBD.out; omega)
          have g4 : decide (s < mid) = false := decide_eq_false (by have := HBD.out; omega)
          have g5 : decide (mid < e) = false := decide_eq_false (by have := HBD.out; omega)
          have g6 : decide (e < ib) = false := decide_eq_false (by have := HBD.out; omega)
          have HK1 := Aside0.mk (HT.out.2.1 (by omega))
          have HK2 := Aside0.mk (HT.out.2.2.2.1 (by omega))
          have HK3 := Aside0.mk (HT.out.2.2.2.2.2.1 (by omega))
          clear HT hu1 hu2 hu3 hu4
          go_wp2_with fail
          go_end0
          exact ⟨rfl, BB.out, HK3.out _ (HK2.out _ (HK1.out _ (RR.out)))⟩
set_option maxHeartbeats 4000000 in
theorem sym_calls (lt : Rec → Rec → Bool) (ho : Ord lt) (hc : Cmp lt) (N : Nat) (w0 : World) (g : Nat) (hg : N ≤ g) (cp : Nat) (n : Nat) (hn2 : n ≤ 1000000) : ∀ (L : Nat), ∀ (ia im ib : Nat) (P A B Q : List Rec), A.length + B.length < L + 1 → 1 ≤ A.length → 1 ≤ B.length → P.length = ia → ia + A.length = im → im + B.length = ib → Sorted lt A → Sorted lt B → (P ++ (A ++ (B ++ Q))).length = n → ∀ W, Kp g w0 W → RowB W g (P ++ (A ++ (B ++ Q))) → Calls Try.prog 120 #[.slice (some ⟨g, 0, none⟩) n cp, .int .i64 (ia : Int), .int .i64 (im : Int), .int .i64 (ib : Int), .func (.func 85) #[] #[]] W fun e w' => e = .returned (.tuple #[]) ∧ Kp g w0 w' ∧ RowB w' g (P ++ (mrg lt A B ++ Q))
  | 0 => fun ia im ib P A B Q h0 h1 h2 => absurd h0 (by omega)
  | L + 1 => by
    intro ia im ib P A B Q h0 h1 h2 hP hA hB hAs hBs hn W hW hR
    rcases Nat.lt_or_ge A.length 2 with a2 | a2
    · obtain ⟨x, rfl⟩ := List.length_eq_one_iff.1 (show A.length = 1 by omega)
      exact symL_calls lt ho hc N w0 g hg cp ia im ib n P B Q x hP (by simpa using hA) hB hBs hn hn2 W hW hR
    · rcases Nat.lt_or_ge B.length 2 with b2 | b2
      · obtain ⟨x, rfl⟩ := List.length_eq_one_iff.1 (show B.length = 1 by omega)
        exact symR_calls lt ho hc N w0 g hg cp ia im ib n P A Q x hP hA a2 (by simpa using hB) hAs hn hn2 W hW hR
      · exact symG_calls lt ho hc N w0 g hg cp ia im ib n P A B Q hP hA hB a2 b2 hAs hBs hn hn2 (fun ia' im' ib' P' A' B' Q' hlt => sym_calls lt ho hc N w0 g hg cp n hn2 L ia' im' ib' P' A' B' Q' (by omega)) W hW hR
end Go.Proofs.Ytnchdmidaigheaa.QS
namespace Go.Proofs.Ytnchdmidaigheaa.QS
set_option linter.unusedVariables false
set_option linter.unusedSimpArgs false
open Go.RowKit Go.Proofs.Ytnchdmidaigheaa.SS Go.Proofs.Ytnchdmidaigheaa.Hp Go.Proofs.YtnchdmidaigheaaW.PrintWords Go.Proofs.YtnchdmidaigheaaW.PrintLast Go.Proofs.YtnchdmidaigheaaW.PrintMore
attribute [local go_sem] max2_int min2_int max_two min_two max_three min_three max_four min_four
set_option maxHeartbeats 8000000 in
set_option maxRecDepth 100000 in
theorem stab_calls (lt : Rec → Rec → Bool) (ho : Ord lt) (hc : Cmp lt) (N : Nat) (w0 : World) (g : Nat) (hg : N ≤ g) (cp n : Nat) (d : List Rec) (hn : d.length = n) (hn2 : n ≤ 100000) (w : World) (hB : Kp g w0 w) (hR : RowB w g d) :
    Calls Try.prog 107 #[.slice (some ⟨g, 0, none⟩) n cp, .int .i64 (n : Int), .func (.func 85) #[] #[]] w fun e w' => e = .returned (.tuple #[]) ∧ Kp g w0 w' ∧ RowB w' g (ssort lt d) := by
  have HG := Aside0.mk hg
  have HO := Aside0.mk ho
  have HC := Aside0.mk hc
  have HN := Aside0.mk (And.intro hn hn2)
  have HI0 : Aside0 (∃ X r : List Rec, RowB w g (X ++ r) ∧ X.length = 0 ∧ X.length + r.length = n ∧ X ++ srt lt 20 r = srt lt 20 d) := ⟨[], d, hR, rfl, by rw [hn]; simp, rfl⟩
  replace hB := Aside0.mk hB
  clear hg ho hc hn hn2 hR
  go_enter Try.func107, Try.ntmps107
  go_wp2_with fail
  go_loopg [7, 8] (n + 1) (fun kq v7 v8 w' => ∃ a b : Nat, v7 = .int .i64 (a : Int) ∧ v8 = .int .i64 (b : Int) ∧ Aside0 (b = a + 20 ∧ a ≤ n ∧ kq = n + 1 - a) ∧ Aside0 (∃ X r : List Rec, RowB w' g (X ++ r) ∧ X.length = a ∧ X.length + r.length = n ∧ X ++ srt lt 20 r = srt lt 20 d) ∧ Aside0 (Kp g w0 w'))
  case atStart => exact ⟨0, 20, rfl, rfl, ⟨rfl, Nat.zero_le _, rfl⟩, HI0, hB⟩
  case round =>
    clear HI0 hB
    obtain ⟨a, b, rfl, rfl, HAB, HI, BB⟩ := hrel
    obtain ⟨X, r, rr, hX, hl, ht⟩ := HI.out
    clear HI
    have hab := HAB.out
    have hN := HN.out
    by_cases hb : b ≤ n
    case pos =>
      have t1 : decide (b ≤ n) = true := decide_eq_true hb
      have hsp : r.take 20 ++ r.drop 20 = r := List.take_append_drop ..
      have HCI : Aside0 (∀ W, Kp g w0 W → RowB W g (X ++ r) → Calls Try.prog 119 #[.slice (some ⟨g, 0, none⟩) n cp, .int .i64 (a : Int), .int .i64 (b : Int), .func (.func 85) #[] #[]] W fun e w' => e = .returned (.tuple #[]) ∧ Kp g w0 w' ∧ RowB w' g (X ++ (ssort lt (r.take 20) ++ r.drop 20))) := ⟨fun W hW hR => by
        rw [← hsp] at hR
        exact ins_calls lt HO.out HC.out N w0 g HG.out cp a b n X (r.take 20) (r.drop 20) hX (by rw [List.length_take]; omega) (by rw [hsp, List.length_append]; omega) (by omega) W hW hR⟩
      have HNX : Aside0 ((X ++ ssort lt (r.take 20)).length = b ∧ (X ++ ssort lt (r.take 20)).length + (r.drop 20).length = n ∧ (X ++ ssort lt (r.take 20)) ++ srt lt 20 (r.drop 20) = srt lt 20 d) := ⟨by rw [List.length_append, ssort_length, List.length_take]; omega, by rw [List.length_append, ssort_length, List.length_take, List.length_drop]; omega, by rw [← ht, srt_step lt 20 (by omega) r (by omega), List.append_assoc]⟩
      replace rr := Aside0.mk rr
      have HBN := Aside0.mk hb
      clear hsp hX hl ht hab hN hb
      go_wp2_with (go_at_call 119; refine (HCI.out _ BB.out rr.out).mono ?_; rintro e w2 ⟨rfl, b2, r2⟩)
      go_roundg (n + 1 - b)
      case measure => have := HAB.out; have := HBN.out; omega
      case rel => exact ⟨b, b + 20, rfl, by first | rfl | (simp; unfold wrap64; have := HBN.out; have := HN.out; omega), ⟨rfl, HBN.out, rfl⟩, ⟨X ++ ssort lt (r.take 20), r.drop 20, by rw [List.append_assoc]; exact r2, HNX.out.1, HNX.out.2.1, HNX.out.2.2⟩, ⟨b2⟩⟩
    case neg =>
      have t1 : decide (b ≤ n) = false := decide_eq_false hb
      have HCI : Aside0 (∀ W, Kp g w0 W → RowB W g (X ++ r) → Calls Try.prog 119 #[.slice (some ⟨g, 0, none⟩) n cp, .int .i64 (a : Int), .int .i64 (n : Int), .func (.func 85) #[] #[]] W fun e w' => e = .returned (.tuple #[]) ∧ Kp g w0 w' ∧ RowB w' g (srt lt 20 d)) := ⟨fun W hW hR => by
        rw [← List.append_nil r] at hR
        have := ins_calls lt HO.out HC.out N w0 g HG.out cp a n n X r [] hX (by omega) (by rw [List.append_nil, List.length_append]; omega) (by omega) W hW hR
        rw [List.append_nil, ← srt_short lt 20 r (by omega), ht] at this
        exact this⟩
      replace rr := Aside0.mk rr
      clear hX hl ht hab hN hb
      go_upto_region 7 with (go_at_call 119; refine (HCI.out _ BB.out rr.out).mono ?_; rintro e w2 ⟨rfl, b2, r2⟩)
      replace b2 := Aside0.mk b2
      replace r2 := Aside0.mk r2
      clear rr BB HCI t1
      go_loopg [6] (n + 1) (fun kq v6 w' => ∃ bs : Nat, v6 = .int .i64 (bs : Int) ∧ Aside0 (20 ≤ bs ∧ bs ≤ 2 * n + 20 ∧ kq = n + 21 - bs) ∧ Aside0 (RowB w' g (srt lt bs d)) ∧ Aside0 (Kp g w0 w'))
      case atStart => exact ⟨20, rfl, ⟨by omega⟩, r2, b2⟩
      case round =>
      clear b2 r2 HAB
      obtain ⟨bs, rfl, HBS, RR, BB⟩ := hrel
      by_cases hbs : bs < n
      case neg =>
        have t1 : decide (bs < n) = false := decide_eq_false hbs
        have rr := RR.out
        rw [srt_short lt bs d (by have := HN.out; omega)] at rr
        replace rr := Aside0.mk rr
        clear hbs RR
        go_wp2_with fail
        go_end0
        exact ⟨rfl, BB.out, rr.out⟩
      case pos =>
      have t1 : decide (bs < n) = true := decide_eq_true hbs
      have HBN := Aside0.mk hbs
      obtain ⟨b2, hb2⟩ : ∃ b2, b2 = 2 * bs := ⟨_, rfl⟩
      have HB2 := Aside0.mk hb2
      have HW2 : IntKind.i64.wrap (2 * (bs : Int)) = (b2 : Int) := by rw [i64_w]; unfold wrap64; have := HBS.out; have := HN.out; omega
      have HI0 : Aside0 (∃ X r : List Rec, RowB wr g (X ++ srt lt bs r) ∧ X.length = 0 ∧ X.length + r.length = n ∧ X ++ srt lt b2 r = srt lt b2 d) := ⟨[], d, RR.out, rfl, by rw [HN.out.1]; simp, rfl⟩
      clear hbs hb2 RR
      go_upto_region 9 with fail
      clear t1
      go_loopg [7, 8] (n + 1) (fun kq v7 v8 w' => ∃ a b : Nat, v7 = .int .i64 (a : Int) ∧ v8 = .int .i64 (b : Int) ∧ Aside0 (b = a + b2 ∧ a ≤ n ∧ kq = n + 1 - a) ∧ Aside0 (∃ X r : List Rec, RowB w' g (X ++ srt lt bs r) ∧ X.length = a ∧ X.length + r.length = n ∧ X ++ srt lt b2 r = srt lt b2 d) ∧ Aside0 (Kp g w0 w'))
      case atStart => exact ⟨0, b2, rfl, by first | rfl | (rw [← i64_w, HW2]), ⟨by omega, Nat.zero_le _, rfl⟩, HI0, BB⟩
      case round =>
      clear HI0 BB
      obtain ⟨a, b, rfl, rfl, HAB, HI, BB⟩ := hrel
      obtain ⟨X, r, rr, hX, hl, ht⟩ := HI.out
      clear HI
      have hab := HAB.out
      have hN := HN.out
      have hB2 := HB2.out
      have hBS := HBS.out
      obtain ⟨m, hm⟩ : ∃ m, m = a + bs := ⟨_, rfl⟩
      have HW3 : IntKind.i64.wrap ((a : Int) + (bs : Int)) = (m : Int) := by rw [i64_w]; unfold wrap64; omega
      obtain ⟨b3, hb3⟩ : ∃ b3, b3 = b + b2 := ⟨_, rfl⟩
      have HB3 := Aside0.mk hb3
      by_cases hb : b ≤ n
      case pos =>
        have t1 : decide (b ≤ n) = true := decide_eq_true hb
        have HW4 : IntKind.i64.wrap ((b : Int) + (b2 : Int)) = (b3 : Int) := by rw [i64_w]; unfold wrap64; omega
        have hsp := srt_two lt bs (by omega) r (by omega)
        have HCI : Aside0 (∀ W, Kp g w0 W → RowB W g (X ++ srt lt bs r) → Calls Try.prog 120 #[.slice (some ⟨g, 0, none⟩) n cp, .int .i64 (a : Int), .int .i64 (m : Int), .int .i64 (b : Int), .func (.func 85) #[] #[]] W fun e w' => e = .returned (.tuple #[]) ∧ Kp g w0 w' ∧ RowB w' g (X ++ (ssort lt (r.take b2) ++ srt lt bs (r.drop b2)))) := ⟨fun W hW hR => by
          rw [hsp] at hR
          have := sym_calls lt HO.out HC.out N w0 g HG.out cp n (by omega) n a m b X (ssort lt (r.take bs)) (ssort lt ((r.drop bs).take bs)) (srt lt bs (r.drop (2 * bs))) (by rw [ssort_length, ssort_length, List.length_take, List.length_take, List.length_drop]; omega) (by rw [ssort_length, List.length_take]; omega) (by rw [ssort_length, List.length_take, List.length_drop]; omega) hX (by rw [ssort_length, List.length_take]; omega) (by rw [ssort_length, List.length_take, List.length_drop]; omega) (ssort_stable HO.out _).1 (ssort_stable HO.out _).1 (by rw [← hsp, List.length_append, srt_length]; omega) W hW hR
          rw [ssort_mrg HO.out, take_two, ← hB2] at this
          exact this⟩
        have HNX : Aside0 ((X ++ ssort lt (r.take b2)).length = b ∧ (X ++ ssort lt (r.take b2)).length + (r.drop b2).length = n ∧ (X ++ ssort lt (r.take b2)) ++ srt lt b2 (r.drop b2) = srt lt b2 d) := ⟨by rw [List.length_append, ssort_length, List.length_take]; omega, by rw [List.length_append, ssort_length, List.length_take, List.length_drop]; omega, by rw [← ht, srt_step lt b2 (by omega) r (by omega), List.append_assoc]⟩
        replace rr := Aside0.mk rr
        have HBN2 := Aside0.mk hb
        clear hsp hX hl ht hab hN hb hB2 hBS hm hb3
        go_wp2_with (go_at_call 120; refine (HCI.out _ BB.out rr.out).mono ?_; rintro e w2 ⟨rfl, bb2, r2⟩)
        go_roundg (n + 1 - b)
        case measure => have := HAB.out; have := HBN2.out; have := HB2.out; have := HBS.out; omega
        case rel => exact ⟨b, b3, rfl, by first | rfl | (rw [← i64_w, HW4]) | (simp; unfold wrap64; have := HBN2.out; have := HN.out; have := HB3.out; have := HB2.out; have := HBS.out; omega), ⟨HB3.out, HBN2.out, rfl⟩, ⟨X ++ ssort lt (r.take b2), r.drop b2, by rw [List.append_assoc]; exact r2, HNX.out.1, HNX.out.2.1, HNX.out.2.2⟩, ⟨bb2⟩⟩
      case neg =>
        have t1 : decide (b ≤ n) = false := decide_eq_false hb
        have HW5 : IntKind.i64.wrap ((bs : Int) * 2) = (b2 : Int) := by rw [i64_w]; unfold wrap64; omega
        have HMB : Aside0 (20 ≤ b2 ∧ b2 ≤ 2 * n + 20 ∧ n + 21 - b2 < n + 21 - bs) := ⟨by have := HBN.out; omega⟩
        by_cases hmn : m < n
        case pos =>
          have t2 : decide (m < n) = true := decide_eq_true hmn
          have hsp : srt lt bs r = ssort lt (r.take bs) ++ ssort lt (r.drop bs) := by rw [srt_step lt bs (by omega) r (by omega), srt_short lt bs (r.drop bs) (by rw [List.length_drop]; omega)]
          have HCI : Aside0 (∀ W, Kp g w0 W → RowB W g (X ++ srt lt bs r) → Calls Try.prog 120 #[.slice (some ⟨g, 0, none⟩) n cp, .int .i64 (a : Int), .int .i64 (m : Int), .int .i64 (n : Int), .func (.func 85) #[] #[]] W fun e w' => e = .returned (.tuple #[]) ∧ Kp g w0 w' ∧ RowB w' g (srt lt b2 d)) := ⟨fun W hW hR => by
            rw [hsp, ← List.append_nil (ssort lt (r.drop bs))] at hR
            have := sym_calls lt HO.out HC.out N w0 g HG.out cp n (by omega) n a m n X (ssort lt (r.take bs)) (ssort lt (r.drop bs)) [] (by rw [ssort_length, ssort_length, List.length_take, List.length_drop]; omega) (by rw [ssort_length, List.length_take]; omega) (by rw [ssort_length, List.length_drop]; omega) hX (by rw [ssort_length, List.length_take]; omega) (by rw [ssort_length, List.length_drop]; omega) (ssort_stable HO.out _).1 (ssort_stable HO.out _).1 (by rw [List.append_nil, ← hsp, List.length_append, srt_length]; omega) W hW hR
            rw [ssort_mrg HO.out, List.take_append_drop, List.append_nil, ← srt_short lt b2 r (by omega), ht] at this
            exact this⟩
          replace rr := Aside0.mk rr
          clear hsp hX hl ht hab hN hb hB2 hBS hm hb3 hmn
          go_wp2_with (go_at_call 120; refine (HCI.out _ BB.out rr.out).mono ?_; rintro e w2 ⟨rfl, bb2, r2⟩)
          go_roundg (n + 21 - b2)
          case measure => have := HMB.out; have := HBS.out; omega
          case rel => exact ⟨b2, by first | rfl | (rw [← i64_w, HW5]) | (simp; unfold wrap64; have := HMB.out; have := HN.out; have := HB2.out; have := HBS.out; omega), ⟨HMB.out.1, HMB.out.2.1, rfl⟩, ⟨r2⟩, ⟨bb2⟩⟩
        case neg =>
          have t2 : decide (m < n) = false := decide_eq_false hmn
          have hsp : X ++ srt lt bs r = srt lt b2 d := by rw [← ht, srt_short lt bs r (by omega), srt_short lt b2 r (by omega)]
          rw [hsp] at rr
          replace rr := Aside0.mk rr
          clear hsp hX hl ht hab hN hb hB2 hBS hm hb3 hmn
          go_wp2_with fail
          go_roundg (n + 21 - b2)
          case measure => have := HMB.out; have := HBS.out; omega
          case rel => exact ⟨b2, by first | rfl | (rw [← i64_w, HW5]) | (simp; unfold wrap64; have := HMB.out; have := HN.out; have := HB2.out; have := HBS.out; omega), ⟨HMB.out.1, HMB.out.2.1, rfl⟩, rr, BB⟩
theorem sort_calls (lt : Rec → Rec → Bool) (ho : Ord lt) (hc : Cmp lt) (N : Nat) (w0 : World) (g : Nat) (hg : N ≤ g) (cp n : Nat) (d : List Rec) (hn : d.length = n) (hn2 : n ≤ 100000) (w : World) (hB : Kp g w0 w) (hR : RowB w g d) :
    Calls Try.prog 84 #[.slice (some ⟨g, 0, none⟩) n cp, .func (.func 85) #[] #[]] w fun e w' => e = .returned (.tuple #[]) ∧ Kp g w0 w' ∧ RowB w' g (ssort lt d) := by
  have HC := Aside0.mk (fun W hW hR' => stab_calls lt ho hc N w0 g hg cp n d hn hn2 W hW hR')
  replace hB := Aside0.mk hB
  replace hR := Aside0.mk hR
  clear ho hc hg hn hn2
  go_enter Try.func84, Try.ntmps84
  go_wp2_with (go_at_call 107; refine (HC.out _ hB.out hR.out).mono ?_; rintro e w2 ⟨rfl, b2, r2⟩)
  go_end0
  exact ⟨rfl, b2, r2⟩
set_option maxHeartbeats 4000000 in
theorem ins_nil (fv : Value) (cp : Nat) (w : World) : Calls Try.prog 119 #[.slice none 0 cp, .int .i64 0, .int .i64 0, fv] w fun e w' => e = .returned (.tuple #[]) ∧ Below w.heap.size w w' := by
  have hB := Aside0.mk (Below.refl w.heap.size w)
  go_enter Try.func119, Try.ntmps119
  go_wp2_with fail
  go_loopg [8] 1 (fun kq v8 w' => v8 = .int .i64 1 ∧ Aside0 (Below w.heap.size w w'))
  case atStart => exact ⟨rfl, hB⟩
  case round =>
    clear hB
    obtain ⟨rfl, BB⟩ := hrel
    go_wp2_with fail
    go_end0
    exact ⟨rfl, BB.out⟩
set_option maxHeartbeats 4000000 in
theorem stab_nil (fv : Value) (cp : Nat) (w : World) : Calls Try.prog 107 #[.slice none 0 cp, .int .i64 0, fv] w fun e w' => e = .returned (.tuple #[]) ∧ Below w.heap.size w w' := by
  have hB := Aside0.mk (Below.refl w.heap.size w)
  go_enter Try.func107, Try.ntmps107
  go_wp2_with fail
  go_loopg [7, 8] 1 (fun kq v7 v8 w' => v7 = .int .i64 0 ∧ v8 = .int .i64 20 ∧ Aside0 (Below w.heap.size w w'))
  case atStart => exact ⟨rfl, rfl, hB⟩
  case round =>
    clear hB
    obtain ⟨rfl, rfl, BB⟩ := hrel
    go_upto_region 7 with (go_at_call 119; refine (ins_nil fv cp _).mono ?_; rintro e w2 ⟨rfl, b2⟩)
    replace b2 := Aside0.mk (below_then BB.out BB.out.size b2)
    clear BB
    go_loopg [6] 1 (fun kq v6 w' => v6 = .int .i64 20 ∧ Aside0 (Below w.heap.size w w'))
    case atStart => exact ⟨rfl, b2⟩
    case round =>
    clear b2
    obtain ⟨rfl, BB⟩ := hrel
    go_wp2_with fail
    go_end0
    exact ⟨rfl, BB.out⟩
theorem sort_nil (fv : Value) (cp : Nat) (w : World) : Calls Try.prog 84 #[.slice none 0 cp, fv] w fun e w' => e = .returned (.tuple #[]) ∧ Below w.heap.size w w' := by
  go_enter Try.func84, Try.ntmps84
  go_wp2_with (go_at_call 107; refine (stab_nil fv cp _).mono ?_; rintro e w2 ⟨rfl, b2⟩)
  go_end0
  exact ⟨rfl, b2⟩
end Go.Proofs.Ytnchdmidaigheaa.QS
namespace Go.Proofs.Ytnchdmidaigheaa.QS
set_option linter.unusedVariables false
set_option linter.unusedSimpArgs false
open Go.RowKit Go.Proofs.Ytnchdmidaigheaa.SS Go.Proofs.Ytnchdmidaigheaa.Hp Go.Proofs.YtnchdmidaigheaaW.PrintWords Go.Proofs.YtnchdmidaigheaaW.PrintLast Go.Proofs.YtnchdmidaigheaaW.PrintMore
abbrev R0 := S65
theorem inf_byte : (Try.prog.info? 5).map (fun i => (i.zero, i.size, i.bytes)) = some (some (.int .u8 0), 1, 1) := by kernel_rfl
set_option maxHeartbeats 4000000 in
set_option maxRecDepth 100000 in
theorem bclone_calls (A : Option Addr) (cp : Nat) (xs : List Int) (w : World) (hn : xs.length ≤ 100000) (hC : Kd.C (Kd.int .u8) w A xs.length xs) :
    Calls Try.prog 118 #[.slice A xs.length cp] w fun e w' => ∃ v, e = .returned v ∧ Kd.R (Kd.int .u8) 5 w' w.heap.size (fun k => w.heap.size ≤ k) v xs ∧ Below w.heap.size w w' := by
  have hre := Kd.reads_of_C (d := (0 : Int)) hC
  cases A with
  | none =>
    have h0 : xs.length = 0 := by
      rcases Nat.eq_zero_or_pos xs.length with h | h
      · exact h
      · obtain ⟨ad, he, _⟩ := hre.2.2 h
        cases he
    obtain rfl := List.eq_nil_of_length_eq_zero h0
    have e1 := fun W : World => Lib.run_eql_slice_nil (P := Try.prog) W 38 5 none 0 cp 0 0 Try.underlying38
    clear hC hre h0 hn
    go_enter Try.func118, Try.ntmps118
    go_wp2_with fail
    go_ret
    exact ⟨_, rfl, Kd.R_nil _ _ _ _ _, Below.refl _ _⟩
  | some ad =>
    have e1 := fun W : World => Lib.run_eql_slice_nil (P := Try.prog) W 38 5 (some ad) xs.length cp 0 0 Try.underlying38
    have HC : Aside0 (∀ j u, (nums .u8 xs)[j]? = some u → w.cell? (ad.add j) = some u) := ⟨fun j u hu => by
      unfold nums at hu
      rw [List.getElem?_map] at hu
      obtain ⟨x, hx, rfl⟩ := Option.map_eq_some_iff.1 hu
      have hj := (List.getElem?_eq_some_iff.1 hx).1
      obtain ⟨ad', he, hc⟩ := hre.2.2 (by omega)
      obtain rfl := Option.some.inj he
      rw [hc j hj, List.getD_eq_getElem?_getD, hx]
      rfl⟩
    have HH := Aside0.mk hn
    clear hC hn hre
    obtain ⟨i0, hi0, hz⟩ := Option.map_eq_some_iff.1 inf_byte
    simp only [Prod.mk.injEq] at hz
    obtain ⟨hz0, hz1, hz2⟩ := hz
    have HI := Aside0.mk (And.intro hi0 (And.intro hz0 (And.intro hz1 hz2)))
    clear hi0 hz0 hz1 hz2
    go_enter Try.func118, Try.ntmps118
    go_wp2_with (at_builtin; refine wpList_append_own_at _ rfl _ _ 38 rfl w.heap.size 5 i0 _ 1 1 Try.underlying38 HI.out.1 HI.out.2.1 HI.out.2.2.1 HI.out.2.2.2 rfl (by decide) _ 0 [] rfl (World.ownsRow_made w #[] 0 (Nat.le_refl _) (Nat.zero_le _) rfl) ad xs.length cp (nums .u8 xs) rfl (by rw [nums_length, Nat.mul_one]) (fun j u hj => pw_cell_below (below_alloc (Below.refl _ _) _) (HC.out j u hj)) (by intro u hu; obtain ⟨x, _, rfl⟩ := List.mem_map.1 hu; rfl) (by have := HH.out; unfold maxLen; omega) (by have := HH.out; omega) (by simp) ?_; intro v w1 ho hg hnil hat; replace ho := Aside0.mk ho; replace hg := Aside0.mk hg; clear hnil hat)
    go_ret
    have hb := pw_below_grown (below_alloc (Below.refl w.heap.size w) _) _ (by simp) hg.out (fun k hk => by have e : w.heap.size = k := Option.some.inj hk; omega)
    have ho1 := ho.out
    rw [Nat.zero_add, List.nil_append] at ho1
    exact ⟨v, rfl, Kd.R_of_own (enc := Value.int .u8) ho1 (fun k hk => own_base ho1 k hk), hb⟩
abbrev Rp := R0 × (Option Addr × Nat)
def recOf (p : Rp) : Rec := ⟨p.1.f0, p.1.f1, p.2.1, p.1.f2.length, p.2.2⟩
def Rp.made (W : World) (base : Nat) (ok : Nat → Prop) (p : Rp) : Prop := (Kd.int .u8).R 5 W base ok (.slice p.2.1 p.1.f2.length p.2.2) p.1.f2
theorem encs_at (ps : List Rec) (j : Nat) (x : Rec) (h : ps[j]? = some x) (i : Nat) (hi : i < 3) : (ps.flatMap Rec.enc)[j * 3 + i]? = x.enc[i]? := by
  induction ps generalizing j with
  | nil => simp at h
  | cons a r ih =>
    rw [List.flatMap_cons]
    have ha : (Rec.enc a).length = 3 := rfl
    cases j with
    | zero =>
      obtain rfl : a = x := by simpa using h
      rw [List.getElem?_append_left (by omega)]
      simp
    | succ j =>
      rw [List.getElem?_append_right (by omega), ha, show (j + 1) * 3 + i - 3 = j * 3 + i by omega]
      exact ih j (by simpa using h)
theorem encs_len (ps : List Rec) : (ps.flatMap Rec.enc).length = ps.length * 3 := by
  induction ps with
  | nil => rfl
  | cons a r ih => rw [List.flatMap_cons, List.length_append, ih, List.length_cons]; show 3 + _ = _; omega
theorem rows_of_R {W : World} {base : Nat} {ok : Nat → Prop} {v : Value} {l : List R0} (h : Kd.R k65 65 W base ok v l) :
    ∃ ps : List Rp, ps.map (·.1) = l ∧ W.ownsRow base 65 3 v ps.length ((ps.map recOf).flatMap Rec.enc) ∧ ∀ p ∈ ps, p.made W base (fun k => ok k ∧ some k ≠ v.ownBlock) := by
  obtain ⟨h0, inner, ho, hr⟩ := h
  obtain ⟨ps, hl, hR⟩ := list_of (fun j (p : Rp) => l[j]? = some p.1 ∧ p.made W base (fun k => ok k ∧ some k ≠ v.ownBlock) ∧ (inner.drop (j * 3)).take 3 = (recOf p).enc) l.length (fun j hj => by
    obtain ⟨v7, hc, h7⟩ := k65_openM (hr.2 j l[j] (List.getElem?_eq_getElem hj))
    obtain ⟨A7, c7, rfl⟩ := Kd.R_slice h7
    exact ⟨(l[j], A7, c7), List.getElem?_eq_getElem hj, h7, hc⟩)
  have hm : ps.map (·.1) = l := by
    apply List.ext_getElem?
    intro j
    rw [List.getElem?_map]
    rcases Nat.lt_or_ge j l.length with hj | hj
    · rw [List.getElem?_eq_getElem (show j < ps.length by omega)]
      exact ((hR j _ (List.getElem?_eq_getElem (by omega))).1).symm
    · rw [List.getElem?_eq_none (by omega), List.getElem?_eq_none hj]
      rfl
  have hin : inner.length = l.length * 3 := hr.1
  have he : inner = (ps.map recOf).flatMap Rec.enc := by
    apply List.ext_getElem?
    intro j
    rcases Nat.lt_or_ge j (l.length * 3) with hj | hj
    · have hq : j / 3 < ps.length := by omega
      have hjj : j / 3 * 3 + j % 3 = j := by omega
      have e1 : (ps.map recOf)[j / 3]? = some (recOf ps[j / 3]) := by rw [List.getElem?_map, List.getElem?_eq_getElem hq]; rfl
      have e2 := encs_at (ps.map recOf) (j / 3) _ e1 (j % 3) (by omega)
      rw [hjj] at e2
      rw [e2, ← (hR (j / 3) _ (List.getElem?_eq_getElem hq)).2.2, List.getElem?_take, if_pos (by omega), List.getElem?_drop, hjj]
    · rw [List.getElem?_eq_none (by omega), List.getElem?_eq_none (by rw [encs_len, List.length_map]; omega)]
  refine ⟨ps, hm, ?_, fun p hp => ?_⟩
  · rw [← he, hl]
    exact ho
  · obtain ⟨j, hj, rfl⟩ := List.getElem_of_mem hp
    exact (hR j _ (List.getElem?_eq_getElem hj)).2.1
theorem R_of_rows {W : World} {base : Nat} {ok : Nat → Prop} {v : Value} {ps : List Rp} (h0 : ∀ k, v.ownBlock = some k → ok k) (ho : W.ownsRow base 65 3 v ps.length ((ps.map recOf).flatMap Rec.enc)) (hg : ∀ p ∈ ps, p.made W base (fun k => ok k ∧ some k ≠ v.ownBlock)) :
    Kd.R k65 65 W base ok v (ps.map (·.1)) := by
  refine ⟨h0, (ps.map recOf).flatMap Rec.enc, by rw [List.length_map]; exact ho, by rw [encs_len, List.length_map, List.length_map]; rfl, fun j x hx => ?_⟩
  rw [List.getElem?_map] at hx
  obtain ⟨p, hp, rfl⟩ := Option.map_eq_some_iff.1 hx
  have e : (((ps.map recOf).flatMap Rec.enc).drop (j * 3)).take 3 = (recOf p).enc := by
    apply List.ext_getElem?
    intro i
    rw [List.getElem?_take]
    split
    · rename_i hi
      rw [List.getElem?_drop]
      exact encs_at (ps.map recOf) j (recOf p) (by rw [List.getElem?_map, hp]; rfl) i hi
    · rename_i hi
      rw [List.getElem?_eq_none (by show 3 ≤ i; omega)]
  show k65.M W base _ p.1 ((((ps.map recOf).flatMap Rec.enc).drop (j * 3)).take 3)
  rw [e]
  exact k65_mkM W base _ p.1 (hg p (List.mem_of_getElem? hp))
theorem ssort_map {α β : Type} (f : α → β) {lt : α → α → Bool} {lt' : β → β → Bool} (h : ∀ x y, lt' (f x) (f y) = lt x y) (l : List α) : ssort lt' (l.map f) = (ssort lt l).map f := by
  have hp : ∀ (x : α) (s : List α), put lt' (f x) (s.map f) = (put lt x s).map f := by
    intro x s
    induction s with
    | nil => rfl
    | cons y r ih =>
      simp only [List.map_cons, put, h]
      split
      · rfl
      · rw [ih]; rfl
  unfold ssort
  suffices hs : ∀ (s : List α), (l.map f).foldl (fun s x => put lt' x s) (s.map f) = (l.foldl (fun s x => put lt x s) s).map f from hs []
  induction l with
  | nil => intro s; rfl
  | cons a r ih => intro s; simp only [List.map_cons, List.foldl_cons]; rw [hp]; exact ih _
theorem sort_R (lt : Rec → Rec → Bool) (ltS : R0 → R0 → Bool) (hlt : ∀ x y : Rp, lt (recOf x) (recOf y) = ltS x.1 y.1) (hord : Ord lt) (hcmp : Cmp lt) {W : World} {base : Nat} {ok : Nat → Prop} {v : Value} {l : List R0} (hn : l.length ≤ 100000) (h : Kd.R k65 65 W base ok v l) :
    Calls Try.prog 84 #[v, .func (.func 85) #[] #[]] W fun e w' => e = .returned (.tuple #[]) ∧ Kd.R k65 65 w' base ok v (ssort ltS l) ∧ W.grownBy w' v.ownBlock := by
  obtain ⟨ps, rfl, ho, hg⟩ := rows_of_R h
  have h0 := h.1
  rw [List.length_map] at hn
  have e1 : ssort lt (ps.map recOf) = (ssort (fun x y : Rp => ltS x.1 y.1) ps).map recOf := ssort_map recOf hlt ps
  have e2 : ssort ltS (ps.map (·.1)) = (ssort (fun x y : Rp => ltS x.1 y.1) ps).map (·.1) := ssort_map (·.1) (fun _ _ => rfl) ps
  have hmem : ∀ p ∈ ssort (fun x y : Rp => ltS x.1 y.1) ps, p ∈ ps := fun p hp => by
    have ho : Ord (fun x y : Rp => ltS x.1 y.1) := by
      refine ⟨fun x y h => ?_, fun x y z h1 h2 => ?_⟩
      · rw [← hlt] at h ⊢; exact hord.1 _ _ h
      · rw [← hlt] at h1 h2 ⊢; exact hord.2 _ _ _ h1 h2
    exact ((ssort_stable ho ps).2.1 p).1 hp
  obtain ⟨hl, ⟨rfl, hz⟩ | ⟨g, cap, cur, rfl, hgb, hh, h1, h2, h3, h4⟩⟩ := ho
  · obtain rfl := List.eq_nil_of_length_eq_zero hz
    refine (sort_nil _ 0 W).mono ?_
    rintro e w' ⟨rfl, hb⟩
    exact ⟨rfl, Kd.R_below h hb, grown_of_below hb _⟩
  · refine (sort_calls lt hord hcmp g W g (Nat.le_refl _) cap ps.length (ps.map recOf) (by simp) hn W (Kp.refl _ _) ⟨cur, hh, fun j x hx i hi => ?_⟩).mono ?_
    · have hj := (List.getElem?_eq_some_iff.1 hx).1
      have e := encs_at (ps.map recOf) j x hx i hi
      rw [← e, ← h4, List.getElem?_take, if_pos (by rw [List.length_map] at hj; omega)]
      simp
    · rintro e w' ⟨rfl, hk, cs, hz, hcs⟩
      rw [e1] at hcs
      obtain ⟨cs', hz', hsz⟩ := hk.same _ _ _ hh
      obtain rfl : cs = cs' := by rw [hz] at hz'; injection hz' with hz'; injection hz' with hz' _ _
      have hgr : W.grownBy w' (some g) := ⟨hk.os, hk.tape, hk.output, hk.size, fun k hk1 hk2 => hk.block k hk1 (fun h => hk2 (by rw [h]))⟩
      refine ⟨rfl, ?_, hgr⟩
      rw [e2]
      have hlen : (ssort (fun x y : Rp => ltS x.1 y.1) ps).length = ps.length := ssort_length _
      rw [show (Value.slice (some ⟨g, 0, none⟩) ps.length cap) = .slice (some ⟨g, 0, none⟩) (ssort (fun x y : Rp => ltS x.1 y.1) ps).length cap by rw [hlen]]
      refine R_of_rows h0 ⟨by rw [encs_len, List.length_map], .inr ⟨g, cap, cs, rfl, hgb, hz, by omega, h2, by rw [hsz]; exact h3, ?_⟩⟩ (fun p hp => ?_)
      · apply List.ext_getElem?
        intro j
        rw [List.getElem?_take]
        split
        · rename_i hj
          have hq : j / 3 < (ssort (fun x y : Rp => ltS x.1 y.1) ps).length := by omega
          have hjj : j / 3 * 3 + j % 3 = j := by omega
          have e3 : ((ssort (fun x y : Rp => ltS x.1 y.1) ps).map recOf)[j / 3]? = some (recOf (ssort (fun x y : Rp => ltS x.1 y.1) ps)[j / 3]) := by rw [List.getElem?_map, List.getElem?_eq_getElem hq]; rfl
          have e4 := encs_at _ (j / 3) _ e3 (j % 3) (by omega)
          have e5 := hcs (j / 3) _ e3 (j % 3) (by omega)
          rw [hjj] at e4 e5
          rw [e4, ← e5]
          simp
        · rename_i hj
          rw [List.getElem?_eq_none (by rw [encs_len, List.length_map]; omega)]
      · exact Kd.R_grown (hg p (hmem p hp)) hgr (fun k hk => hk.2)
end Go.Proofs.Ytnchdmidaigheaa.QS
namespace Go.Proofs.Ytnchdmidaigheaa.ND
set_option linter.unusedVariables false
set_option linter.unusedSimpArgs false
open Go.RowKit Go.Proofs.Ytnchdmidaigheaa.Hp Go.Proofs.YtnchdmidaigheaaW.PrintWords Go.Proofs.YtnchdmidaigheaaW.PrintLast Go.Proofs.YtnchdmidaigheaaW.PrintMore
abbrev Flt := S65
structure Dv where
  B : Int
  P : Int
  C : Int
  bad : List Int
  pages : List (List Int)
  next : List Int
  wear : List Int
  faults : List Flt
  ops : Int
  down : Bool
def Dv.there (D : Dv) (b : Int) : Bool := decide (b ≥ 0) && decide (b < D.B)
def Dv.here (D : Dv) (b p : Int) : Bool := D.there b && (decide (p ≥ 0) && decide (p < D.P))
def Dv.mark (D : Dv) (b : Int) : Bool := D.bad.any fun x => x == b
def onF (f : Flt) (n : Int) : Bool := f.f0 == n && (f.f1 == 1 || f.f1 == 2)
def Dv.fault (D : Dv) : Int × List Int := match D.faults.find? fun f => onF f D.ops with
  | some f => (f.f1, f.f2)
  | none => (0, [255])
def ended (k : Int) : Int := if k = 1 then 10 else if k = 2 then 9 else 0
def Dv.idx (D : Dv) (b p : Int) : Nat := (b * D.P + p).toNat
def Dv.progD (D : Dv) (b p : Int) (l : List Int) : Dv := { D with pages := D.pages.set (D.idx b p) (progRow (D.pages.getD (D.idx b p) []) l D.fault.2), next := D.next.set b.toNat (p + 1), ops := wrap64 (D.ops + 1), down := D.fault.1 == 2 }
def Dv.prog (D : Dv) (b p : Int) (l : List Int) : Int × Dv :=
  if D.down = true then (9, D) else if D.here b p = false ∨ l.length ≠ 256 then (3, D) else if D.mark b = true then (12, D) else if D.next.getD b.toNat 0 ≠ p then (11, D) else (ended D.fault.1, D.progD b p l)
def wiped (D : Dv) (b : Int) (m : List Int) : List (List Int) := D.pages.mapIdx fun i x => if b * D.P ≤ (i : Int) ∧ (i : Int) < (b + 1) * D.P then wipeRow x m else x
def Dv.eraseD (D : Dv) (b : Int) : Dv := { D with pages := wiped D b D.fault.2, next := D.next.set b.toNat (if D.fault.1 = 0 then 0 else D.P), wear := D.wear.set b.toNat (wrap64 (D.wear.getD b.toNat 0 + 1)), ops := wrap64 (D.ops + 1), down := D.fault.1 == 2 }
def Dv.erase (D : Dv) (b : Int) : Int × Dv :=
  if D.down = true then (9, D) else if D.there b = false then (3, D) else if D.mark b = true then (12, D) else (ended D.fault.1, D.eraseD b)
def Dv.power (D : Dv) : Dv := { D with down := false }
structure Dv.Ok (D : Dv) : Prop where
  b1 : 8 ≤ D.B
  b2 : D.B ≤ 34
  p1 : 4 ≤ D.P
  p2 : D.P ≤ 32
  c1 : 0 ≤ D.C
  c2 : D.C ≤ 8
  pl : (D.pages.length : Int) = D.B * D.P
  pw : ∀ l ∈ D.pages, isBytes l ∧ l.length = 256
  nl : (D.next.length : Int) = D.B
  nr : ∀ n ∈ D.next, 0 ≤ n ∧ n ≤ D.P
  wl : (D.wear.length : Int) = D.B
  wr : ∀ n ∈ D.wear, -9223372036854775808 ≤ n ∧ n ≤ 9223372036854775807
  fl : D.faults.length ≤ 1000
  fm : ∀ f ∈ D.faults, isBytes f.f2 ∧ f.f2.length ≤ 1000
  bl : D.bad.length ≤ 1000
theorem there_iff {D : Dv} {b : Int} : D.there b = true ↔ 0 ≤ b ∧ b < D.B := by unfold Dv.there; simp
theorem here_iff {D : Dv} {b p : Int} : D.here b p = true ↔ (0 ≤ b ∧ b < D.B) ∧ 0 ≤ p ∧ p < D.P := by unfold Dv.here Dv.there; simp
theorem mul_lt_of {a b p P : Int} (ha : 0 ≤ a) (hb : a < b) (hp : 0 ≤ p) (hP : p < P) : 0 ≤ a * P + p ∧ a * P + p < b * P ∧ a * P + p < (a + 1) * P := by
  have h1 : 0 ≤ a * P := Int.mul_nonneg ha (by omega)
  have h2 : (a + 1) * P ≤ b * P := Int.mul_le_mul_of_nonneg_right (by omega) (by omega)
  rw [Int.add_mul, Int.one_mul] at h2
  rw [Int.add_mul, Int.one_mul]
  omega
theorem Dv.Ok.size {D : Dv} (h : D.Ok) : D.B * D.P ≤ 1088 ∧ 32 ≤ D.B * D.P := by
  have h1 : D.B * D.P ≤ 34 * D.P := Int.mul_le_mul_of_nonneg_right h.b2 (by have := h.p1; omega)
  have h2 : 8 * D.P ≤ D.B * D.P := Int.mul_le_mul_of_nonneg_right h.b1 (by have := h.p1; omega)
  have := h.p2
  have := h.p1
  omega
theorem Dv.Ok.idx {D : Dv} (h : D.Ok) {b p : Int} (hh : D.here b p = true) : (D.idx b p : Int) = b * D.P + p ∧ D.idx b p < D.pages.length := by
  obtain ⟨⟨h1, h2⟩, h3, h4⟩ := here_iff.1 hh
  have := mul_lt_of h1 h2 h3 h4
  have := h.pl
  unfold Dv.idx
  omega
theorem fault_mask {D : Dv} (h : D.Ok) : isBytes D.fault.2 ∧ D.fault.2.length ≤ 1000 := by
  unfold Dv.fault
  split
  · rename_i f hf
    exact h.fm f (List.mem_of_find?_eq_some hf)
  · exact ⟨fun x hx => by simp at hx; omega, by simp⟩
theorem fault_kind (D : Dv) : D.fault.1 = 0 ∨ D.fault.1 = 1 ∨ D.fault.1 = 2 := by
  unfold Dv.fault
  split
  · rename_i f hf
    have := List.find?_some hf
    unfold onF at this
    simp only [Bool.and_eq_true, Bool.or_eq_true, beq_iff_eq] at this
    exact .inr this.2
  · exact .inl rfl
theorem wipeRow_ok {l m : List Int} (hl : isBytes l) (hm : isBytes m) (hn : l.length = 256) : isBytes (wipeRow l m) ∧ (wipeRow l m).length = 256 := by
  unfold wipeRow
  refine ⟨fun x hx => ?_, by rw [List.length_map, List.length_range, hn]⟩
  obtain ⟨i, hi, rfl⟩ := List.mem_map.1 hx
  have hr : 0 ≤ l.getD i 0 ∧ l.getD i 0 ≤ 255 := rd_range l hl i
  have hk := maskAt_range m hm i
  have : (l.getD i 0).toNat ||| (maskAt m i).toNat < 2 ^ 8 := Nat.or_lt_two_pow (by omega) (by omega)
  omega
theorem page_ok {D : Dv} (h : D.Ok) {i : Nat} (hi : i < D.pages.length) : isBytes (D.pages.getD i []) ∧ (D.pages.getD i []).length = 256 := by
  rw [List.getD_eq_getElem?_getD, List.getElem?_eq_getElem hi]
  exact h.pw _ (List.getElem_mem hi)
theorem wrap_id {x : Int} (h0 : -1000000 ≤ x) (h1 : x ≤ 1000000) : IntKind.i64.wrap x = x ∧ wrap64 x = x := by
  have e : wrap64 x = x := by unfold wrap64; omega
  exact ⟨by rw [i64_w]; exact e, e⟩
theorem wrap_range (x : Int) : -9223372036854775808 ≤ wrap64 x ∧ wrap64 x ≤ 9223372036854775807 := by unfold wrap64; omega
def newDv (B P C : Int) (bad : List Int) (fs : List Flt) : Dv := ⟨B, P, C, bad, List.replicate (B * P).toNat (List.replicate 256 255), List.replicate B.toNat 0, List.replicate B.toNat 0, fs, 0, false⟩
def rightG (B P C : Int) : Bool := within B 8 34 && (within P 4 32 && within C 0 8)
theorem newDv_ok {B P C : Int} (hg : rightG B P C = true) {bad : List Int} {fs : List Flt} (h1 : bad.length ≤ 1000) (h2 : fs.length ≤ 1000) (h3 : ∀ f ∈ fs, isBytes f.f2 ∧ f.f2.length ≤ 1000) : (newDv B P C bad fs).Ok := by
  unfold rightG within at hg
  simp only [Bool.and_eq_true, decide_eq_true_eq] at hg
  obtain ⟨⟨hb1, hb2⟩, ⟨hp1, hp2⟩, hc1, hc2⟩ := hg
  have hn : 0 ≤ B * P := Int.mul_nonneg (by omega) (by omega)
  exact {
    b1 := hb1, b2 := hb2, p1 := hp1, p2 := hp2, c1 := hc1, c2 := hc2
    pl := by show ((List.replicate (B * P).toNat _).length : Int) = B * P; rw [List.length_replicate]; omega
    pw := fun x hx => by
      obtain ⟨_, rfl⟩ := List.mem_replicate.1 hx
      exact ⟨fun y hy => by obtain ⟨_, rfl⟩ := List.mem_replicate.1 hy; omega, List.length_replicate⟩
    nl := by show ((List.replicate B.toNat _).length : Int) = B; rw [List.length_replicate]; omega
    nr := fun x hx => by obtain ⟨_, rfl⟩ := List.mem_replicate.1 hx; show (0 : Int) ≤ 0 ∧ 0 ≤ P; omega
    wl := by show ((List.replicate B.toNat _).length : Int) = B; rw [List.length_replicate]; omega
    wr := fun x hx => by obtain ⟨_, rfl⟩ := List.mem_replicate.1 hx; omega
    fl := h2, fm := h3, bl := h1 }
end Go.Proofs.Ytnchdmidaigheaa.ND
namespace Go.Proofs.Ytnchdmidaigheaa.ND
set_option linter.unusedVariables false
set_option linter.unusedSimpArgs false
open Go.RowKit Go.Proofs.Ytnchdmidaigheaa.Hp Go.Proofs.YtnchdmidaigheaaW.PrintWords Go.Proofs.YtnchdmidaigheaaW.PrintLast Go.Proofs.YtnchdmidaigheaaW.PrintMore
structure Turn (w W : World) (S : Nat → Prop) : Prop where
  os : W.os = w.os
  tape : W.tape = w.tape
  output : W.output = w.output
  size : w.heap.size ≤ W.heap.size
  block : ∀ k, k < w.heap.size → ¬ S k → W.heap[k]? = w.heap[k]?
theorem Turn.refl (w : World) (S : Nat → Prop) : Turn w w S := ⟨rfl, rfl, rfl, Nat.le_refl _, fun _ _ _ => rfl⟩
theorem Turn.of_below {w W : World} (h : Below w.heap.size w W) (S : Nat → Prop) : Turn w W S := ⟨h.os, h.tape, h.output, h.size, fun k hk _ => h.block k hk⟩
theorem Turn.mono {w W : World} {S S' : Nat → Prop} (h : Turn w W S) (hs : ∀ k, S k → S' k) : Turn w W S' := ⟨h.os, h.tape, h.output, h.size, fun k hk hn => h.block k hk (fun hS => hn (hs k hS))⟩
theorem Turn.trans {w W W2 : World} {S S2 : Nat → Prop} (h : Turn w W S) (k : Turn W W2 S2) (hs : ∀ k, S2 k → S k ∨ w.heap.size ≤ k) : Turn w W2 S :=
  ⟨k.os.trans h.os, k.tape.trans h.tape, k.output.trans h.output, Nat.le_trans h.size k.size, fun i hi hn => (k.block i (Nat.lt_of_lt_of_le hi h.size) (fun hS => by rcases hs i hS with h' | h'; exact hn h'; omega)).trans (h.block i hi hn)⟩
theorem Turn.below {w W W2 : World} {S : Nat → Prop} (h : Turn w W S) (hb : Below W.heap.size W W2) : Turn w W2 S := h.trans (Turn.of_below hb (fun _ => False)) (fun _ hk => hk.elim)
theorem Turn.grown {w W W2 : World} {S : Nat → Prop} {row : Option Nat} (h : Turn w W S) (hg : W.grownBy W2 row) (hr : ∀ k, row = some k → S k ∨ w.heap.size ≤ k) : Turn w W2 S :=
  h.trans (S2 := fun k => row = some k) ⟨hg.os, hg.tape, hg.output, hg.size, fun k hk hn => hg.block k hk (fun e => hn e.symm)⟩ (fun k hk => hr k hk)
theorem Turn.alloc {w W : World} {S : Nat → Prop} (h : Turn w W S) (o : Obj) : Turn w (W.alloc o) S := h.below (below_alloc (Below.refl _ _) o)
theorem Turn.setCell {w W : World} {S : Nat → Prop} (h : Turn w W S) {p : Addr} (hp : S p.block ∨ w.heap.size ≤ p.block) (u : Value) : Turn w (W.setCell p u) S :=
  h.trans (S2 := fun k => k = p.block) ⟨rfl, rfl, rfl, by simp, fun k _ hk => Below.heap_setCell W p u k hk⟩ (fun k hk => by rw [hk]; exact hp)
theorem Turn.to_below {w W w0 : World} {S : Nat → Prop} {B : Nat} (h : Turn w W S) (h0 : Below B w0 w) (hB : B ≤ w.heap.size) (hS : ∀ k, S k → B ≤ k) : Below B w0 W :=
  ⟨h.os.trans h0.os, h.tape.trans h0.tape, h.output.trans h0.output, Nat.le_trans h0.size h.size, fun k hk => (h.block k (Nat.lt_of_lt_of_le hk hB) (fun hs => by have := hS k hs; omega)).trans (h0.block k hk)⟩
theorem blk_turn {w W : World} {S : Nat → Prop} {g : Nat} {o : Obj} (hb : w.heap[g]? = some o) (h : Turn w W S) (hne : ¬ S g) : W.heap[g]? = some o := (h.block g (blk_lt hb) hne).trans hb
theorem F_turn {α : Type} {d : Kd α} {w W : World} {ok S : Nat → Prop} {A : Option Addr} {n : Nat} {xs : List α} (h : Kd.F d w ok A n xs) (ht : Turn w W S) (hne : ∀ k, ok k → k < w.heap.size → ¬ S k) : Kd.F d W ok A n xs := Kd.F_step h (fun k hk hlt => ht.block k hlt (hne k hk hlt))
def Cells (W : World) (g T : Nat) (vs : List Value) : Prop := ∃ cs : Array Value, W.heap[g]? = some (.cells cs T (0, 0)) ∧ ∀ (j : Nat) (v : Value), vs[j]? = some v → cs[j]? = some v
section
variable {W W' : World} {g T : Nat} {vs : List Value}
theorem Cells.mk' {cs : Array Value} (h : W.heap[g]? = some (.cells cs T (0, 0))) : Cells W g T cs.toList := ⟨cs, h, fun j v hv => by rwa [Array.getElem?_toList] at hv⟩
theorem Cells.lt (h : Cells W g T vs) : g < W.heap.size := by obtain ⟨cs, h, _⟩ := h; exact blk_lt h
theorem Cells.cell (h : Cells W g T vs) {i : Nat} {v : Value} (hv : vs[i]? = some v) : W.cell? ⟨g, i, none⟩ = some v := by
  obtain ⟨cs, h, hc⟩ := h
  rw [blk_cell h]
  exact hc i v hv
theorem Cells.frozen (h : Cells W g T vs) (i : Nat) : W.frozen? ⟨g, i, none⟩ = false := by obtain ⟨cs, h, _⟩ := h; exact blk_frozen h i
theorem Cells.same (h : Cells W g T vs) (he : W'.heap[g]? = W.heap[g]?) : Cells W' g T vs := by obtain ⟨cs, h, hc⟩ := h; exact ⟨cs, he.trans h, hc⟩
theorem Cells.below (h : Cells W g T vs) (hb : Below W.heap.size W W') : Cells W' g T vs := h.same (hb.block g h.lt)
theorem Cells.turn {S : Nat → Prop} (h : Cells W g T vs) (ht : Turn W W' S) (hne : ¬ S g) : Cells W' g T vs := h.same (ht.block g h.lt hne)
theorem Cells.far (h : Cells W g T vs) {p : Addr} (hne : g ≠ p.block) (u : Value) : Cells (W.setCell p u) g T vs := h.same (Below.heap_setCell W p u g hne)
theorem Cells.set (h : Cells W g T vs) (i : Nat) (u : Value) : Cells (W.setCell ⟨g, i, none⟩ u) g T (vs.set i u) := by
  obtain ⟨cs, h, hc⟩ := h
  refine ⟨_, blk_set h i u, fun j v hv => ?_⟩
  rw [List.getElem?_set] at hv
  rw [Array.getElem?_setIfInBounds]
  by_cases hij : i = j
  · subst hij
    rw [if_pos rfl] at hv
    by_cases hl : i < vs.length
    · rw [if_pos hl] at hv
      have hs := hc i _ (List.getElem?_eq_getElem hl)
      rw [if_pos rfl, if_pos (Array.getElem?_eq_some_iff.1 hs).1]
      exact hv
    · rw [if_neg hl] at hv; cases hv
  · rw [if_neg hij] at hv ⊢
    exact hc j v hv
theorem Cells.of_own {base n c : Nat} (h : W.ownsRow base T 1 (.slice (some ⟨g, 0, none⟩) n c) n vs) : Cells W g T vs := by
  rcases h.2 with ⟨h', _⟩ | ⟨g', cap', cur, h', _, hg, _, _, _, htake⟩
  · simp at h'
  · simp only [Value.slice.injEq, Option.some.injEq, Addr.mk.injEq, and_true, true_and] at h'
    obtain ⟨rfl, rfl⟩ := h'
    refine ⟨cur, hg, fun j v hv => ?_⟩
    rw [← htake, List.getElem?_take] at hv
    split at hv
    · rwa [Array.getElem?_toList] at hv
    · cases hv
end
end Go.Proofs.Ytnchdmidaigheaa.ND
namespace Go.Proofs.Ytnchdmidaigheaa.ND
set_option linter.unusedVariables false
set_option linter.unusedSimpArgs false
open Go.RowKit Go.Proofs.Ytnchdmidaigheaa.Hp Go.Proofs.YtnchdmidaigheaaW.PrintWords Go.Proofs.YtnchdmidaigheaaW.PrintLast Go.Proofs.YtnchdmidaigheaaW.PrintMore
structure Lay where
  g : Nat
  gm : Nat
  gp : Nat
  gn : Nat
  gw : Nat
  cm : Nat
  cp : Nat
  cn : Nat
  cw : Nat
  Af : Option Addr
  cf : Nat
def Lay.S (L : Lay) (k : Nat) : Prop := k = L.g ∨ k = L.gp ∨ k = L.gn ∨ k = L.gw
def Pages (W : World) (ok : Nat → Prop) (vs : List Value) (pages : List (List Int)) : Prop := vs.length = pages.length ∧ ∀ (i : Nat) (v : Value) (l : List Int), vs[i]? = some v → pages[i]? = some l → ∃ A c, v = .slice A 256 c ∧ 256 ≤ c ∧ Kd.F (Kd.int .u8) W ok A 256 l
def marks (D : Dv) : List Value := (List.range D.B.toNat).map fun (i : Nat) => .bool (D.mark (i : Int))
theorem marks_len (D : Dv) : (marks D).length = D.B.toNat := by unfold marks; rw [List.length_map, List.length_range]
def Lay.top (L : Lay) (D : Dv) : Array Value := #[.int .i64 D.B, .int .i64 D.P, .int .i64 D.C, .slice (some ⟨L.gm, 0, none⟩) (marks D).length L.cm, .slice (some ⟨L.gp, 0, none⟩) D.pages.length L.cp, .slice (some ⟨L.gn, 0, none⟩) D.next.length L.cn, .slice (some ⟨L.gw, 0, none⟩) D.wear.length L.cw, .slice L.Af D.faults.length L.cf, .int .i64 D.ops, .bool D.down]
structure DV (W : World) (ok : Nat → Prop) (L : Lay) (D : Dv) : Prop where
  top : W.heap[L.g]? = some (.cells (L.top D) 109 (0, 0))
  nx : Cells W L.gn 3 (D.next.map (Value.int .i64))
  we : Cells W L.gw 3 (D.wear.map (Value.int .i64))
  pg : ∃ vs, Cells W L.gp 38 vs ∧ Pages W ok vs D.pages
  mb : Cells W L.gm 4 (marks D)
  fl : Kd.F k65 W ok L.Af D.faults.length D.faults ∧ D.faults.length ≤ L.cf
  ne : L.gp ≠ L.g ∧ L.gn ≠ L.g ∧ L.gw ≠ L.g ∧ L.gp ≠ L.gn ∧ L.gp ≠ L.gw ∧ L.gn ≠ L.gw
  nm : ¬ L.S L.gm
  no : ∀ k, ok k → k < W.heap.size → ¬ L.S k
  ok : D.Ok
def Lay.all (L : Lay) (ok : Nat → Prop) (k : Nat) : Prop := ok k ∨ L.S k ∨ k = L.gm
theorem Pages.step {W W' : World} {ok : Nat → Prop} {vs : List Value} {pages : List (List Int)} (h : Pages W ok vs pages) (hm : ∀ k, ok k → k < W.heap.size → W'.heap[k]? = W.heap[k]?) : Pages W' ok vs pages :=
  ⟨h.1, fun i v l hv hl => by obtain ⟨A, c, h1, h2, h3⟩ := h.2 i v l hv hl; exact ⟨A, c, h1, h2, Kd.F_step h3 hm⟩⟩
theorem Pages.mono {W : World} {ok ok' : Nat → Prop} {vs : List Value} {pages : List (List Int)} (h : Pages W ok vs pages) (ho : ∀ k, ok k → ok' k) : Pages W ok' vs pages :=
  ⟨h.1, fun i v l hv hl => by obtain ⟨A, c, h1, h2, h3⟩ := h.2 i v l hv hl; exact ⟨A, c, h1, h2, Kd.F_mono h3 ho⟩⟩
theorem Pages.bound {W : World} {ok : Nat → Prop} {vs : List Value} {pages : List (List Int)} (h : Pages W ok vs pages) : Pages W (fun k => ok k ∧ k < W.heap.size) vs pages :=
  ⟨h.1, fun i v l hv hl => by obtain ⟨A, c, h1, h2, h3⟩ := h.2 i v l hv hl; exact ⟨A, c, h1, h2, Kd.F_bound h3⟩⟩
theorem Pages.set {W : World} {ok : Nat → Prop} {vs : List Value} {pages : List (List Int)} (h : Pages W ok vs pages) (i : Nat) {A : Option Addr} {c : Nat} {l : List Int} (hc : 256 ≤ c) (hF : Kd.F (Kd.int .u8) W ok A 256 l) : Pages W ok (vs.set i (.slice A 256 c)) (pages.set i l) := by
  refine ⟨by rw [List.length_set, List.length_set]; exact h.1, fun j v x hv hx => ?_⟩
  rw [List.getElem?_set] at hv hx
  by_cases hij : i = j
  · subst hij
    rw [if_pos rfl] at hv hx
    have hl : i < vs.length := by
      by_cases hl : i < vs.length
      · exact hl
      · rw [if_neg hl] at hv; cases hv
    rw [if_pos hl] at hv
    rw [if_pos (by have := h.1; omega)] at hx
    obtain rfl := Option.some.inj hv
    obtain rfl := Option.some.inj hx
    exact ⟨A, c, rfl, hc, hF⟩
  · rw [if_neg hij] at hv hx
    exact h.2 j v x hv hx
section
variable {W W' : World} {ok : Nat → Prop} {L : Lay} {D : Dv}
theorem DV.step (h : DV W ok L D) (hs : W.heap.size ≤ W'.heap.size) (hm : ∀ k, L.all ok k → k < W.heap.size → W'.heap[k]? = W.heap[k]?) (hn : ∀ k, ok k → k < W'.heap.size → ¬ L.S k) : DV W' ok L D where
  top := (hm _ (.inr (.inl (.inl rfl))) (blk_lt h.top)).trans h.top
  nx := h.nx.same (hm _ (.inr (.inl (.inr (.inr (.inl rfl))))) h.nx.lt)
  we := h.we.same (hm _ (.inr (.inl (.inr (.inr (.inr rfl))))) h.we.lt)
  pg := by
    obtain ⟨vs, h1, h2⟩ := h.pg
    exact ⟨vs, h1.same (hm _ (.inr (.inl (.inr (.inl rfl)))) h1.lt), h2.step (fun k hk hl => hm k (.inl hk) hl)⟩
  mb := h.mb.same (hm _ (.inr (.inr rfl)) h.mb.lt)
  fl := ⟨Kd.F_step h.fl.1 (fun k hk hl => hm k (.inl hk) hl), h.fl.2⟩
  ne := h.ne
  nm := h.nm
  no := hn
  ok := h.ok
theorem DV.lt (h : DV W ok L D) : ∀ k, L.S k → k < W.heap.size := by
  rintro k (rfl | rfl | rfl | rfl)
  · exact blk_lt h.top
  · obtain ⟨vs, h1, _⟩ := h.pg; exact h1.lt
  · exact h.nx.lt
  · exact h.we.lt
theorem DV.turn {S : Nat → Prop} (h : DV W ok L D) (ht : Turn W W' S) (hS : ∀ k, L.all ok k → k < W.heap.size → ¬ S k) : DV W' ok L D :=
  h.step ht.size (fun k hk hl => ht.block k hl (hS k hk hl)) (fun k hk _ hS' => h.no k hk (h.lt k hS') hS')
theorem DV.below (h : DV W ok L D) (hb : Below W.heap.size W W') : DV W' ok L D := h.turn (Turn.of_below hb (fun _ => False)) (fun _ _ _ hf => hf)
theorem DV.mono {ok' : Nat → Prop} (h : DV W ok L D) (ho : ∀ k, ok k → ok' k) (hn : ∀ k, ok' k → k < W.heap.size → ¬ L.S k) : DV W ok' L D where
  top := h.top
  nx := h.nx
  we := h.we
  pg := by obtain ⟨vs, h1, h2⟩ := h.pg; exact ⟨vs, h1, h2.mono ho⟩
  mb := h.mb
  fl := ⟨Kd.F_mono h.fl.1 ho, h.fl.2⟩
  ne := h.ne
  nm := h.nm
  no := hn
  ok := h.ok
theorem DV.bound (h : DV W ok L D) : DV W (fun k => ok k ∧ k < W.heap.size) L D where
  top := h.top
  nx := h.nx
  we := h.we
  pg := by obtain ⟨vs, h1, h2⟩ := h.pg; exact ⟨vs, h1, h2.bound⟩
  mb := h.mb
  fl := ⟨Kd.F_bound h.fl.1, h.fl.2⟩
  ne := h.ne
  nm := h.nm
  no := fun k hk hl => h.no k hk.1 hl
  ok := h.ok
end
def newer (W : World) (ok : Nat → Prop) (k : Nat) : Prop := ok k ∨ W.heap.size ≤ k
end Go.Proofs.Ytnchdmidaigheaa.ND
namespace Go.Proofs.Ytnchdmidaigheaa.ND
set_option linter.unusedVariables false
set_option linter.unusedSimpArgs false
open Go.RowKit Go.Proofs.Ytnchdmidaigheaa.Hp Go.Proofs.YtnchdmidaigheaaW.PrintWords Go.Proofs.YtnchdmidaigheaaW.PrintLast Go.Proofs.YtnchdmidaigheaaW.PrintMore
theorem top_cells {W : World} {ok : Nat → Prop} {L : Lay} {D : Dv} (h : DV W ok L D) :
    W.cell? ⟨L.g, 0, none⟩ = some (.int .i64 D.B) ∧ W.cell? ⟨L.g, 1, none⟩ = some (.int .i64 D.P) ∧ W.cell? ⟨L.g, 2, none⟩ = some (.int .i64 D.C) ∧ W.cell? ⟨L.g, 3, none⟩ = some (.slice (some ⟨L.gm, 0, none⟩) (marks D).length L.cm) ∧
    W.cell? ⟨L.g, 4, none⟩ = some (.slice (some ⟨L.gp, 0, none⟩) D.pages.length L.cp) ∧ W.cell? ⟨L.g, 5, none⟩ = some (.slice (some ⟨L.gn, 0, none⟩) D.next.length L.cn) ∧ W.cell? ⟨L.g, 6, none⟩ = some (.slice (some ⟨L.gw, 0, none⟩) D.wear.length L.cw) ∧
    W.cell? ⟨L.g, 7, none⟩ = some (.slice L.Af D.faults.length L.cf) ∧ W.cell? ⟨L.g, 8, none⟩ = some (.int .i64 D.ops) ∧ W.cell? ⟨L.g, 9, none⟩ = some (.bool D.down) :=
  ⟨blk_cell h.top 0, blk_cell h.top 1, blk_cell h.top 2, blk_cell h.top 3, blk_cell h.top 4, blk_cell h.top 5, blk_cell h.top 6, blk_cell h.top 7, blk_cell h.top 8, blk_cell h.top 9⟩
set_option maxHeartbeats 1000000 in
set_option maxRecDepth 100000 in
theorem there_calls {W : World} {ok : Nat → Prop} {L : Lay} {D : Dv} (h : DV W ok L D) (b : Int) :
    Calls Try.prog 62 #[.pointer (some ⟨L.g, 0, none⟩), .int .i64 b] W fun e w' => e = .returned (.bool (D.there b)) ∧ Below W.heap.size W w' := by
  obtain ⟨c0, -⟩ := top_cells h
  clear h
  obtain ⟨t, ht⟩ : ∃ t, t = D.there b := ⟨_, rfl⟩
  rw [← ht]
  unfold Dv.there at ht
  generalize L.g = g at c0 ⊢
  have B0 := Aside0.mk (Below.refl W.heap.size W)
  cases hb : decide (b ≥ 0) with
  | false =>
    rw [hb] at ht
    subst ht
    go_enter Try.func62, Try.ntmps62
    go_wp2_with fail
    go_ret
    exact ⟨rfl, B0.out⟩
  | true =>
    rw [hb, Bool.true_and] at ht
    rw [ht]
    clear ht
    go_enter Try.func62, Try.ntmps62
    go_wp2_with fail
    go_ret
    exact ⟨rfl, B0.out⟩
theorem marks_at {D : Dv} {n : Nat} (h : (n : Int) < D.B) : (marks D)[n]? = some (.bool (D.mark (n : Int))) := by
  unfold marks
  rw [List.getElem?_map, List.getElem?_range (by omega)]
  rfl
theorem ints_at {l : List Int} {n : Nat} (h : n < l.length) : (l.map (Value.int .i64))[n]? = some (.int .i64 (l.getD n 0)) := by
  rw [List.getElem?_map, List.getD_eq_getElem?_getD, List.getElem?_eq_getElem h]
  rfl
set_option maxHeartbeats 1000000 in
set_option maxRecDepth 100000 in
theorem ops_calls {W : World} {ok : Nat → Prop} {L : Lay} {D : Dv} (h : DV W ok L D) :
    Calls Try.prog 32 #[.pointer (some ⟨L.g, 0, none⟩)] W fun e w' => e = .returned (.int .i64 D.ops) ∧ Below W.heap.size W w' := by
  have c8 := (top_cells h).2.2.2.2.2.2.2.2.1
  have B0 := Aside0.mk (Below.refl W.heap.size W)
  clear h
  go_enter Try.func32, Try.ntmps32
  go_wp2_with fail
  go_ret
  exact ⟨rfl, B0.out⟩
set_option maxHeartbeats 1000000 in
set_option maxRecDepth 100000 in
theorem up_calls {W : World} {ok : Nat → Prop} {L : Lay} {D : Dv} (h : DV W ok L D) :
    Calls Try.prog 63 #[.pointer (some ⟨L.g, 0, none⟩)] W fun e w' => e = .returned (.int .i64 (if D.down = true then 9 else 0)) ∧ Below W.heap.size W w' := by
  have c9 := (top_cells h).2.2.2.2.2.2.2.2.2
  have B0 := Aside0.mk (Below.refl W.heap.size W)
  clear h
  cases hd : D.down with
  | true =>
    rw [hd] at c9
    clear hd
    go_enter Try.func63, Try.ntmps63
    go_wp2_with fail
    go_ret
    exact ⟨rfl, B0.out⟩
  | false =>
    rw [hd] at c9
    clear hd
    go_enter Try.func63, Try.ntmps63
    go_wp2_with fail
    go_ret
    exact ⟨rfl, B0.out⟩
end Go.Proofs.Ytnchdmidaigheaa.ND
namespace Go.Proofs.Ytnchdmidaigheaa.ND
set_option linter.unusedVariables false
set_option linter.unusedSimpArgs false
open Go.RowKit Go.Proofs.Ytnchdmidaigheaa.Hp Go.Proofs.YtnchdmidaigheaaW.PrintWords Go.Proofs.YtnchdmidaigheaaW.PrintLast Go.Proofs.YtnchdmidaigheaaW.PrintMore
section
variable {W : World} {ok : Nat → Prop} {L : Lay} {D : Dv}
theorem DV.ro (h : DV W ok L D) {p : Addr} (hp : L.S p.block) (u : Value) : ∀ k, ok k → k < W.heap.size → (W.setCell p u).heap[k]? = W.heap[k]? := fun k hk hl => Below.heap_setCell W p u k (fun e => h.no k hk hl (e ▸ hp))
theorem gm_ne (h : DV W ok L D) : L.gm ≠ L.g ∧ L.gm ≠ L.gp ∧ L.gm ≠ L.gn ∧ L.gm ≠ L.gw := ⟨fun e => h.nm (.inl e), fun e => h.nm (.inr (.inl e)), fun e => h.nm (.inr (.inr (.inl e))), fun e => h.nm (.inr (.inr (.inr e)))⟩
theorem DV.set_down (h : DV W ok L D) (x : Bool) : DV (W.setCell ⟨L.g, 9, none⟩ (.bool x)) ok L { D with down := x } where
  top := blk_put h.top 9 (.bool x) rfl
  nx := h.nx.far h.ne.2.1 _
  we := h.we.far h.ne.2.2.1 _
  pg := by obtain ⟨vs, h1, h2⟩ := h.pg; exact ⟨vs, h1.far h.ne.1 _, h2.step (h.ro (.inl rfl) _)⟩
  mb := h.mb.far (gm_ne h).1 _
  fl := ⟨Kd.F_step h.fl.1 (h.ro (.inl rfl) _), h.fl.2⟩
  ne := h.ne
  nm := h.nm
  no := fun k hk hl => h.no k hk (by simpa using hl)
  ok := { h.ok with }
theorem DV.set_ops (h : DV W ok L D) (x : Int) : DV (W.setCell ⟨L.g, 8, none⟩ (.int .i64 x)) ok L { D with ops := x } where
  top := blk_put h.top 8 (.int .i64 x) rfl
  nx := h.nx.far h.ne.2.1 _
  we := h.we.far h.ne.2.2.1 _
  pg := by obtain ⟨vs, h1, h2⟩ := h.pg; exact ⟨vs, h1.far h.ne.1 _, h2.step (h.ro (.inl rfl) _)⟩
  mb := h.mb.far (gm_ne h).1 _
  fl := ⟨Kd.F_step h.fl.1 (h.ro (.inl rfl) _), h.fl.2⟩
  ne := h.ne
  nm := h.nm
  no := fun k hk hl => h.no k hk (by simpa using hl)
  ok := { h.ok with }
theorem DV.set_next (h : DV W ok L D) (n : Nat) (x : Int) (hx : 0 ≤ x ∧ x ≤ D.P) : DV (W.setCell ⟨L.gn, n, none⟩ (.int .i64 x)) ok L { D with next := D.next.set n x } where
  top := by
    have := blk_far h.top (p := ⟨L.gn, n, none⟩) h.ne.2.1.symm (.int .i64 x)
    rw [this]
    unfold Lay.top
    simp only [List.length_set]
    rfl
  nx := by
    have := h.nx.set n (.int .i64 x)
    rwa [← List.map_set] at this
  we := h.we.far (p := ⟨L.gn, n, none⟩) h.ne.2.2.2.2.2.symm _
  pg := by obtain ⟨vs, h1, h2⟩ := h.pg; exact ⟨vs, h1.far (p := ⟨L.gn, n, none⟩) h.ne.2.2.2.1 _, h2.step (h.ro (.inr (.inr (.inl rfl))) _)⟩
  mb := h.mb.far (p := ⟨L.gn, n, none⟩) (gm_ne h).2.2.1 _
  fl := ⟨Kd.F_step h.fl.1 (h.ro (.inr (.inr (.inl rfl))) _), h.fl.2⟩
  ne := h.ne
  nm := h.nm
  no := fun k hk hl => h.no k hk (by simpa using hl)
  ok := { h.ok with
    nl := by show ((D.next.set _ _).length : Int) = _; rw [List.length_set]; exact h.ok.nl
    nr := fun y hy => by
      rcases List.mem_or_eq_of_mem_set hy with h' | h'
      · exact h.ok.nr y h'
      · rw [h']; exact hx }
theorem DV.set_wear (h : DV W ok L D) (n : Nat) (x : Int) (hx : -9223372036854775808 ≤ x ∧ x ≤ 9223372036854775807) : DV (W.setCell ⟨L.gw, n, none⟩ (.int .i64 x)) ok L { D with wear := D.wear.set n x } where
  top := by
    have := blk_far h.top (p := ⟨L.gw, n, none⟩) h.ne.2.2.1.symm (.int .i64 x)
    rw [this]
    unfold Lay.top
    simp only [List.length_set]
    rfl
  nx := h.nx.far (p := ⟨L.gw, n, none⟩) h.ne.2.2.2.2.2 _
  we := by
    have := h.we.set n (.int .i64 x)
    rwa [← List.map_set] at this
  pg := by obtain ⟨vs, h1, h2⟩ := h.pg; exact ⟨vs, h1.far (p := ⟨L.gw, n, none⟩) h.ne.2.2.2.2.1 _, h2.step (h.ro (.inr (.inr (.inr rfl))) _)⟩
  mb := h.mb.far (p := ⟨L.gw, n, none⟩) (gm_ne h).2.2.2 _
  fl := ⟨Kd.F_step h.fl.1 (h.ro (.inr (.inr (.inr rfl))) _), h.fl.2⟩
  ne := h.ne
  nm := h.nm
  no := fun k hk hl => h.no k hk (by simpa using hl)
  ok := { h.ok with
    wl := by show ((D.wear.set _ _).length : Int) = _; rw [List.length_set]; exact h.ok.wl
    wr := fun y hy => by
      rcases List.mem_or_eq_of_mem_set hy with h' | h'
      · exact h.ok.wr y h'
      · rw [h']; exact hx }
theorem DV.set_page (h : DV W ok L D) (n : Nat) {A : Option Addr} {c : Nat} {l : List Int} (hc : 256 ≤ c) (hF : Kd.F (Kd.int .u8) W ok A 256 l) (hl : isBytes l ∧ l.length = 256) : DV (W.setCell ⟨L.gp, n, none⟩ (.slice A 256 c)) ok L { D with pages := D.pages.set n l } where
  top := by
    have := blk_far h.top (p := ⟨L.gp, n, none⟩) h.ne.1.symm (.slice A 256 c)
    rw [this]
    unfold Lay.top
    simp only [List.length_set]
    rfl
  nx := h.nx.far (p := ⟨L.gp, n, none⟩) h.ne.2.2.2.1.symm _
  we := h.we.far (p := ⟨L.gp, n, none⟩) h.ne.2.2.2.2.1.symm _
  pg := by
    obtain ⟨vs, h1, h2⟩ := h.pg
    exact ⟨_, h1.set n _, (h2.set n hc hF).step (h.ro (.inr (.inl rfl)) _)⟩
  mb := h.mb.far (p := ⟨L.gp, n, none⟩) (gm_ne h).2.1 _
  fl := ⟨Kd.F_step h.fl.1 (h.ro (.inr (.inl rfl)) _), h.fl.2⟩
  ne := h.ne
  nm := h.nm
  no := fun k hk hl => h.no k hk (by simpa using hl)
  ok := { h.ok with
    pl := by show ((D.pages.set _ _).length : Int) = _; rw [List.length_set]; exact h.ok.pl
    pw := fun y hy => by
      rcases List.mem_or_eq_of_mem_set hy with h' | h'
      · exact h.ok.pw y h'
      · rw [h']; exact hl }
end
set_option maxHeartbeats 1000000 in
set_option maxRecDepth 100000 in
theorem power_calls {W : World} {ok : Nat → Prop} {L : Lay} {D : Dv} (h : DV W ok L D) :
    Calls Try.prog 19 #[.pointer (some ⟨L.g, 0, none⟩)] W fun e w' => e = .returned (.tuple #[]) ∧ DV w' ok L D.power ∧ Turn W w' L.S := by
  have HD := Aside0.mk (h.set_down false)
  have HT := Aside0.mk ((Turn.refl W L.S).setCell (p := ⟨L.g, 9, none⟩) (.inl (.inl rfl)) (.bool false))
  have c9 := (top_cells h).2.2.2.2.2.2.2.2.2
  have f9 := blk_frozen h.top 9
  clear h
  go_enter Try.func19, Try.ntmps19
  go_wp2_with fail
  go_end0
  exact ⟨rfl, HD.out, HT.out⟩
set_option maxHeartbeats 1000000 in
set_option maxRecDepth 100000 in
theorem end_calls {W : World} {ok : Nat → Prop} {L : Lay} {D : Dv} (h : DV W ok L D) (hd : D.down = false) (k : Int) (hk : k = 0 ∨ k = 1 ∨ k = 2) :
    Calls Try.prog 68 #[.pointer (some ⟨L.g, 0, none⟩), .int .i64 k] W fun e w' => e = .returned (.int .i64 (ended k)) ∧ DV w' ok L { D with down := k == 2 } ∧ Turn W w' L.S := by
  have HS : Aside0 (D = { D with down := false }) := ⟨by rw [← hd]⟩
  rcases hk with rfl | rfl | rfl
  · have H := Aside0.mk h
    have HT := Aside0.mk (Turn.refl W L.S)
    clear h hd
    go_enter Try.func68, Try.ntmps68
    go_wp2_with fail
    go_ret
    exact ⟨rfl, HS.out ▸ H.out, HT.out⟩
  · have H := Aside0.mk h
    have HT := Aside0.mk (Turn.refl W L.S)
    clear h hd
    go_enter Try.func68, Try.ntmps68
    go_wp2_with fail
    go_ret
    exact ⟨rfl, HS.out ▸ H.out, HT.out⟩
  · have HD := Aside0.mk (h.set_down true)
    have HT := Aside0.mk ((Turn.refl W L.S).setCell (p := ⟨L.g, 9, none⟩) (.inl (.inl rfl)) (.bool true))
    have c9 := (top_cells h).2.2.2.2.2.2.2.2.2
    have f9 := blk_frozen h.top 9
    clear h hd
    go_enter Try.func68, Try.ntmps68
    go_wp2_with fail
    go_ret
    exact ⟨rfl, HD.out, HT.out⟩
end Go.Proofs.Ytnchdmidaigheaa.ND
namespace Go.Proofs.Ytnchdmidaigheaa.Hp
open Go.RowKit Go.Proofs.YtnchdmidaigheaaW.PrintWords Go.Proofs.YtnchdmidaigheaaW.PrintLast Go.Proofs.YtnchdmidaigheaaW.PrintMore
attribute [local go_sem] max2_int min2_int max_two min_two max_three min_three max_four min_four   -- for this text's walks alone
set_option linter.unusedVariables false
set_option linter.unusedSimpArgs false
def zeros_Ones.l0 : Nat → List Int → Int → Int → Option (List Int)
  | 0, _, _, _ => none
  | k + 1, x3, x5, x6 => if x6 < x5 then (if x3.length < 140737488355328 then (zeros_Ones.l0 k (x3 ++ [255]) x5 (wrap64 (x6 + 1))) else (none)) else (some x3)
def zeros_Ones.f (k : Nat) (a0 : Int) : Option (List Int) := zeros_Ones.l0 k ([] : List Int) (mn a0 1048576) 0
theorem zeros_Ones.mono_l : ∀ k, (∀ y0 y1 y2, LeO (zeros_Ones.l0 k y0 y1 y2) (zeros_Ones.l0 (k + 1) y0 y1 y2))
  | 0 => fun _ _ _ r h => by simp [zeros_Ones.l0] at h
  | k + 1 => by
    have ih0 := zeros_Ones.mono_l k
    · intro y0 y1 y2
      unfold zeros_Ones.l0
      repeat' first
      | (with_reducible exact ih0 _ _ _)
      | (with_reducible exact LeO.refl _)
      | (with_reducible exact LeO.none _)
      | (with_reducible refine LeO.ite ?_ ?_)
      | (with_reducible refine LeO.bind ?_ (fun _ => ?_))
      | exact ih0 _ _ _
      | exact LeO.none _
      | refine LeO.ite ?_ ?_
      | refine LeO.bind ?_ (fun _ => ?_)
theorem zeros_Ones.mono : ∀ a0 k, LeO (zeros_Ones.f k a0) (zeros_Ones.f (k + 1) a0) := by
  intro a0 k
  have ih0 := zeros_Ones.mono_l k
  unfold zeros_Ones.f
  repeat' first
      | (with_reducible exact ih0 _ _ _)
      | (with_reducible exact LeO.refl _)
      | (with_reducible exact LeO.none _)
      | (with_reducible refine LeO.ite ?_ ?_)
      | (with_reducible refine LeO.bind ?_ (fun _ => ?_))
      | exact ih0 _ _ _
      | exact LeO.none _
      | refine LeO.ite ?_ ?_
      | refine LeO.bind ?_ (fun _ => ?_)
set_option maxHeartbeats 8000000 in
set_option maxRecDepth 100000 in
theorem zeros_Ones.calls (k : Nat) (a0 : Int) (r : List Int) (w : World) (h : zeros_Ones.f k a0 = some r) :
    Calls Try.prog 61 #[.int .i64 a0] w fun e w' => ∃ v0_ : Value, e = .returned (v0_) ∧ Kd.R (Kd.int .u8) 5 w' w.heap.size (fun _ => True) v0_ r ∧ Below w.heap.size w w' := by
  have HB := Aside0.mk (Below.refl w.heap.size w)
  have H : (zeros_Ones.l0 k ([] : List Int) (mn a0 1048576) 0) = some r := h
  clear h
  obtain ⟨ji2, hji2⟩ : ∃ j_ : Int, (mn a0 1048576) = j_ := ⟨_, rfl⟩
  replace H : (zeros_Ones.l0 k ([] : List Int) ji2 0) = some r := by first | (rw [hji2] at H; exact H) | (simp only [hji2] at H ⊢; exact H)
  (try (have hji2h : ji2 ≤ 1048576 := by (rw [← hji2]; unfold mn; (repeat' split) <;> omega)))
  (try (have hji2g : ji2 ≤ 64 := by omega))
  have hji2_ : (if 1048576 < a0 then 1048576 else a0) = ji2 := hji2
  have H' := Aside0.mk H
  clear H
  go_enter Try.func61, Try.ntmps61
  go_wp2
  go_loopg [3, 6] k (fun kq v3 v6 w' => ∃ (x3_1 : List Int) (x6_1 : Int), v6 = .int .i64 x6_1 ∧ Aside0 (zeros_Ones.l0 kq x3_1 ji2 x6_1 = some r) ∧ Aside0 (kq ≤ k) ∧ Aside0 (Kd.R (Kd.int .u8) 5 w' w.heap.size (fun _ => True) v3 x3_1) ∧ Aside0 (Below w.heap.size w w'))
  case atStart => exact ⟨(([] : List Int)), (0), (by first | rfl | (simp; done) | (simp [*]; done)), H', ⟨Nat.le_refl _⟩, ⟨by first | exact Kd.R_nil _ _ _ _ _ | exact Kd.N_nil _ _ _ _ _ | exact Kd.V_nil _ _ _ _ _ | exact Kd.Q_nil _ _ _ _ _ | exact Kd.S_nil _ _ _ _ _⟩, ⟨by repeat (first | (with_reducible first | exact HB.out | apply below_alloc | apply pw_below_drewN | apply below_drew1) | exact HB.out)⟩⟩
  case round =>
    clear H'
    try clear p2
    obtain ⟨x3_1, x6_1, rfl, HA, HK1, HO_3, HB⟩ := hrel
    cases gk with
    | zero => exact absurd HA.out (by simp [zeros_Ones.l0])
    | succ k1 =>
      have H := HA.out
      clear HA
      simp only [zeros_Ones.l0] at H
      by_cases c3 : x6_1 < ji2
      · rw [if_pos c3] at H
        have c3b0 : decide (x6_1 < ji2) = true := decide_eq_true c3
        clear c3
        by_cases c4 : x3_1.length < 140737488355328
        · rw [if_pos c4] at H
          have LMc4 := Aside0.mk c4
          clear c4
          obtain ⟨y104, hy104⟩ : ∃ y_ : List Int, y_ = (x3_1 ++ [255]) := ⟨_, rfl⟩
          replace H : (zeros_Ones.l0 k1 y104 ji2 (wrap64 (x6_1 + 1))) = some r := by first | (rw [hy104]; with_reducible exact H) | (have H2_ := (Option.bind_some _ _).symm.trans H; rw [hy104]; with_reducible exact H2_) | (have H2_ := (Option.bind_some _ _).symm.trans H; with_reducible exact H2_) | with_reducible exact H | (rw [hy104]; exact H) | exact H
          have Ny104 := Aside0.mk hy104
          clear hy104
          have H' := Aside0.mk H
          clear H
          go_wp2_with (first | ((with_reducible refine gate_builtin (b := .append) (xs := #[.tmp 8, .tmp 9]) rfl ?_); at_builtin; refine Kd.R_append (Kd.int .u8) (w0 := w) w.heap.size rfl (.tmp 8) (.tmp 9) 38 5 (.int .u8 0) 1 rfl Try.underlying38 info5 rfl (by decide) (by omega) u3 x3_1 255 [.int .u8 255] (fun _ => True) (fun _ => False) rfl rfl ?aP (fun _ hk => hk.elim) ?aF ?aO ?aB ?aS ?aL ?_; (case aP => exact rfl); (case aB => exact (by repeat (first | (with_reducible first | exact HB.out | apply below_alloc | apply pw_below_drewN | apply below_drew1) | exact HB.out))); (case aF => exact (fun _ _ => trivial)); (case aO => exact (by (with_reducible repeat (first | apply Kd.R_alloc | apply Kd.R_drewN | apply Kd.R_drew)); exact HO_3.out)); (case aS => exact (below_size (by repeat (first | (with_reducible first | exact HB.out | apply below_alloc | apply pw_below_drewN | apply below_drew1) | exact HB.out)))); (case aL => have := LMc4.out; omega); intro v105 w5 ho hb hg hat; rw [← Ny104.out] at ho; have n0_ := Aside0.mk (hb); have n1_ := Aside0.mk (ho); clear HB; clear HO_3; have HB := n0_; have HO106 := n1_; clear n0_ n1_; clear ho hb hg hat))
          go_roundg k1
          case measure => have := HK1.out; omega
          case rel => exact ⟨(y104), (wrap64 (x6_1 + 1)), (by first | rfl | (simp; done) | (simp [*]; done)), H', ⟨by have := HK1.out; omega⟩, ⟨by (with_reducible repeat (first | apply Kd.R_alloc | apply Kd.R_drewN | apply Kd.R_drew)); exact HO106.out⟩, ⟨by repeat (first | (with_reducible first | exact HB.out | apply below_alloc | apply pw_below_drewN | apply below_drew1) | exact HB.out)⟩⟩
        · rw [if_neg c4] at H
          exact absurd H (by simp)
      · rw [if_neg c3] at H
        have c3b0 : decide (x6_1 < ji2) = false := decide_eq_false c3
        clear c3
        obtain rfl := Option.some.inj H
        go_wp2
        go_ret
        exact ⟨_, by first | rfl | (simp [errW_none, errW_some] <;> rfl) | (simp only [← hji2]; first | rfl | (simp [errW_none, errW_some] <;> rfl)) | (simp [*, errW_none, errW_some] <;> rfl), by (with_reducible repeat (first | apply Kd.R_alloc | apply Kd.R_drewN | apply Kd.R_drew)); exact HO_3.out, by repeat (first | (with_reducible first | exact HB.out | apply below_alloc | apply pw_below_drewN | apply below_drew1) | exact HB.out)⟩
def zeros_Mask.f (l0 : List Int) (a1 : Int) : Option (Int) := if a1 < 0 then (some 0) else (if (l0.length : Int) = 0 then (some 0) else (if 0 ≤ (Int.tmod a1 (l0.length : Int)) then (if (Int.tmod a1 (l0.length : Int)) < (l0.length : Int) then (some (rd l0 (Int.tmod a1 (l0.length : Int)))) else (none)) else (none)))
set_option maxHeartbeats 8000000 in
set_option maxRecDepth 100000 in
theorem zeros_Mask.calls (A0 : Option Addr) (c0 : Nat) (l0 : List Int) (a1 : Int) (r : Int) (w : World) (hr0 : Kd.C (Kd.int .u8) w A0 l0.length l0) (hc0 : l0.length ≤ c0) (h : zeros_Mask.f l0 a1 = some r) :
    Calls Try.prog 104 #[.slice A0 l0.length c0, .int .i64 a1] w fun e w' => e = .returned (.int .u8 r) ∧ Drawn0 w w' := by
  have HR0 := Aside0.mk hr0
  have HC0 := Aside0.mk hc0
  clear hr0 hc0
  have H : (if a1 < 0 then (some 0) else (if (l0.length : Int) = 0 then (some 0) else (if 0 ≤ (Int.tmod a1 (l0.length : Int)) then (if (Int.tmod a1 (l0.length : Int)) < (l0.length : Int) then (some (rd l0 (Int.tmod a1 (l0.length : Int)))) else (none)) else (none)))) = some r := h
  clear h
  by_cases c3 : a1 < 0
  · rw [if_pos c3] at H
    have c3b0 : decide (a1 < 0) = true := decide_eq_true c3
    clear c3
    obtain rfl := Option.some.inj H
    go_enter Try.func104, Try.ntmps104
    go_wp2
    go_ret
    exact ⟨by first | rfl | (simp; done) | (simp [*]; done), by repeat (first | exact Drawn0.refl _ | apply Drawn0.step)⟩
  · rw [if_neg c3] at H
    have c3b0 : decide (a1 < 0) = false := decide_eq_false c3
    clear c3
    by_cases c4 : (l0.length : Int) = 0
    · rw [if_pos c4] at H
      have c4b0 : ((l0.length : Int) == 0) = true := beq_iff_eq.mpr c4
      have c4b1 : ((l0.length : Int) != 0) = false := bne_eq_false_iff_eq.mpr c4
      clear c4
      obtain rfl := Option.some.inj H
      go_enter Try.func104, Try.ntmps104
      go_wp2
      go_ret
      exact ⟨by first | rfl | (simp; done) | (simp [*]; done), by repeat (first | exact Drawn0.refl _ | apply Drawn0.step)⟩
    · rw [if_neg c4] at H
      have c4b0 : ((l0.length : Int) == 0) = false := beq_eq_false_iff_ne.mpr c4
      have c4b1 : ((l0.length : Int) != 0) = true := bne_iff_ne.mpr c4
      have c4b2 : ¬ (l0 = []) := fun h_ => c4 (by rw [h_]; rfl)
      obtain ⟨ji5, hji5⟩ : ∃ j_ : Int, (Int.tmod a1 (l0.length : Int)) = j_ := ⟨_, rfl⟩
      replace H : (if 0 ≤ (ji5) then (if (ji5) < (l0.length : Int) then (some (rd l0 (ji5))) else (none)) else (none)) = some r := by first | (rw [hji5] at H; exact H) | (simp only [hji5] at H ⊢; exact H)
      by_cases c6 : 0 ≤ (ji5)
      · rw [if_pos c6] at H
        have c6b0 : decide (0 ≤ (ji5)) = true := decide_eq_true c6
        clear c6
        by_cases c7 : (ji5) < (l0.length : Int)
        · rw [if_pos c7] at H
          have c7b0 : decide ((ji5) < (l0.length : Int)) = true := decide_eq_true c7
          clear c7
          obtain rfl := Option.some.inj H
          have p112 : 0 ≤ ((ji5) : Int) := of_decide_eq_true (by first | (with_reducible assumption) | assumption)
          have q112 : (ji5) < (l0.length : Int) := of_decide_eq_true (by first | (with_reducible assumption) | assumption)
          obtain ⟨ad112, e112, hx112_0⟩ := Kd.at_int HR0.out (ji5) p112 q112
          cases e112
          replace p112 := eq_true p112
          replace q112 := eq_true q112
          go_enter Try.func104, Try.ntmps104
          go_wp2
          go_ret
          exact ⟨by first | rfl | (simp; done) | (simp only [← hji5] <;> (first | rfl | simp)) | (simp [*]; done), by repeat (first | exact Drawn0.refl _ | apply Drawn0.step)⟩
        · rw [if_neg c7] at H
          exact absurd H (by simp)
      · rw [if_neg c6] at H
        exact absurd H (by simp)
end Go.Proofs.Ytnchdmidaigheaa.Hp
namespace Go.Proofs.Ytnchdmidaigheaa.ND
set_option linter.unusedVariables false
set_option linter.unusedSimpArgs false
open Go.RowKit Go.Proofs.Ytnchdmidaigheaa.Hp Go.Proofs.YtnchdmidaigheaaW.PrintWords Go.Proofs.YtnchdmidaigheaaW.PrintLast Go.Proofs.YtnchdmidaigheaaW.PrintMore
def begin7.T7 : Bool × List (List Nat × List Nat) := (true, [([], []), ([0], [0]), ([], []), ([2], [2]), ([1, 0, 1], [1]), ([3, 4, 0, 1, 2, 3, 4], [3])])
def begin7.B7 : List Nat := [0, 1, 0, 4, 3, 31]
theorem begin7.tab7 : rtab .any (opsOf Try.f64 7) = begin7.T7 := by kernel_rfl
theorem begin7.bits7 : waitsOk begin7.T7.2 begin7.B7 = true := by kernel_rfl
theorem fresh_F {d : Kd Int} {e : Nat} {w w' : World} {v : Value} {xs : List Int} (h : d.R e w' w.heap.size (fun _ => True) v xs) (ok : Nat → Prop) : ∃ A c, v = .slice A xs.length c ∧ xs.length ≤ c ∧ Kd.F d w' (newer w ok) A xs.length xs := by
  obtain ⟨A, c, rfl, hc, _⟩ := Kd.R_reads h
  exact ⟨A, c, rfl, hc, Kd.R_F (Kd.R_mono (Kd.R_bound h) (fun k hk => .inr hk.2.1))⟩
theorem fault_none {D : Dv} (h : ∀ f ∈ D.faults, onF f D.ops = false) : D.fault = (0, [255]) := by
  unfold Dv.fault
  rw [List.find?_eq_none.2 (fun f hf => by rw [h f hf]; decide)]
theorem fault_at {D : Dv} {i : Nat} (hi : i < D.faults.length) (h : ∀ f ∈ D.faults.take i, onF f D.ops = false) (ho : onF (rd_T65 D.faults (i : Int)) D.ops = true) : D.fault = ((rd_T65 D.faults (i : Int)).f1, (rd_T65 D.faults (i : Int)).f2) := by
  have hr : rd_T65 D.faults (i : Int) = D.faults[i] := by
    unfold rd_T65
    rw [Int.toNat_natCast, List.getD_eq_getElem?_getD, List.getElem?_eq_getElem hi]
    rfl
  rw [hr] at ho ⊢
  have hs : D.faults.find? (fun f => onF f D.ops) = some D.faults[i] := by
    rw [List.find?_eq_some_iff_getElem]
    exact ⟨ho, i, hi, rfl, fun j hj => by rw [h _ (by rw [List.mem_take_iff_getElem]; exact ⟨j, by omega, rfl⟩)]; rfl⟩
  unfold Dv.fault
  rw [hs]
theorem take_on {D : Dv} {i : Nat} (hi : i < D.faults.length) (h : ∀ f ∈ D.faults.take i, onF f D.ops = false) (ho : onF (rd_T65 D.faults (i : Int)) D.ops = false) : ∀ f ∈ D.faults.take (i + 1), onF f D.ops = false := by
  have hr : rd_T65 D.faults (i : Int) = D.faults[i] := by
    unfold rd_T65
    rw [Int.toNat_natCast, List.getD_eq_getElem?_getD, List.getElem?_eq_getElem hi]
    rfl
  rw [hr] at ho
  intro f hf
  rw [List.take_add_one, List.getElem?_eq_getElem hi, List.mem_append] at hf
  rcases hf with hf | hf
  · exact h f hf
  · simp at hf; rw [hf]; exact ho
def Dv.bump (D : Dv) : Dv := { D with ops := wrap64 (D.ops + 1) }
set_option maxHeartbeats 2000000 in
set_option maxRecDepth 100000 in
theorem begin_calls {W : World} {ok : Nat → Prop} {L : Lay} {D : Dv} (h : DV W ok L D) :
    Calls Try.prog 64 #[.pointer (some ⟨L.g, 0, none⟩)] W fun e w' => ∃ A c, e = .returned (.tuple #[.int .i64 D.fault.1, .slice A D.fault.2.length c]) ∧ D.fault.2.length ≤ c ∧ Kd.F (Kd.int .u8) w' (newer W ok) A D.fault.2.length D.fault.2 ∧ DV w' ok L D.bump ∧ Turn W w' L.S := by
  have H1 := Aside0.mk (h.set_ops (wrap64 (D.ops + 1)))
  have T1 := Aside0.mk ((Turn.refl W L.S).setCell (p := ⟨L.g, 8, none⟩) (.inl (.inl rfl)) (.int .i64 (wrap64 (D.ops + 1))))
  have c7 := (top_cells h).2.2.2.2.2.2.2.1
  have c8 := (top_cells h).2.2.2.2.2.2.2.2.1
  have f8 := blk_frozen h.top 8
  have HLT := Aside0.mk (Nat.le_trans h.ok.fl (by omega) : D.faults.length ≤ 9223372036854775807)
  clear h
  go_enter Try.func64, Try.ntmps64
  go_upto_region 3 with fail
  generalize W.setCell ⟨L.g, 8, none⟩ (.int .i64 (wrap64 (D.ops + 1))) = W1 at H1 T1 ⊢
  have c7' := (top_cells H1.out).2.2.2.2.2.2.2.1
  clear c7 c8 f8
  go_wp2_with fail
  clear c7'
  go_loopg [23] (D.faults.length + 1) (fun kq v23 w' => ∃ i : Nat, v23 = .int .i64 (i : Int) ∧ Aside0 (i ≤ D.faults.length ∧ kq + i = D.faults.length + 1 ∧ ∀ f ∈ D.faults.take i, onF f D.ops = false) ∧ Aside0 (Below W1.heap.size W1 w'))
  case atStart => exact ⟨0, rfl, ⟨Nat.zero_le _, rfl, by simp⟩, ⟨Below.refl _ _⟩⟩
  case round =>
    obtain ⟨i, rfl, HI, BB⟩ := hrel
    by_cases hi : i < D.faults.length
    case neg =>
      have hie : i = D.faults.length := by have := HI.out.1; omega
      have t1 : decide ((i : Int) < (D.faults.length : Int)) = false := decide_eq_false (by omega)
      have t2 : decide (i < D.faults.length) = false := decide_eq_false (by omega)
      have HF : Aside0 (D.fault = (0, [255])) := ⟨fault_none (by have := HI.out.2.2; rwa [hie, List.take_length] at this)⟩
      have HN := Aside0.mk (fun W => zeros_Ones.calls 5 1 [255] W (by decide +kernel))
      clear hi hie
      go_wp2_with (go_at_call 61; refine (HN.out _).mono ?_; rintro e w5 ⟨v, rfl, hR, hb⟩; obtain ⟨A, c, rfl, hc, hF⟩ := fresh_F hR ok; have H5 := Aside0.mk (And.intro hc (And.intro hF hb)); clear hR hc hF hb)
      go_ret2
      have hT := T1.out.below BB.out
      have hsz := hT.size
      rw [HF.out]
      exact ⟨A, c, rfl, H5.out.1, Kd.F_mono H5.out.2.1 (fun k hk => hk.elim .inl (fun hk => .inr (Nat.le_trans hsz hk))), (H1.out.below BB.out).below H5.out.2.2, hT.below H5.out.2.2⟩
    case pos =>
      have t1 : decide ((i : Int) < (D.faults.length : Int)) = true := decide_eq_true (by omega)
      have t2 : decide (i < D.faults.length) = true := decide_eq_true (by omega)
      have p1 := eq_true (show (0 : Int) ≤ (i : Int) by omega)
      have q1 := eq_true (show (i : Int) < (D.faults.length : Int) by omega)
      obtain ⟨ad, cs, hA, hcl, hFK, hcc, _⟩ := Kd.F_get (H1.out.below BB.out).fl.1 z65 (i : Int) (by omega) (show (i : Int) < ((D.faults.length : Nat) : Int) by omega)
      obtain ⟨A2, c2, rfl, l2, g2⟩ := k65_openF hFK
      obtain ⟨x, hx⟩ : ∃ x, x = rd_T65 D.faults (i : Int) := ⟨_, rfl⟩
      have hx' : D.faults.getD (i : Int).toNat z65 = x := hx.symm
      rw [hx'] at hcc l2 g2
      have hx0 : wr.cell? (ad.add (i * 3)) = some (.int .i64 x.f0) := by have := hcc 0 _ rfl; rwa [Int.toNat_natCast] at this
      have hx1 : wr.cell? ⟨(ad.add (i * 3)).block, (ad.add (i * 3)).off + 1, none⟩ = some (.int .i64 x.f1) := by have := hcc 1 _ rfl; rw [Int.toNat_natCast] at this; rw [← add_field _ _ 1 (by omega)]; exact this
      have hx2 : wr.cell? ⟨(ad.add (i * 3)).block, (ad.add (i * 3)).off + 2, none⟩ = some (.slice A2 x.f2.length c2) := by have := hcc 2 _ rfl; rw [Int.toNat_natCast] at this; rw [← add_field _ _ 2 (by omega)]; exact this
      have HA := Aside0.mk hA
      have HX := Aside0.mk (And.intro hx (And.intro l2 g2))
      have hA' : L.Af = some ad := hA
      rw [hA']
      clear hA hA' hcl hFK hcc hx hx' l2 g2
      have hz6 := heap_alloc_new wr (.cells #[.int .i64 x.f0, .int .i64 x.f1, .slice A2 x.f2.length c2] 65)
      have hb6 := below_alloc BB.out (.cells #[.int .i64 x.f0, .int .i64 x.f1, .slice A2 x.f2.length c2] 65)
      have hg6 := Kd.F_alloc HX.out.2.2 (.cells #[.int .i64 x.f0, .int .i64 x.f1, .slice A2 x.f2.length c2] 65)
      go_upto_region 6 with fail
      generalize wr.alloc (.cells #[.int .i64 x.f0, .int .i64 x.f1, .slice A2 x.f2.length c2] 65) = W6 at hz6 hb6 hg6 ⊢
      generalize wr.heap.size = h6 at hz6 ⊢
      have HB6 := Aside0.mk hb6
      have HG6 := Aside0.mk hg6
      have HZ6 := Aside0.mk hz6
      have x0 := blk_cell hz6 0
      have x1 := blk_cell hz6 1
      have HI2 := Aside0.mk hi
      have HWI : IntKind.i64.wrap ((i : Int) + 1) = ((i + 1 : Nat) : Int) := by rw [i64_w]; unfold wrap64; have := HLT.out; omega
      clear hx0 hx1 hx2 p1 q1 t1 t2 hb6 hg6 hz6 hi
      rw [show (some ad : Option Addr) = L.Af from HA.out.symm]
      cases e1 : (x.f0 == D.ops) with
      | false =>
        have HO : Aside0 (onF x D.ops = false) := ⟨by unfold onF; rw [e1]; rfl⟩
        go_wp2_with fail
        go_roundg (D.faults.length - i)
        case measure => have := HI.out.2.1; have := HI2.out; omega
        case rel => exact ⟨i + 1, by first | rfl | (rw [← i64_w, HWI]) | (simp; unfold wrap64; have := HI2.out; have := HLT.out; omega), ⟨HI2.out, by have := HI.out.2.1; have := HI2.out; omega, take_on HI2.out HI.out.2.2 (HX.out.1 ▸ HO.out)⟩, HB6⟩
      | true =>
        cases e2 : (x.f1 == 1) with
        | true =>
          have HO : Aside0 (onF x D.ops = true) := ⟨by unfold onF; rw [e1, e2]; rfl⟩
          go_upto_region 7 with fail
          have B0 := Aside0.mk (below_drew1 (Below.refl W6.heap.size W6))
          have Z6 := Aside0.mk (blk_drew HZ6.out)
          clear x0 x1
          refine start_ (n := 6) (S := fun w' => True) (ds := []) #[false, false, false, false, false, false] (by kernel_rfl) rfl rfl trivial (fun hHeld => ?_)
          refine with_tabW begin7.tab7 begin7.bits7 (fun HT_ HW_ => ?_)
          generalize W6.drew = wq at B0 Z6 hHeld ⊢
          refine inv_at [0, 1, 2, 3, 4, 5] (fun a0_ b a w' => a = putSel a0_ b [(0, 41, .pointer (some ⟨h6, 1, none⟩)), (1, 42, .int .i64 x.f1), (2, 43, .pointer (some ⟨h6, 2, none⟩)), (3, 44, .slice A2 x.f2.length c2), (4, 2, .int .i64 x.f1), (5, 3, .slice A2 x.f2.length c2)] ∧ (Below W6.heap.size W6 w') ∧ (w'.heap[h6]? = some (.cells #[.int .i64 x.f0, .int .i64 x.f1, .slice A2 x.f2.length c2] 65 (0, 0)))) HT_.out HW_.out (by kernel_rfl) (by kernel_rfl) ?_ ?_ ?_
          · exact ⟨by simp only [putSel, Bool.false_eq_true, if_false], B0.out, Z6.out⟩
          · skip
            clear B0 Z6
            refine steps_cons ?_ ?_
            · rintro b a w' ⟨ha, Q_B0, Q_Z6⟩ hb_ hon hoff
              refine ⟨_, rfl, fun K hK => ?_⟩
              have e6 : a.tmps[6]? = some (.pointer (some ⟨h6, 0, none⟩)) := by rw [ha]; exact (putSel_off rfl).trans rfl
              replace ha := Aside0.mk ha
              have B0 := Aside0.mk Q_B0
              have Z6 := Aside0.mk Q_Z6
              refine value_ (w1 := w') (v := .pointer (some ⟨h6, 1, none⟩)) (by rfl) rfl ?_ ?_
              · go_simp
                (try simp only [i64_w])
                try rfl
              refine hK.out _ _ ⟨(by rw [ha.out]; exact putSel_upk 0 hb_ rfl rfl rfl), Q_B0, Q_Z6⟩
            refine steps_cons ?_ ?_
            · rintro b a w' ⟨ha, Q_B0, Q_Z6⟩ hb_ hon hoff
              refine ⟨_, rfl, fun K hK => ?_⟩
              have e41 : a.tmps[41]? = some (.pointer (some ⟨h6, 1, none⟩)) := by rw [ha]; exact putSel_on (e := (0, 41, .pointer (some ⟨h6, 1, none⟩))) 0 rfl rfl (hon 0 (by kernel_rfl)) rfl
              replace ha := Aside0.mk ha
              have B0 := Aside0.mk Q_B0
              have Z6 := Aside0.mk Q_Z6
              have c_ := blk_cell Z6.out 1
              refine value_ (w1 := w') (v := .int .i64 x.f1) (by rfl) rfl ?_ ?_
              · go_simp
                (try simp only [i64_w])
                try rfl
              refine hK.out _ _ ⟨(by rw [ha.out]; exact putSel_upk 1 hb_ rfl rfl rfl), Q_B0, Q_Z6⟩
            refine steps_cons ?_ ?_
            · rintro b a w' ⟨ha, Q_B0, Q_Z6⟩ hb_ hon hoff
              refine ⟨_, rfl, fun K hK => ?_⟩
              have e6 : a.tmps[6]? = some (.pointer (some ⟨h6, 0, none⟩)) := by rw [ha]; exact (putSel_off rfl).trans rfl
              replace ha := Aside0.mk ha
              have B0 := Aside0.mk Q_B0
              have Z6 := Aside0.mk Q_Z6
              refine value_ (w1 := w') (v := .pointer (some ⟨h6, 2, none⟩)) (by rfl) rfl ?_ ?_
              · go_simp
                (try simp only [i64_w])
                try rfl
              refine hK.out _ _ ⟨(by rw [ha.out]; exact putSel_upk 2 hb_ rfl rfl rfl), Q_B0, Q_Z6⟩
            refine steps_cons ?_ ?_
            · rintro b a w' ⟨ha, Q_B0, Q_Z6⟩ hb_ hon hoff
              refine ⟨_, rfl, fun K hK => ?_⟩
              have e43 : a.tmps[43]? = some (.pointer (some ⟨h6, 2, none⟩)) := by rw [ha]; exact putSel_on (e := (2, 43, .pointer (some ⟨h6, 2, none⟩))) 2 rfl rfl (hon 2 (by kernel_rfl)) rfl
              replace ha := Aside0.mk ha
              have B0 := Aside0.mk Q_B0
              have Z6 := Aside0.mk Q_Z6
              have c_ := blk_cell Z6.out 2
              refine value_ (w1 := w') (v := .slice A2 x.f2.length c2) (by rfl) rfl ?_ ?_
              · go_simp
                (try simp only [i64_w])
                try rfl
              refine hK.out _ _ ⟨(by rw [ha.out]; exact putSel_upk 3 hb_ rfl rfl rfl), Q_B0, Q_Z6⟩
            refine steps_cons ?_ ?_
            · rintro b a w' ⟨ha, Q_B0, Q_Z6⟩ hb_ hon hoff
              refine ⟨_, rfl, fun K hK => ?_⟩
              have e42 : a.tmps[42]? = some (.int .i64 x.f1) := by rw [ha]; exact putSel_on (e := (1, 42, .int .i64 x.f1)) 1 rfl rfl (hon 1 (by kernel_rfl)) rfl
              replace ha := Aside0.mk ha
              have B0 := Aside0.mk Q_B0
              have Z6 := Aside0.mk Q_Z6
              refine value_ (w1 := w') (v := .int .i64 x.f1) (by rfl) rfl ?_ ?_
              · go_simp
                (try simp only [i64_w])
                try rfl
              refine hK.out _ _ ⟨(by rw [ha.out]; exact putSel_upk 4 hb_ rfl rfl rfl), Q_B0, Q_Z6⟩
            refine steps_cons ?_ ?_
            · rintro b a w' ⟨ha, Q_B0, Q_Z6⟩ hb_ hon hoff
              refine ⟨_, rfl, fun K hK => ?_⟩
              have e44 : a.tmps[44]? = some (.slice A2 x.f2.length c2) := by rw [ha]; exact putSel_on (e := (3, 44, .slice A2 x.f2.length c2)) 3 rfl rfl (hon 3 (by kernel_rfl)) rfl
              replace ha := Aside0.mk ha
              have B0 := Aside0.mk Q_B0
              have Z6 := Aside0.mk Q_Z6
              refine value_ (w1 := w') (v := .slice A2 x.f2.length c2) (by rfl) rfl ?_ ?_
              · go_simp
                (try simp only [i64_w])
                try rfl
              refine hK.out _ _ ⟨(by rw [ha.out]; exact putSel_upk 5 hb_ rfl rfl rfl), Q_B0, Q_Z6⟩
            exact steps_nil
          rintro b a wl hall ⟨ha, Q_B0, Q_Z6⟩
          clear B0 Z6
          have hb0_ := hall 0 (by kernel_rfl)
          have hb1_ := hall 1 (by kernel_rfl)
          have hb2_ := hall 2 (by kernel_rfl)
          have hb3_ := hall 3 (by kernel_rfl)
          have hb4_ := hall 4 (by kernel_rfl)
          have hb5_ := hall 5 (by kernel_rfl)
          subst ha
          simp only [putSel, hb0_, hb1_, hb2_, hb3_, hb4_, hb5_, if_true, Act.put, List.setIfInBounds_toArray, List.set_cons_zero, List.set_cons_succ]
          have B0 := Aside0.mk Q_B0
          clear Q_B0
          have Z6 := Aside0.mk Q_Z6
          clear Q_Z6
          clear hall hb0_ hb1_ hb2_ hb3_ hb4_ hb5_
          go_wp2_with fail
          go_ret2
          have hT := (T1.out.below HB6.out).below B0.out
          have hsz := T1.out.size
          have hf := fault_at HI2.out HI.out.2.2 (HX.out.1 ▸ HO.out)
          rw [← HX.out.1] at hf
          rw [hf]
          exact ⟨A2, c2, rfl, HX.out.2.1, Kd.F_mono (Kd.F_below HG6.out B0.out) (fun k hk => .inl hk), (H1.out.below HB6.out).below B0.out, hT⟩
        | false =>
          cases e3 : (x.f1 == 2) with
          | true =>
            have HO : Aside0 (onF x D.ops = true) := ⟨by unfold onF; rw [e1, e2, e3]; rfl⟩
            go_upto_region 7 with fail
            have B0 := Aside0.mk (below_drew1 (Below.refl W6.heap.size W6))
            have Z6 := Aside0.mk (blk_drew HZ6.out)
            clear x0 x1
            refine start_ (n := 6) (S := fun w' => True) (ds := []) #[false, false, false, false, false, false] (by kernel_rfl) rfl rfl trivial (fun hHeld => ?_)
            refine with_tabW begin7.tab7 begin7.bits7 (fun HT_ HW_ => ?_)
            generalize W6.drew = wq at B0 Z6 hHeld ⊢
            refine inv_at [0, 1, 2, 3, 4, 5] (fun a0_ b a w' => a = putSel a0_ b [(0, 41, .pointer (some ⟨h6, 1, none⟩)), (1, 42, .int .i64 x.f1), (2, 43, .pointer (some ⟨h6, 2, none⟩)), (3, 44, .slice A2 x.f2.length c2), (4, 2, .int .i64 x.f1), (5, 3, .slice A2 x.f2.length c2)] ∧ (Below W6.heap.size W6 w') ∧ (w'.heap[h6]? = some (.cells #[.int .i64 x.f0, .int .i64 x.f1, .slice A2 x.f2.length c2] 65 (0, 0)))) HT_.out HW_.out (by kernel_rfl) (by kernel_rfl) ?_ ?_ ?_
            · exact ⟨by simp only [putSel, Bool.false_eq_true, if_false], B0.out, Z6.out⟩
            · skip
              clear B0 Z6
              refine steps_cons ?_ ?_
              · rintro b a w' ⟨ha, Q_B0, Q_Z6⟩ hb_ hon hoff
                refine ⟨_, rfl, fun K hK => ?_⟩
                have e6 : a.tmps[6]? = some (.pointer (some ⟨h6, 0, none⟩)) := by rw [ha]; exact (putSel_off rfl).trans rfl
                replace ha := Aside0.mk ha
                have B0 := Aside0.mk Q_B0
                have Z6 := Aside0.mk Q_Z6
                refine value_ (w1 := w') (v := .pointer (some ⟨h6, 1, none⟩)) (by rfl) rfl ?_ ?_
                · go_simp
                  (try simp only [i64_w])
                  try rfl
                refine hK.out _ _ ⟨(by rw [ha.out]; exact putSel_upk 0 hb_ rfl rfl rfl), Q_B0, Q_Z6⟩
              refine steps_cons ?_ ?_
              · rintro b a w' ⟨ha, Q_B0, Q_Z6⟩ hb_ hon hoff
                refine ⟨_, rfl, fun K hK => ?_⟩
                have e41 : a.tmps[41]? = some (.pointer (some ⟨h6, 1, none⟩)) := by rw [ha]; exact putSel_on (e := (0, 41, .pointer (some ⟨h6, 1, none⟩))) 0 rfl rfl (hon 0 (by kernel_rfl)) rfl
                replace ha := Aside0.mk ha
                have B0 := Aside0.mk Q_B0
                have Z6 := Aside0.mk Q_Z6
                have c_ := blk_cell Z6.out 1
                refine value_ (w1 := w') (v := .int .i64 x.f1) (by rfl) rfl ?_ ?_
                · go_simp
                  (try simp only [i64_w])
                  try rfl
                refine hK.out _ _ ⟨(by rw [ha.out]; exact putSel_upk 1 hb_ rfl rfl rfl), Q_B0, Q_Z6⟩
              refine steps_cons ?_ ?_
              · rintro b a w' ⟨ha, Q_B0, Q_Z6⟩ hb_ hon hoff
                refine ⟨_, rfl, fun K hK => ?_⟩
                have e6 : a.tmps[6]? = some (.pointer (some ⟨h6, 0, none⟩)) := by rw [ha]; exact (putSel_off rfl).trans rfl
                replace ha := Aside0.mk ha
                have B0 := Aside0.mk Q_B0
                have Z6 := Aside0.mk Q_Z6
                refine value_ (w1 := w') (v := .pointer (some ⟨h6, 2, none⟩)) (by rfl) rfl ?_ ?_
                · go_simp
                  (try simp only [i64_w])
                  try rfl
                refine hK.out _ _ ⟨(by rw [ha.out]; exact putSel_upk 2 hb_ rfl rfl rfl), Q_B0, Q_Z6⟩
              refine steps_cons ?_ ?_
              · rintro b a w' ⟨ha, Q_B0, Q_Z6⟩ hb_ hon hoff
                refine ⟨_, rfl, fun K hK => ?_⟩
                have e43 : a.tmps[43]? = some (.pointer (some ⟨h6, 2, none⟩)) := by rw [ha]; exact putSel_on (e := (2, 43, .pointer (some ⟨h6, 2, none⟩))) 2 rfl rfl (hon 2 (by kernel_rfl)) rfl
                replace ha := Aside0.mk ha
                have B0 := Aside0.mk Q_B0
                have Z6 := Aside0.mk Q_Z6
                have c_ := blk_cell Z6.out 2
                refine value_ (w1 := w') (v := .slice A2 x.f2.length c2) (by rfl) rfl ?_ ?_
                · go_simp
                  (try simp only [i64_w])
                  try rfl
                refine hK.out _ _ ⟨(by rw [ha.out]; exact putSel_upk 3 hb_ rfl rfl rfl), Q_B0, Q_Z6⟩
              refine steps_cons ?_ ?_
              · rintro b a w' ⟨ha, Q_B0, Q_Z6⟩ hb_ hon hoff
                refine ⟨_, rfl, fun K hK => ?_⟩
                have e42 : a.tmps[42]? = some (.int .i64 x.f1) := by rw [ha]; exact putSel_on (e := (1, 42, .int .i64 x.f1)) 1 rfl rfl (hon 1 (by kernel_rfl)) rfl
                replace ha := Aside0.mk ha
                have B0 := Aside0.mk Q_B0
                have Z6 := Aside0.mk Q_Z6
                refine value_ (w1 := w') (v := .int .i64 x.f1) (by rfl) rfl ?_ ?_
                · go_simp
                  (try simp only [i64_w])
                  try rfl
                refine hK.out _ _ ⟨(by rw [ha.out]; exact putSel_upk 4 hb_ rfl rfl rfl), Q_B0, Q_Z6⟩
              refine steps_cons ?_ ?_
              · rintro b a w' ⟨ha, Q_B0, Q_Z6⟩ hb_ hon hoff
                refine ⟨_, rfl, fun K hK => ?_⟩
                have e44 : a.tmps[44]? = some (.slice A2 x.f2.length c2) := by rw [ha]; exact putSel_on (e := (3, 44, .slice A2 x.f2.length c2)) 3 rfl rfl (hon 3 (by kernel_rfl)) rfl
                replace ha := Aside0.mk ha
                have B0 := Aside0.mk Q_B0
                have Z6 := Aside0.mk Q_Z6
                refine value_ (w1 := w') (v := .slice A2 x.f2.length c2) (by rfl) rfl ?_ ?_
                · go_simp
                  (try simp only [i64_w])
                  try rfl
                refine hK.out _ _ ⟨(by rw [ha.out]; exact putSel_upk 5 hb_ rfl rfl rfl), Q_B0, Q_Z6⟩
              exact steps_nil
            rintro b a wl hall ⟨ha, Q_B0, Q_Z6⟩
            clear B0 Z6
            have hb0_ := hall 0 (by kernel_rfl)
            have hb1_ := hall 1 (by kernel_rfl)
            have hb2_ := hall 2 (by kernel_rfl)
            have hb3_ := hall 3 (by kernel_rfl)
            have hb4_ := hall 4 (by kernel_rfl)
            have hb5_ := hall 5 (by kernel_rfl)
            subst ha
            simp only [putSel, hb0_, hb1_, hb2_, hb3_, hb4_, hb5_, if_true, Act.put, List.setIfInBounds_toArray, List.set_cons_zero, List.set_cons_succ]
            have B0 := Aside0.mk Q_B0
            clear Q_B0
            have Z6 := Aside0.mk Q_Z6
            clear Q_Z6
            clear hall hb0_ hb1_ hb2_ hb3_ hb4_ hb5_
            go_wp2_with fail
            go_ret2
            have hT := (T1.out.below HB6.out).below B0.out
            have hsz := T1.out.size
            have hf := fault_at HI2.out HI.out.2.2 (HX.out.1 ▸ HO.out)
            rw [← HX.out.1] at hf
            rw [hf]
            exact ⟨A2, c2, rfl, HX.out.2.1, Kd.F_mono (Kd.F_below HG6.out B0.out) (fun k hk => .inl hk), (H1.out.below HB6.out).below B0.out, hT⟩
          | false =>
            have HO : Aside0 (onF x D.ops = false) := ⟨by unfold onF; rw [e1, e2, e3]; rfl⟩
            go_wp2_with fail
            go_roundg (D.faults.length - i)
            case measure => have := HI.out.2.1; have := HI2.out; omega
            case rel => exact ⟨i + 1, by first | rfl | (rw [← i64_w, HWI]) | (simp; unfold wrap64; have := HI2.out; have := HLT.out; omega), ⟨HI2.out, by have := HI.out.2.1; have := HI2.out; omega, take_on HI2.out HI.out.2.2 (HX.out.1 ▸ HO.out)⟩, HB6⟩
end Go.Proofs.Ytnchdmidaigheaa.ND
