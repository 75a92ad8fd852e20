/- Parts of the proof of the statement DamageLooks, laid together (4 of 8). -/
import Derived.WalkSpells
import Derived.Test.YtnchdmidaigheaaZDamageLooks2
namespace Go.Proofs.Ytnchdmidaigheaa.QS
set_option linter.unusedVariables false
set_option linter.unusedSimpArgs false
open Go.RowKit Go.Proofs.Ytnchdmidaigheaa.SS Go.Proofs.Ytnchdmidaigheaa.Hp Go.Proofs.YtnchdmidaigheaaW.PrintWords Go.Proofs.YtnchdmidaigheaaW.PrintLast Go.Proofs.YtnchdmidaigheaaW.PrintMore
attribute [local go_sem] max2_int min2_int max_two min_two max_three min_three max_four min_four
def symg.T35 : Bool × List (List Nat × List Nat) := (true, [([], []), ([], []), ([], []), ([], []), ([2, 3], [2, 3]), ([1, 4], [1, 4]), ([5], [5]), ([], []), ([], []), ([7, 8], [7, 8]), ([9], [9]), ([0, 6, 10], [0, 6, 10]), ([11], [11]), ([12], [12])])
def symg.B35 : List Nat := [0, 0, 0, 0, 12, 30, 62, 0, 0, 384, 896, 2047, 4095, 8191]
theorem symg.tab35 : rtab .any (opsOf Try.f120 35) = symg.T35 := by kernel_rfl
theorem symg.bits35 : waitsOk symg.T35.2 symg.B35 = true := by kernel_rfl
theorem sym_tail (lt : Rec → Rec → Bool) (ho : Ord lt) (N : Nat) (w0 : World) (g : Nat) (hg : N ≤ g) (cp : Nat) (ia im ib n mid lo hi s e : Nat) (P A B Q : List Rec) (hn : (P ++ (A ++ (B ++ Q))).length = n) (hn2 : n ≤ 1000000)
    (ih : ∀ (ia im ib : Nat) (P A' B' Q : List Rec), A'.length + B'.length < A.length + B.length → 1 ≤ A'.length → 1 ≤ B'.length → P.length = ia → ia + A'.length = im → im + B'.length = ib → Sorted lt A' → Sorted lt B' → (P ++ (A' ++ (B' ++ Q))).length = n → ∀ W, Kp g w0 W → RowB W g (P ++ (A' ++ (B' ++ Q))) → Calls Try.prog 120 #[.slice (some ⟨g, 0, none⟩) n cp, .int .i64 (ia : Int), .int .i64 (im : Int), .int .i64 (ib : Int), .func (.func 85) #[] #[]] W fun e w' => e = .returned (.tuple #[]) ∧ Kp g w0 w' ∧ RowB w' g (P ++ (mrg lt A' B' ++ Q))) (ha : Sorted lt A) (hb : Sorted lt B) (hia : ia = P.length) (him : im = ia + A.length) (hib : ib = im + B.length) (hA : 1 ≤ A.length) (hB : 1 ≤ B.length) (hmid : mid = (ia + ib) / 2)
    (hlo : mid < im ∧ lo = mid + im - ib ∧ hi = mid ∨ im ≤ mid ∧ lo = ia ∧ hi = im) (h : Bs (fC lt (P ++ (A ++ (B ++ Q))) (mid + im - 1)) lo hi s s) (he : e = mid + im - s) :
    ∃ D1 D2 : List Rec, (s < im → s < mid → ∀ W, Kp g w0 W → RowB W g (P ++ (A ++ (B ++ Q))) → Calls Try.prog 127 #[.slice (some ⟨g, 0, none⟩) n cp, .int .i64 (s : Int), .int .i64 (im : Int), .int .i64 (e : Int), .func (.func 85) #[] #[]] W fun e w' => e = .returned (.tuple #[]) ∧ Kp g w0 w' ∧ RowB w' g D1) ∧ (¬(s < im ∧ s < mid) → ∀ W, RowB W g (P ++ (A ++ (B ++ Q))) → RowB W g D1) ∧
      (ia < s → s < mid → ∀ W, Kp g w0 W → RowB W g D1 → Calls Try.prog 120 #[.slice (some ⟨g, 0, none⟩) n cp, .int .i64 (ia : Int), .int .i64 (s : Int), .int .i64 (mid : Int), .func (.func 85) #[] #[]] W fun e w' => e = .returned (.tuple #[]) ∧ Kp g w0 w' ∧ RowB w' g D2) ∧ (¬(ia < s ∧ s < mid) → ∀ W, RowB W g D1 → RowB W g D2) ∧
      (s < im → e < ib → ∀ W, Kp g w0 W → RowB W g D2 → Calls Try.prog 120 #[.slice (some ⟨g, 0, none⟩) n cp, .int .i64 (mid : Int), .int .i64 (e : Int), .int .i64 (ib : Int), .func (.func 85) #[] #[]] W fun e w' => e = .returned (.tuple #[]) ∧ Kp g w0 w' ∧ RowB w' g (P ++ (mrg lt A B ++ Q))) ∧ (¬(s < im ∧ e < ib) → ∀ W, RowB W g D2 → RowB W g (P ++ (mrg lt A B ++ Q))) ∧ ia ≤ s ∧ s ≤ im ∧ s ≤ mid ∧ im ≤ e ∧ e ≤ ib := by
  obtain ⟨hmrg, b1, b2, b3, b4, b5⟩ := sym_end ho P A B Q ha hb ia im ib mid lo hi s e hia him hib hA hB hmid hlo h he
  obtain ⟨a1, ea1⟩ : ∃ a1, a1 = A.take (s - ia) := ⟨_, rfl⟩
  obtain ⟨a2, ea2⟩ : ∃ a2, a2 = A.drop (s - ia) := ⟨_, rfl⟩
  obtain ⟨c1, ec1⟩ : ∃ c1, c1 = B.take (e - im) := ⟨_, rfl⟩
  obtain ⟨c2, ec2⟩ : ∃ c2, c2 = B.drop (e - im) := ⟨_, rfl⟩
  have hAs : A = a1 ++ a2 := by rw [ea1, ea2, List.take_append_drop]
  have hBs : B = c1 ++ c2 := by rw [ec1, ec2, List.take_append_drop]
  have la1 : a1.length = s - ia := by rw [ea1, List.length_take]; omega
  have la2 : a2.length = im - s := by rw [ea2, List.length_drop]; omega
  have lc1 : c1.length = e - im := by rw [ec1, List.length_take]; omega
  have lc2 : c2.length = ib - e := by rw [ec2, List.length_drop]; omega
  have sa := ha
  have sb := hb
  rw [hAs] at sa
  rw [hBs] at sb
  have sa1 := (List.pairwise_append.1 sa).1
  have sa2 := (List.pairwise_append.1 sa).2.1
  have sc1 := (List.pairwise_append.1 sb).1
  have sc2 := (List.pairwise_append.1 sb).2.1
  rw [← ea1, ← ea2, ← ec1, ← ec2] at hmrg
  have hnl : P.length + (A.length + (B.length + Q.length)) = n := by rw [← hn]; simp only [List.length_append]
  have hD0 : P ++ (A ++ (B ++ Q)) = (P ++ a1) ++ (a2 ++ (c1 ++ (c2 ++ Q))) := by rw [hAs, hBs]; simp only [List.append_assoc]
  refine ⟨(P ++ a1) ++ (c1 ++ (a2 ++ (c2 ++ Q))), P ++ (mrg lt a1 c1 ++ (a2 ++ (c2 ++ Q))), ?_, ?_, ?_, ?_, ?_, ?_, b1, b2, b3, b4, b5⟩
  · intro u1 u2 W hW hR
    rw [hD0] at hR hn
    exact rotate_calls N w0 g hg cp _ s im e n (P ++ a1) a2 c1 (c2 ++ Q) (by rw [List.length_append]; omega) (by omega) (by omega) (by omega) (by omega) hn hn2 W hW hR
  · intro u W hR
    rw [hD0] at hR
    rcases Nat.lt_or_ge s im with u1 | u1
    · have : c1 = [] := List.eq_nil_of_length_eq_zero (by omega)
      rw [this] at hR ⊢
      exact hR
    · have : a2 = [] := List.eq_nil_of_length_eq_zero (by omega)
      rw [this] at hR ⊢
      exact hR
  · intro u1 u2 W hW hR
    rw [List.append_assoc] at hR
    exact ih ia s mid P a1 c1 (a2 ++ (c2 ++ Q)) (by omega) (by omega) (by omega) (by omega) (by omega) (by omega) sa1 sc1 (by simp only [List.length_append]; omega) W hW hR
  · intro u W hR
    rw [List.append_assoc] at hR
    rcases Nat.lt_or_ge ia s with u1 | u1
    · have : c1 = [] := List.eq_nil_of_length_eq_zero (by omega)
      rw [this] at hR ⊢
      rw [mrg_nil_right]
      exact hR
    · have : a1 = [] := List.eq_nil_of_length_eq_zero (by omega)
      rw [this] at hR ⊢
      rw [mrg_nil]
      exact hR
  · intro u1 u2 W hW hR
    rw [← List.append_assoc P] at hR
    have := ih mid e ib (P ++ mrg lt a1 c1) a2 c2 Q (by omega) (by omega) (by omega) (by rw [List.length_append, mrg_length]; omega) (by omega) (by omega) sa2 sc2 (by simp only [List.length_append, mrg_length]; omega) W hW hR
    rw [hmrg, List.append_assoc]
    rw [List.append_assoc] at this
    exact this
  · intro u W hR
    rw [hmrg]
    rcases Nat.lt_or_ge s im with u1 | u1
    · have : c2 = [] := List.eq_nil_of_length_eq_zero (by omega)
      rw [this] at hR ⊢
      rw [mrg_nil_right]
      simpa [List.append_assoc] using hR
    · have : a2 = [] := List.eq_nil_of_length_eq_zero (by omega)
      rw [this] at hR ⊢
      rw [mrg_nil]
      simpa [List.append_assoc] using hR
set_option maxHeartbeats 16000000 in
set_option maxRecDepth 100000 in
theorem symG_calls (lt : Rec → Rec → Bool) (ho : Ord lt) (hc : Cmp lt) (N : Nat) (w0 : World) (g : Nat) (hg : N ≤ g) (cp : Nat) (ia im ib n : Nat) (P A B Q : List Rec) (hP : P.length = ia) (hA : ia + A.length = im) (hB1 : im + B.length = ib) (hA2 : 2 ≤ A.length) (hB2 : 2 ≤ B.length) (hAs : Sorted lt A) (hBs : Sorted lt B) (hn : (P ++ (A ++ (B ++ Q))).length = n) (hn2 : n ≤ 1000000)
    (ih : ∀ (ia im ib : Nat) (P A' B' Q : List Rec), A'.length + B'.length < A.length + B.length → 1 ≤ A'.length → 1 ≤ B'.length → P.length = ia → ia + A'.length = im → im + B'.length = ib → Sorted lt A' → Sorted lt B' → (P ++ (A' ++ (B' ++ Q))).length = n → ∀ W, Kp g w0 W → RowB W g (P ++ (A' ++ (B' ++ Q))) → Calls Try.prog 120 #[.slice (some ⟨g, 0, none⟩) n cp, .int .i64 (ia : Int), .int .i64 (im : Int), .int .i64 (ib : Int), .func (.func 85) #[] #[]] W fun e w' => e = .returned (.tuple #[]) ∧ Kp g w0 w' ∧ RowB w' g (P ++ (mrg lt A' B' ++ Q))) (w : World) (hB : Kp g w0 w) (hR : RowB w g (P ++ (A ++ (B ++ Q)))) :
    Calls Try.prog 120 #[.slice (some ⟨g, 0, none⟩) n cp, .int .i64 (ia : Int), .int .i64 (im : Int), .int .i64 (ib : Int), .func (.func 85) #[] #[]] w fun e w' => e = .returned (.tuple #[]) ∧ Kp g w0 w' ∧ RowB w' g (P ++ (mrg lt A B ++ Q)) := by
  have HG := Aside0.mk hg
  have HIH := Aside0.mk ih
  have HNL := Aside0.mk hn
  have HCMP : Aside0 (∀ (W : World) (x y : Rec), Calls Try.prog 85 #[.agg #[.int .i64 x.nr, .int .i64 x.kd, .slice x.A x.n x.c], .agg #[.int .i64 y.nr, .int .i64 y.kd, .slice y.A y.n y.c]] W fun e w' => ∃ r : Int, e = .returned (.int .i64 r) ∧ decide (r < 0) = lt x y ∧ Below W.heap.size W w') := ⟨hc⟩
  have HL : Aside0 (P.length = ia ∧ ia + A.length = im ∧ im + B.length = ib ∧ ib ≤ n ∧ n ≤ 1000000 ∧ 2 ≤ A.length ∧ 2 ≤ B.length) := ⟨hP, hA, hB1, by rw [← hn]; simp only [List.length_append]; omega, hn2, hA2, hB2⟩
  obtain ⟨na, hna⟩ : ∃ na, na = A.length := ⟨_, rfl⟩
  obtain ⟨nb, hnb⟩ : ∃ nb, nb = B.length := ⟨_, rfl⟩
  obtain ⟨mid, hmid⟩ : ∃ mid, mid = (ia + ib) / 2 := ⟨_, rfl⟩
  obtain ⟨nn, hnn⟩ : ∃ nn, nn = mid + im := ⟨_, rfl⟩
  obtain ⟨p, hp⟩ : ∃ p, p = nn - 1 := ⟨_, rfl⟩
  have HN := Aside0.mk (And.intro hmid (And.intro hnn hp))
  have HW0 : IntKind.i64.wrap ((im : Int) - (ia : Int)) = (na : Int) := by rw [i64_w]; unfold wrap64; have := HL.out; omega
  have HW00 : ((na : Int) == 1) = false := by simp; omega
  have HW03 : IntKind.i64.wrap ((ib : Int) - (im : Int)) = (nb : Int) := by rw [i64_w]; unfold wrap64; have := HL.out; omega
  have HW04 : ((nb : Int) == 1) = false := by simp; omega
  have HW05 : IntKind.i64.wrap ((ia : Int) + (ib : Int)) = ((ia + ib : Nat) : Int) := by rw [i64_w]; unfold wrap64; have := HL.out; omega
  have HWM : IntKind.i64.wrap ((mid : Int) + (im : Int)) = (nn : Int) := by rw [i64_w]; unfold wrap64; have := HL.out; omega
  have HMID := Aside0.mk (mid_val ia ib mid hmid (by have := HL.out; omega))
  obtain ⟨dd, hdd⟩ : ∃ dd, dd = P ++ (A ++ (B ++ Q)) := ⟨_, rfl⟩
  have HDD := Aside0.mk hdd
  have HDL : Aside0 (dd.length = n) := ⟨by rw [hdd]; exact hn⟩
  rw [← hdd] at hR
  have HR := Aside0.mk hR
  replace hB := Aside0.mk hB
  clear hg hc hP hA hA2 hB1 hB2 hn hn2 hR hdd hna hnb hmid hnn hp ih
  go_enter Try.func120, Try.ntmps120
  go_upto_region 25 with fail
  rw [HMID.out]
  clear HMID
  by_cases hmm : mid < im
  · obtain ⟨lo, hlo⟩ : ∃ lo, lo = nn - ib := ⟨_, rfl⟩
    have t0 : decide (mid < im) = true := decide_eq_true (by omega)
    have HWL : IntKind.i64.wrap ((nn : Int) - (ib : Int)) = (((nn : Int) - (ib : Int))) := by rw [i64_w]; unfold wrap64; have := HL.out; have := HN.out; omega
    have HWP1 : IntKind.i64.wrap ((nn : Int) - 1) = (p : Int) := by rw [i64_w]; unfold wrap64; have := HL.out; have := HN.out; omega
    have HLO : Aside0 (mid < im ∧ lo = mid + im - ib ∧ mid = mid ∨ im ≤ mid ∧ lo = ia ∧ mid = im) := ⟨by have := HL.out; have := HN.out; omega⟩
    have HMO : Aside0 (Mono (fC lt dd p) lo mid) := ⟨by
      rw [HDD.out]
      refine fC_mono ho P A B Q p lo mid hAs hBs (by have := HL.out; have := HN.out; have := HLO.out; omega) (by have := HL.out; have := HN.out; have := HLO.out; omega) (fun c h1 h2 => by have := HL.out; have := HN.out; have := HLO.out; omega)⟩
    have HB0 : Aside0 (Bs (fC lt dd p) lo mid lo mid) := ⟨Bs.init _ _ _ (by have := HL.out; have := HN.out; have := HLO.out; omega)⟩
    have HLV : Aside0 ((lo : Int) = (nn : Int) - (ib : Int)) := ⟨by have := HL.out; have := HN.out; omega⟩
    have HO := Aside0.mk ho
    have HAB := Aside0.mk (And.intro hAs hBs)
    clear hmm hlo ho hAs hBs
    go_upto_region 33 with fail
    clear HWL HWP1 HW0 HW00 HW03 HW04 HWM t0 HW05
    go_loopg [20, 21] (mid - lo) (fun kq v20 v21 w' => ∃ i j : Nat, v20 = .int .i64 (i : Int) ∧ v21 = .int .i64 (j : Int) ∧ Aside0 (Bs (fC lt dd p) lo mid i j) ∧ Aside0 (RowB w' g dd) ∧ Aside0 (Kp g w0 w') ∧ Aside0 (kq + i = j))
    case atStart => exact ⟨lo, mid, by first | rfl | (rw [HLV.out]), rfl, HB0, HR, hB, ⟨by have := HB0.out; unfold Bs at this; omega⟩⟩
    case round =>
      clear HB0 HR hB
      obtain ⟨i, j, rfl, rfl, HBS, RR, BB, HQ⟩ := hrel
      by_cases hij : i < j
      case pos =>
        have t1 : decide (i < j) = true := decide_eq_true hij
        have HW1 : IntKind.i64.wrap ((i : Int) + (j : Int)) = ((i + j : Nat) : Int) := by rw [i64_w]; unfold wrap64; have := HL.out; have := HN.out; have := HLO.out; have := HBS.out; unfold Bs at this; omega
        obtain ⟨c, hc2⟩ : ∃ c, c = (i + j) / 2 := ⟨_, rfl⟩
        have hb3 := HBS.out
        have hbd : i ≤ c ∧ c < j ∧ j ≤ mid ∧ lo ≤ i ∧ ia ≤ c ∧ c < im ∧ im ≤ p - c ∧ p - c < ib ∧ c ≤ p := by have := HL.out; have := HN.out; have := HLO.out; unfold Bs at hb3; omega
        have HMID2 := Aside0.mk (mid_val i j c hc2 (by have := HL.out; have := HN.out; have := HLO.out; omega))
        go_upto_region 35 with fail
        rw [HMID2.out]
        clear HMID2 HW1
        obtain ⟨pc, hpc⟩ : ∃ pc, pc = p - c := ⟨_, rfl⟩
        obtain ⟨y, hy⟩ : ∃ y, dd[p - c]? = some y := some_of dd (p - c) (by rw [HDL.out]; have := HL.out; omega)
        obtain ⟨x, hx⟩ : ∃ x, dd[c]? = some x := some_of dd c (by rw [HDL.out]; have := HL.out; omega)
        have HX_pc : Aside0 (dd[pc]? = some y) := ⟨by rw [hpc]; exact hy⟩
        have HX_c := Aside0.mk hx
        have LO_pc := Aside0.mk (eq_true (show (0 : Int) ≤ (pc : Int) by omega))
        have HI_pc : Aside0 (((pc : Int) < (n : Int)) = True) := ⟨eq_true (by have := HL.out; omega)⟩
        have LO_c := Aside0.mk (eq_true (show (0 : Int) ≤ (c : Int) by omega))
        have HI_c : Aside0 (((c : Int) < (n : Int)) = True) := ⟨eq_true (by have := HL.out; omega)⟩
        have HWP : Aside0 (IntKind.i64.wrap ((p : Int) - (c : Int)) = (pc : Int)) := ⟨by rw [i64_w]; unfold wrap64; have := HL.out; have := HN.out; omega⟩
        have B0 := Aside0.mk (kp_drew BB.out)
        have R0 := Aside0.mk (RowB.below RR.out (below_drew1 (Below.refl wr.heap.size wr)))
        have HBD := Aside0.mk (And.intro hbd hij)
        have hf := fC_at (lt := lt) hy hx
        clear t1 RR BB hb3 hbd hij hc2 hy hx hpc
        cases htv : lt y x with
        | true =>
          have HTV := Aside0.mk htv
          have HB2 := Aside0.mk (HBS.out.down HMO.out HBD.out.1.1 HBD.out.1.2.1 (by rw [hf, htv]; rfl))
          clear htv hf
          refine start_ (n := 14) (S := fun w' => True) (ds := []) #[false, false, false, false, false, false, false, false, false, false, false, false, false, false] (by kernel_rfl) rfl rfl trivial (fun hHeld => ?_)
          refine with_tabW symg.tab35 symg.bits35 (fun HT_ HW_ => ?_)
          generalize wr.drew = wq at B0 R0 hHeld ⊢
          refine inv_at [0, 1, 2, 3, 4, 5, 6, 7, 8, 9, 10, 11, 12, 13] (fun a0_ b a w' => ∃ (rv : Value), a = putSel a0_ b [(0, 158, .func (.func 85) #[] #[]), (1, 159, .slice (some ⟨g, 0, none⟩) n cp), (2, 160, .int .i64 (p : Int)), (3, 161, .int .i64 (c : Int)), (4, 162, .int .i64 (pc : Int)), (5, 163, .pointer (some ⟨g, pc * 3, none⟩)), (6, 164, .agg #[.int .i64 y.nr, .int .i64 y.kd, .slice y.A y.n y.c]), (7, 165, .slice (some ⟨g, 0, none⟩) n cp), (8, 166, .int .i64 (c : Int)), (9, 167, .pointer (some ⟨g, c * 3, none⟩)), (10, 168, .agg #[.int .i64 x.nr, .int .i64 x.kd, .slice x.A x.n x.c]), (11, 169, rv), (12, 170, .bool true), (13, 171, .bool false)] ∧ (Kp g w0 w') ∧ (RowB w' g dd) ∧ (b 11 = true → ∃ r_ : Int, rv = .int .i64 r_ ∧ decide (r_ < 0) = true)) HT_.out HW_.out (by kernel_rfl) (by kernel_rfl) ?_ ?_ ?_
          · exact ⟨.bool false, by simp only [putSel, Bool.false_eq_true, if_false], B0.out, R0.out, fun h_ => absurd h_ (by decide)⟩
          · skip
            clear B0 R0
            refine steps_cons ?_ ?_
            · rintro b a w' ⟨rv, ha, Q_B0, Q_R0, Q_HRV⟩ hb_ hon hoff
              refine ⟨_, rfl, fun K hK => ?_⟩
              have e4 : a.tmps[4]? = some (.func (.func 85) #[] #[]) := by rw [ha]; exact (putSel_off rfl).trans rfl
              replace ha := Aside0.mk ha
              have B0 := Aside0.mk Q_B0
              have R0 := Aside0.mk Q_R0
              refine value_ (w1 := w') (v := .func (.func 85) #[] #[]) (by rfl) rfl ?_ ?_
              · go_simp
                (try simp only [i64_w])
                try rfl
              refine hK.out _ _ ⟨rv, (by rw [ha.out]; exact putSel_upk 0 hb_ rfl rfl rfl), Q_B0, Q_R0, fun h0_ => absurd ((hoff 11 (by kernel_rfl)).symm.trans h0_) (by decide)⟩
            refine steps_cons ?_ ?_
            · rintro b a w' ⟨rv, ha, Q_B0, Q_R0, Q_HRV⟩ hb_ hon hoff
              refine ⟨_, rfl, fun K hK => ?_⟩
              have e0 : a.tmps[0]? = some (.slice (some ⟨g, 0, none⟩) n cp) := by rw [ha]; exact (putSel_off rfl).trans rfl
              replace ha := Aside0.mk ha
              have B0 := Aside0.mk Q_B0
              have R0 := Aside0.mk Q_R0
              refine value_ (w1 := w') (v := .slice (some ⟨g, 0, none⟩) n cp) (by rfl) rfl ?_ ?_
              · go_simp
                (try simp only [i64_w])
                try rfl
              refine hK.out _ _ ⟨rv, (by rw [ha.out]; exact putSel_upk 1 hb_ rfl rfl rfl), Q_B0, Q_R0, fun h0_ => absurd ((hoff 11 (by kernel_rfl)).symm.trans h0_) (by decide)⟩
            refine steps_cons ?_ ?_
            · rintro b a w' ⟨rv, ha, Q_B0, Q_R0, Q_HRV⟩ hb_ hon hoff
              refine ⟨_, rfl, fun K hK => ?_⟩
              have e22 : a.tmps[22]? = some (.int .i64 (p : Int)) := by rw [ha]; exact (putSel_off rfl).trans rfl
              replace ha := Aside0.mk ha
              have B0 := Aside0.mk Q_B0
              have R0 := Aside0.mk Q_R0
              refine value_ (w1 := w') (v := .int .i64 (p : Int)) (by rfl) rfl ?_ ?_
              · go_simp
                (try simp only [i64_w])
                try rfl
              refine hK.out _ _ ⟨rv, (by rw [ha.out]; exact putSel_upk 2 hb_ rfl rfl rfl), Q_B0, Q_R0, fun h0_ => absurd ((hoff 11 (by kernel_rfl)).symm.trans h0_) (by decide)⟩
            refine steps_cons ?_ ?_
            · rintro b a w' ⟨rv, ha, Q_B0, Q_R0, Q_HRV⟩ hb_ hon hoff
              refine ⟨_, rfl, fun K hK => ?_⟩
              have e23 : a.tmps[23]? = some (.int .i64 (c : Int)) := by rw [ha]; exact (putSel_off rfl).trans rfl
              replace ha := Aside0.mk ha
              have B0 := Aside0.mk Q_B0
              have R0 := Aside0.mk Q_R0
              refine value_ (w1 := w') (v := .int .i64 (c : Int)) (by rfl) rfl ?_ ?_
              · go_simp
                (try simp only [i64_w])
                try rfl
              refine hK.out _ _ ⟨rv, (by rw [ha.out]; exact putSel_upk 3 hb_ rfl rfl rfl), Q_B0, Q_R0, fun h0_ => absurd ((hoff 11 (by kernel_rfl)).symm.trans h0_) (by decide)⟩
            refine steps_cons ?_ ?_
            · rintro b a w' ⟨rv, ha, Q_B0, Q_R0, Q_HRV⟩ hb_ hon hoff
              refine ⟨_, rfl, fun K hK => ?_⟩
              have e160 : a.tmps[160]? = some (.int .i64 (p : Int)) := by rw [ha]; exact putSel_on (e := (2, 160, .int .i64 (p : Int))) 2 rfl rfl (hon 2 (by kernel_rfl)) rfl
              have e161 : a.tmps[161]? = some (.int .i64 (c : Int)) := by rw [ha]; exact putSel_on (e := (3, 161, .int .i64 (c : Int))) 3 rfl rfl (hon 3 (by kernel_rfl)) rfl
              replace ha := Aside0.mk ha
              have B0 := Aside0.mk Q_B0
              have R0 := Aside0.mk Q_R0
              have hw0_ := HWP.out
              refine value_ (w1 := w') (v := .int .i64 (pc : Int)) (by rfl) rfl ?_ ?_
              · go_simp
                (try simp only [i64_w])
                try rfl
              refine hK.out _ _ ⟨rv, (by rw [ha.out]; exact putSel_upk 4 hb_ rfl rfl rfl), Q_B0, Q_R0, fun h0_ => absurd ((hoff 11 (by kernel_rfl)).symm.trans h0_) (by decide)⟩
            refine steps_cons ?_ ?_
            · rintro b a w' ⟨rv, ha, Q_B0, Q_R0, Q_HRV⟩ hb_ hon hoff
              refine ⟨_, rfl, fun K hK => ?_⟩
              have e159 : a.tmps[159]? = some (.slice (some ⟨g, 0, none⟩) n cp) := by rw [ha]; exact putSel_on (e := (1, 159, .slice (some ⟨g, 0, none⟩) n cp)) 1 rfl rfl (hon 1 (by kernel_rfl)) rfl
              have e162 : a.tmps[162]? = some (.int .i64 (pc : Int)) := by rw [ha]; exact putSel_on (e := (4, 162, .int .i64 (pc : Int))) 4 rfl rfl (hon 4 (by kernel_rfl)) rfl
              replace ha := Aside0.mk ha
              have B0 := Aside0.mk Q_B0
              have R0 := Aside0.mk Q_R0
              have p1_ := LO_pc.out
              have q1_ := HI_pc.out
              refine value_ (w1 := w') (v := .pointer (some ⟨g, pc * 3, none⟩)) (by rfl) rfl ?_ ?_
              · go_simp
                (try simp only [i64_w])
                try rfl
              refine hK.out _ _ ⟨rv, (by rw [ha.out]; exact putSel_upk 5 hb_ rfl rfl rfl), Q_B0, Q_R0, fun h0_ => absurd ((hoff 11 (by kernel_rfl)).symm.trans h0_) (by decide)⟩
            refine steps_cons ?_ ?_
            · rintro b a w' ⟨rv, ha, Q_B0, Q_R0, Q_HRV⟩ hb_ hon hoff
              refine ⟨_, rfl, fun K hK => ?_⟩
              have e163 : a.tmps[163]? = some (.pointer (some ⟨g, pc * 3, none⟩)) := by rw [ha]; exact putSel_on (e := (5, 163, .pointer (some ⟨g, pc * 3, none⟩))) 5 rfl rfl (hon 5 (by kernel_rfl)) rfl
              replace ha := Aside0.mk ha
              have B0 := Aside0.mk Q_B0
              have R0 := Aside0.mk Q_R0
              have cs_ := R0.out.cells HX_pc.out
              refine value_ (w1 := w') (v := .agg #[.int .i64 y.nr, .int .i64 y.kd, .slice y.A y.n y.c]) (by rfl) rfl ?_ ?_
              · go_simp
                (try simp only [i64_w])
                try rfl
              refine hK.out _ _ ⟨rv, (by rw [ha.out]; exact putSel_upk 6 hb_ rfl rfl rfl), Q_B0, Q_R0, fun h0_ => absurd ((hoff 11 (by kernel_rfl)).symm.trans h0_) (by decide)⟩
            refine steps_cons ?_ ?_
            · rintro b a w' ⟨rv, ha, Q_B0, Q_R0, Q_HRV⟩ hb_ hon hoff
              refine ⟨_, rfl, fun K hK => ?_⟩
              have e0 : a.tmps[0]? = some (.slice (some ⟨g, 0, none⟩) n cp) := by rw [ha]; exact (putSel_off rfl).trans rfl
              replace ha := Aside0.mk ha
              have B0 := Aside0.mk Q_B0
              have R0 := Aside0.mk Q_R0
              refine value_ (w1 := w') (v := .slice (some ⟨g, 0, none⟩) n cp) (by rfl) rfl ?_ ?_
              · go_simp
                (try simp only [i64_w])
                try rfl
              refine hK.out _ _ ⟨rv, (by rw [ha.out]; exact putSel_upk 7 hb_ rfl rfl rfl), Q_B0, Q_R0, fun h0_ => absurd ((hoff 11 (by kernel_rfl)).symm.trans h0_) (by decide)⟩
            refine steps_cons ?_ ?_
            · rintro b a w' ⟨rv, ha, Q_B0, Q_R0, Q_HRV⟩ hb_ hon hoff
              refine ⟨_, rfl, fun K hK => ?_⟩
              have e23 : a.tmps[23]? = some (.int .i64 (c : Int)) := by rw [ha]; exact (putSel_off rfl).trans rfl
              replace ha := Aside0.mk ha
              have B0 := Aside0.mk Q_B0
              have R0 := Aside0.mk Q_R0
              refine value_ (w1 := w') (v := .int .i64 (c : Int)) (by rfl) rfl ?_ ?_
              · go_simp
                (try simp only [i64_w])
                try rfl
              refine hK.out _ _ ⟨rv, (by rw [ha.out]; exact putSel_upk 8 hb_ rfl rfl rfl), Q_B0, Q_R0, fun h0_ => absurd ((hoff 11 (by kernel_rfl)).symm.trans h0_) (by decide)⟩
            refine steps_cons ?_ ?_
            · rintro b a w' ⟨rv, ha, Q_B0, Q_R0, Q_HRV⟩ hb_ hon hoff
              refine ⟨_, rfl, fun K hK => ?_⟩
              have e165 : a.tmps[165]? = some (.slice (some ⟨g, 0, none⟩) n cp) := by rw [ha]; exact putSel_on (e := (7, 165, .slice (some ⟨g, 0, none⟩) n cp)) 7 rfl rfl (hon 7 (by kernel_rfl)) rfl
              have e166 : a.tmps[166]? = some (.int .i64 (c : Int)) := by rw [ha]; exact putSel_on (e := (8, 166, .int .i64 (c : Int))) 8 rfl rfl (hon 8 (by kernel_rfl)) rfl
              replace ha := Aside0.mk ha
              have B0 := Aside0.mk Q_B0
              have R0 := Aside0.mk Q_R0
              have p1_ := LO_c.out
              have q1_ := HI_c.out
              refine value_ (w1 := w') (v := .pointer (some ⟨g, c * 3, none⟩)) (by rfl) rfl ?_ ?_
              · go_simp
                (try simp only [i64_w])
                try rfl
              refine hK.out _ _ ⟨rv, (by rw [ha.out]; exact putSel_upk 9 hb_ rfl rfl rfl), Q_B0, Q_R0, fun h0_ => absurd ((hoff 11 (by kernel_rfl)).symm.trans h0_) (by decide)⟩
            refine steps_cons ?_ ?_
            · rintro b a w' ⟨rv, ha, Q_B0, Q_R0, Q_HRV⟩ hb_ hon hoff
              refine ⟨_, rfl, fun K hK => ?_⟩
              have e167 : a.tmps[167]? = some (.pointer (some ⟨g, c * 3, none⟩)) := by rw [ha]; exact putSel_on (e := (9, 167, .pointer (some ⟨g, c * 3, none⟩))) 9 rfl rfl (hon 9 (by kernel_rfl)) rfl
              replace ha := Aside0.mk ha
              have B0 := Aside0.mk Q_B0
              have R0 := Aside0.mk Q_R0
              have cs_ := R0.out.cells HX_c.out
              refine value_ (w1 := w') (v := .agg #[.int .i64 x.nr, .int .i64 x.kd, .slice x.A x.n x.c]) (by rfl) rfl ?_ ?_
              · go_simp
                (try simp only [i64_w])
                try rfl
              refine hK.out _ _ ⟨rv, (by rw [ha.out]; exact putSel_upk 10 hb_ rfl rfl rfl), Q_B0, Q_R0, fun h0_ => absurd ((hoff 11 (by kernel_rfl)).symm.trans h0_) (by decide)⟩
            refine steps_cons ?_ ?_
            · rintro b a w' ⟨rv, ha, Q_B0, Q_R0, Q_HRV⟩ hb_ hon hoff
              refine ⟨_, rfl, fun K hK => ?_⟩
              have e158 : a.tmps[158]? = some (.func (.func 85) #[] #[]) := by rw [ha]; exact putSel_on (e := (0, 158, .func (.func 85) #[] #[])) 0 rfl rfl (hon 0 (by kernel_rfl)) rfl
              have e164 : a.tmps[164]? = some (.agg #[.int .i64 y.nr, .int .i64 y.kd, .slice y.A y.n y.c]) := by rw [ha]; exact putSel_on (e := (6, 164, .agg #[.int .i64 y.nr, .int .i64 y.kd, .slice y.A y.n y.c])) 6 rfl rfl (hon 6 (by kernel_rfl)) rfl
              have e168 : a.tmps[168]? = some (.agg #[.int .i64 x.nr, .int .i64 x.kd, .slice x.A x.n x.c]) := by rw [ha]; exact putSel_on (e := (10, 168, .agg #[.int .i64 x.nr, .int .i64 x.kd, .slice x.A x.n x.c])) 10 rfl rfl (hon 10 (by kernel_rfl)) rfl
              replace ha := Aside0.mk ha
              have B0 := Aside0.mk Q_B0
              have R0 := Aside0.mk Q_R0
              refine goesv_ (t := 158) Try.func85 (by kernel_rfl) rfl #[.agg #[.int .i64 y.nr, .int .i64 y.kd, .slice y.A y.n y.c], .agg #[.int .i64 x.nr, .int .i64 x.kd, .slice x.A x.n x.c]] (by rfl) rfl rfl e158 (by first | (simp only [List.map_toArray, List.map_cons, List.map_nil, Act.eval, Array.getD_eq_getD_getElem?, Option.getD_some, e158, e164, e168]; done) | (simp only [List.map_toArray, List.map_cons, List.map_nil, Act.eval, Array.getD_eq_getD_getElem?, Option.getD_some, e158, e164, e168]; rfl)) ?_
              with_reducible refine (HCMP.out w' y x).mono ?_
              rintro e w2 ⟨r_, rfl, hr_, hb⟩
              refine ⟨_, rfl, ?_⟩
              refine hK.out _ _ ⟨.int .i64 r_, (by rw [ha.out]; exact putSel_upk 11 hb_ rfl rfl rfl), below_row B0.out HG.out R0.out hb, RowB.below R0.out hb, fun _ => ⟨r_, rfl, hr_.trans HTV.out⟩⟩
            refine steps_cons ?_ ?_
            · rintro b a w' ⟨rv, ha, Q_B0, Q_R0, Q_HRV⟩ hb_ hon hoff
              refine ⟨_, rfl, fun K hK => ?_⟩
              have e169 : a.tmps[169]? = some (rv) := by rw [ha]; exact putSel_on (e := (11, 169, rv)) 11 rfl rfl (hon 11 (by kernel_rfl)) rfl
              replace ha := Aside0.mk ha
              have B0 := Aside0.mk Q_B0
              have R0 := Aside0.mk Q_R0
              have HRV := Aside0.mk (Q_HRV (hon 11 (by kernel_rfl)))
              obtain ⟨r_, hr1_, hr2_⟩ := HRV.out
              rw [hr1_] at e169
              refine value_ (w1 := w') (v := .bool true) (by rfl) rfl ?_ ?_
              · go_simp
                (try simp only [i64_w])
                try rfl
              refine hK.out _ _ ⟨rv, (by rw [ha.out]; exact putSel_upk 12 hb_ rfl rfl rfl), Q_B0, Q_R0, Q_HRV⟩
            refine steps_cons ?_ ?_
            · rintro b a w' ⟨rv, ha, Q_B0, Q_R0, Q_HRV⟩ hb_ hon hoff
              refine ⟨_, rfl, fun K hK => ?_⟩
              have e170 : a.tmps[170]? = some (.bool true) := by rw [ha]; exact putSel_on (e := (12, 170, .bool true)) 12 rfl rfl (hon 12 (by kernel_rfl)) rfl
              replace ha := Aside0.mk ha
              have B0 := Aside0.mk Q_B0
              have R0 := Aside0.mk Q_R0
              have HRV := Aside0.mk (Q_HRV (hon 11 (by kernel_rfl)))
              refine value_ (w1 := w') (v := .bool false) (by rfl) rfl ?_ ?_
              · go_simp
                (try simp only [i64_w])
                try rfl
              refine hK.out _ _ ⟨rv, (by rw [ha.out]; exact putSel_upk 13 hb_ rfl rfl rfl), Q_B0, Q_R0, Q_HRV⟩
            exact steps_nil
          rintro b a wl hall ⟨rv, ha, Q_B0, Q_R0, Q_HRV⟩
          clear B0 R0
          have hb0_ := hall 0 (by kernel_rfl)
          have hb1_ := hall 1 (by kernel_rfl)
          have hb2_ := hall 2 (by kernel_rfl)
          have hb3_ := hall 3 (by kernel_rfl)
          have hb4_ := hall 4 (by kernel_rfl)
          have hb5_ := hall 5 (by kernel_rfl)
          have hb6_ := hall 6 (by kernel_rfl)
          have hb7_ := hall 7 (by kernel_rfl)
          have hb8_ := hall 8 (by kernel_rfl)
          have hb9_ := hall 9 (by kernel_rfl)
          have hb10_ := hall 10 (by kernel_rfl)
          have hb11_ := hall 11 (by kernel_rfl)
          have hb12_ := hall 12 (by kernel_rfl)
          have hb13_ := hall 13 (by kernel_rfl)
          subst ha
          simp only [putSel, hb0_, hb1_, hb2_, hb3_, hb4_, hb5_, hb6_, hb7_, hb8_, hb9_, hb10_, hb11_, hb12_, hb13_, if_true, Act.put, List.setIfInBounds_toArray, List.set_cons_zero, List.set_cons_succ]
          have B0 := Aside0.mk Q_B0
          clear Q_B0
          have R0 := Aside0.mk Q_R0
          clear Q_R0
          have HRV := Aside0.mk (Q_HRV hb11_)
          clear Q_HRV
          clear hall hb0_ hb1_ hb2_ hb3_ hb4_ hb5_ hb6_ hb7_ hb8_ hb9_ hb10_ hb11_ hb12_ hb13_
          clear HRV
          go_wp2_with fail
          go_roundg (c - i)
          case measure => have := HQ.out; have := HBD.out; omega
          case rel => exact ⟨i, c, rfl, rfl, HB2, R0, B0, ⟨by have := HBD.out; omega⟩⟩
        | false =>
          have HTV := Aside0.mk htv
          have HB2 := Aside0.mk (HBS.out.up HMO.out HBD.out.1.1 HBD.out.1.2.1 (by rw [hf, htv]; rfl))
          clear htv hf
          refine start_ (n := 14) (S := fun w' => True) (ds := []) #[false, false, false, false, false, false, false, false, false, false, false, false, false, false] (by kernel_rfl) rfl rfl trivial (fun hHeld => ?_)
          refine with_tabW symg.tab35 symg.bits35 (fun HT_ HW_ => ?_)
          generalize wr.drew = wq at B0 R0 hHeld ⊢
          refine inv_at [0, 1, 2, 3, 4, 5, 6, 7, 8, 9, 10, 11, 12, 13] (fun a0_ b a w' => ∃ (rv : Value), a = putSel a0_ b [(0, 158, .func (.func 85) #[] #[]), (1, 159, .slice (some ⟨g, 0, none⟩) n cp), (2, 160, .int .i64 (p : Int)), (3, 161, .int .i64 (c : Int)), (4, 162, .int .i64 (pc : Int)), (5, 163, .pointer (some ⟨g, pc * 3, none⟩)), (6, 164, .agg #[.int .i64 y.nr, .int .i64 y.kd, .slice y.A y.n y.c]), (7, 165, .slice (some ⟨g, 0, none⟩) n cp), (8, 166, .int .i64 (c : Int)), (9, 167, .pointer (some ⟨g, c * 3, none⟩)), (10, 168, .agg #[.int .i64 x.nr, .int .i64 x.kd, .slice x.A x.n x.c]), (11, 169, rv), (12, 170, .bool false), (13, 171, .bool true)] ∧ (Kp g w0 w') ∧ (RowB w' g dd) ∧ (b 11 = true → ∃ r_ : Int, rv = .int .i64 r_ ∧ decide (r_ < 0) = false)) HT_.out HW_.out (by kernel_rfl) (by kernel_rfl) ?_ ?_ ?_
          · exact ⟨.bool false, by simp only [putSel, Bool.false_eq_true, if_false], B0.out, R0.out, fun h_ => absurd h_ (by decide)⟩
          · skip
            clear B0 R0
            refine steps_cons ?_ ?_
            · rintro b a w' ⟨rv, ha, Q_B0, Q_R0, Q_HRV⟩ hb_ hon hoff
              refine ⟨_, rfl, fun K hK => ?_⟩
              have e4 : a.tmps[4]? = some (.func (.func 85) #[] #[]) := by rw [ha]; exact (putSel_off rfl).trans rfl
              replace ha := Aside0.mk ha
              have B0 := Aside0.mk Q_B0
              have R0 := Aside0.mk Q_R0
              refine value_ (w1 := w') (v := .func (.func 85) #[] #[]) (by rfl) rfl ?_ ?_
              · go_simp
                (try simp only [i64_w])
                try rfl
              refine hK.out _ _ ⟨rv, (by rw [ha.out]; exact putSel_upk 0 hb_ rfl rfl rfl), Q_B0, Q_R0, fun h0_ => absurd ((hoff 11 (by kernel_rfl)).symm.trans h0_) (by decide)⟩
            refine steps_cons ?_ ?_
            · rintro b a w' ⟨rv, ha, Q_B0, Q_R0, Q_HRV⟩ hb_ hon hoff
              refine ⟨_, rfl, fun K hK => ?_⟩
              have e0 : a.tmps[0]? = some (.slice (some ⟨g, 0, none⟩) n cp) := by rw [ha]; exact (putSel_off rfl).trans rfl
              replace ha := Aside0.mk ha
              have B0 := Aside0.mk Q_B0
              have R0 := Aside0.mk Q_R0
              refine value_ (w1 := w') (v := .slice (some ⟨g, 0, none⟩) n cp) (by rfl) rfl ?_ ?_
              · go_simp
                (try simp only [i64_w])
                try rfl
              refine hK.out _ _ ⟨rv, (by rw [ha.out]; exact putSel_upk 1 hb_ rfl rfl rfl), Q_B0, Q_R0, fun h0_ => absurd ((hoff 11 (by kernel_rfl)).symm.trans h0_) (by decide)⟩
            refine steps_cons ?_ ?_
            · rintro b a w' ⟨rv, ha, Q_B0, Q_R0, Q_HRV⟩ hb_ hon hoff
              refine ⟨_, rfl, fun K hK => ?_⟩
              have e22 : a.tmps[22]? = some (.int .i64 (p : Int)) := by rw [ha]; exact (putSel_off rfl).trans rfl
              replace ha := Aside0.mk ha
              have B0 := Aside0.mk Q_B0
              have R0 := Aside0.mk Q_R0
              refine value_ (w1 := w') (v := .int .i64 (p : Int)) (by rfl) rfl ?_ ?_
              · go_simp
                (try simp only [i64_w])
                try rfl
              refine hK.out _ _ ⟨rv, (by rw [ha.out]; exact putSel_upk 2 hb_ rfl rfl rfl), Q_B0, Q_R0, fun h0_ => absurd ((hoff 11 (by kernel_rfl)).symm.trans h0_) (by decide)⟩
            refine steps_cons ?_ ?_
            · rintro b a w' ⟨rv, ha, Q_B0, Q_R0, Q_HRV⟩ hb_ hon hoff
              refine ⟨_, rfl, fun K hK => ?_⟩
              have e23 : a.tmps[23]? = some (.int .i64 (c : Int)) := by rw [ha]; exact (putSel_off rfl).trans rfl
              replace ha := Aside0.mk ha
              have B0 := Aside0.mk Q_B0
              have R0 := Aside0.mk Q_R0
              refine value_ (w1 := w') (v := .int .i64 (c : Int)) (by rfl) rfl ?_ ?_
              · go_simp
                (try simp only [i64_w])
                try rfl
              refine hK.out _ _ ⟨rv, (by rw [ha.out]; exact putSel_upk 3 hb_ rfl rfl rfl), Q_B0, Q_R0, fun h0_ => absurd ((hoff 11 (by kernel_rfl)).symm.trans h0_) (by decide)⟩
            refine steps_cons ?_ ?_
            · rintro b a w' ⟨rv, ha, Q_B0, Q_R0, Q_HRV⟩ hb_ hon hoff
              refine ⟨_, rfl, fun K hK => ?_⟩
              have e160 : a.tmps[160]? = some (.int .i64 (p : Int)) := by rw [ha]; exact putSel_on (e := (2, 160, .int .i64 (p : Int))) 2 rfl rfl (hon 2 (by kernel_rfl)) rfl
              have e161 : a.tmps[161]? = some (.int .i64 (c : Int)) := by rw [ha]; exact putSel_on (e := (3, 161, .int .i64 (c : Int))) 3 rfl rfl (hon 3 (by kernel_rfl)) rfl
              replace ha := Aside0.mk ha
              have B0 := Aside0.mk Q_B0
              have R0 := Aside0.mk Q_R0
              have hw0_ := HWP.out
              refine value_ (w1 := w') (v := .int .i64 (pc : Int)) (by rfl) rfl ?_ ?_
              · go_simp
                (try simp only [i64_w])
                try rfl
              refine hK.out _ _ ⟨rv, (by rw [ha.out]; exact putSel_upk 4 hb_ rfl rfl rfl), Q_B0, Q_R0, fun h0_ => absurd ((hoff 11 (by kernel_rfl)).symm.trans h0_) (by decide)⟩
            refine steps_cons ?_ ?_
            · rintro b a w' ⟨rv, ha, Q_B0, Q_R0, Q_HRV⟩ hb_ hon hoff
              refine ⟨_, rfl, fun K hK => ?_⟩
              have e159 : a.tmps[159]? = some (.slice (some ⟨g, 0, none⟩) n cp) := by rw [ha]; exact putSel_on (e := (1, 159, .slice (some ⟨g, 0, none⟩) n cp)) 1 rfl rfl (hon 1 (by kernel_rfl)) rfl
              have e162 : a.tmps[162]? = some (.int .i64 (pc : Int)) := by rw [ha]; exact putSel_on (e := (4, 162, .int .i64 (pc : Int))) 4 rfl rfl (hon 4 (by kernel_rfl)) rfl
              replace ha := Aside0.mk ha
              have B0 := Aside0.mk Q_B0
              have R0 := Aside0.mk Q_R0
              have p1_ := LO_pc.out
              have q1_ := HI_pc.out
              refine value_ (w1 := w') (v := .pointer (some ⟨g, pc * 3, none⟩)) (by rfl) rfl ?_ ?_
              · go_simp
                (try simp only [i64_w])
                try rfl
              refine hK.out _ _ ⟨rv, (by rw [ha.out]; exact putSel_upk 5 hb_ rfl rfl rfl), Q_B0, Q_R0, fun h0_ => absurd ((hoff 11 (by kernel_rfl)).symm.trans h0_) (by decide)⟩
            refine steps_cons ?_ ?_
            · rintro b a w' ⟨rv, ha, Q_B0, Q_R0, Q_HRV⟩ hb_ hon hoff
              refine ⟨_, rfl, fun K hK => ?_⟩
              have e163 : a.tmps[163]? = some (.pointer (some ⟨g, pc * 3, none⟩)) := by rw [ha]; exact putSel_on (e := (5, 163, .pointer (some ⟨g, pc * 3, none⟩))) 5 rfl rfl (hon 5 (by kernel_rfl)) rfl
              replace ha := Aside0.mk ha
              have B0 := Aside0.mk Q_B0
              have R0 := Aside0.mk Q_R0
              have cs_ := R0.out.cells HX_pc.out
              refine value_ (w1 := w') (v := .agg #[.int .i64 y.nr, .int .i64 y.kd, .slice y.A y.n y.c]) (by rfl) rfl ?_ ?_
              · go_simp
                (try simp only [i64_w])
                try rfl
              refine hK.out _ _ ⟨rv, (by rw [ha.out]; exact putSel_upk 6 hb_ rfl rfl rfl), Q_B0, Q_R0, fun h0_ => absurd ((hoff 11 (by kernel_rfl)).symm.trans h0_) (by decide)⟩
            refine steps_cons ?_ ?_
            · rintro b a w' ⟨rv, ha, Q_B0, Q_R0, Q_HRV⟩ hb_ hon hoff
              refine ⟨_, rfl, fun K hK => ?_⟩
              have e0 : a.tmps[0]? = some (.slice (some ⟨g, 0, none⟩) n cp) := by rw [ha]; exact (putSel_off rfl).trans rfl
              replace ha := Aside0.mk ha
              have B0 := Aside0.mk Q_B0
              have R0 := Aside0.mk Q_R0
              refine value_ (w1 := w') (v := .slice (some ⟨g, 0, none⟩) n cp) (by rfl) rfl ?_ ?_
              · go_simp
                (try simp only [i64_w])
                try rfl
              refine hK.out _ _ ⟨rv, (by rw [ha.out]; exact putSel_upk 7 hb_ rfl rfl rfl), Q_B0, Q_R0, fun h0_ => absurd ((hoff 11 (by kernel_rfl)).symm.trans h0_) (by decide)⟩
            refine steps_cons ?_ ?_
            · rintro b a w' ⟨rv, ha, Q_B0, Q_R0, Q_HRV⟩ hb_ hon hoff
              refine ⟨_, rfl, fun K hK => ?_⟩
              have e23 : a.tmps[23]? = some (.int .i64 (c : Int)) := by rw [ha]; exact (putSel_off rfl).trans rfl
              replace ha := Aside0.mk ha
              have B0 := Aside0.mk Q_B0
              have R0 := Aside0.mk Q_R0
              refine value_ (w1 := w') (v := .int .i64 (c : Int)) (by rfl) rfl ?_ ?_
              · go_simp
                (try simp only [i64_w])
                try rfl
              refine hK.out _ _ ⟨rv, (by rw [ha.out]; exact putSel_upk 8 hb_ rfl rfl rfl), Q_B0, Q_R0, fun h0_ => absurd ((hoff 11 (by kernel_rfl)).symm.trans h0_) (by decide)⟩
            refine steps_cons ?_ ?_
            · rintro b a w' ⟨rv, ha, Q_B0, Q_R0, Q_HRV⟩ hb_ hon hoff
              refine ⟨_, rfl, fun K hK => ?_⟩
              have e165 : a.tmps[165]? = some (.slice (some ⟨g, 0, none⟩) n cp) := by rw [ha]; exact putSel_on (e := (7, 165, .slice (some ⟨g, 0, none⟩) n cp)) 7 rfl rfl (hon 7 (by kernel_rfl)) rfl
              have e166 : a.tmps[166]? = some (.int .i64 (c : Int)) := by rw [ha]; exact putSel_on (e := (8, 166, .int .i64 (c : Int))) 8 rfl rfl (hon 8 (by kernel_rfl)) rfl
              replace ha := Aside0.mk ha
              have B0 := Aside0.mk Q_B0
              have R0 := Aside0.mk Q_R0
              have p1_ := LO_c.out
              have q1_ := HI_c.out
              refine value_ (w1 := w') (v := .pointer (some ⟨g, c * 3, none⟩)) (by rfl) rfl ?_ ?_
              · go_simp
                (try simp only [i64_w])
                try rfl
              refine hK.out _ _ ⟨rv, (by rw [ha.out]; exact putSel_upk 9 hb_ rfl rfl rfl), Q_B0, Q_R0, fun h0_ => absurd ((hoff 11 (by kernel_rfl)).symm.trans h0_) (by decide)⟩
            refine steps_cons ?_ ?_
            · rintro b a w' ⟨rv, ha, Q_B0, Q_R0, Q_HRV⟩ hb_ hon hoff
              refine ⟨_, rfl, fun K hK => ?_⟩
              have e167 : a.tmps[167]? = some (.pointer (some ⟨g, c * 3, none⟩)) := by rw [ha]; exact putSel_on (e := (9, 167, .pointer (some ⟨g, c * 3, none⟩))) 9 rfl rfl (hon 9 (by kernel_rfl)) rfl
              replace ha := Aside0.mk ha
              have B0 := Aside0.mk Q_B0
              have R0 := Aside0.mk Q_R0
              have cs_ := R0.out.cells HX_c.out
              refine value_ (w1 := w') (v := .agg #[.int .i64 x.nr, .int .i64 x.kd, .slice x.A x.n x.c]) (by rfl) rfl ?_ ?_
              · go_simp
                (try simp only [i64_w])
                try rfl
              refine hK.out _ _ ⟨rv, (by rw [ha.out]; exact putSel_upk 10 hb_ rfl rfl rfl), Q_B0, Q_R0, fun h0_ => absurd ((hoff 11 (by kernel_rfl)).symm.trans h0_) (by decide)⟩
            refine steps_cons ?_ ?_
            · rintro b a w' ⟨rv, ha, Q_B0, Q_R0, Q_HRV⟩ hb_ hon hoff
              refine ⟨_, rfl, fun K hK => ?_⟩
              have e158 : a.tmps[158]? = some (.func (.func 85) #[] #[]) := by rw [ha]; exact putSel_on (e := (0, 158, .func (.func 85) #[] #[])) 0 rfl rfl (hon 0 (by kernel_rfl)) rfl
              have e164 : a.tmps[164]? = some (.agg #[.int .i64 y.nr, .int .i64 y.kd, .slice y.A y.n y.c]) := by rw [ha]; exact putSel_on (e := (6, 164, .agg #[.int .i64 y.nr, .int .i64 y.kd, .slice y.A y.n y.c])) 6 rfl rfl (hon 6 (by kernel_rfl)) rfl
              have e168 : a.tmps[168]? = some (.agg #[.int .i64 x.nr, .int .i64 x.kd, .slice x.A x.n x.c]) := by rw [ha]; exact putSel_on (e := (10, 168, .agg #[.int .i64 x.nr, .int .i64 x.kd, .slice x.A x.n x.c])) 10 rfl rfl (hon 10 (by kernel_rfl)) rfl
              replace ha := Aside0.mk ha
              have B0 := Aside0.mk Q_B0
              have R0 := Aside0.mk Q_R0
              refine goesv_ (t := 158) Try.func85 (by kernel_rfl) rfl #[.agg #[.int .i64 y.nr, .int .i64 y.kd, .slice y.A y.n y.c], .agg #[.int .i64 x.nr, .int .i64 x.kd, .slice x.A x.n x.c]] (by rfl) rfl rfl e158 (by first | (simp only [List.map_toArray, List.map_cons, List.map_nil, Act.eval, Array.getD_eq_getD_getElem?, Option.getD_some, e158, e164, e168]; done) | (simp only [List.map_toArray, List.map_cons, List.map_nil, Act.eval, Array.getD_eq_getD_getElem?, Option.getD_some, e158, e164, e168]; rfl)) ?_
              with_reducible refine (HCMP.out w' y x).mono ?_
              rintro e w2 ⟨r_, rfl, hr_, hb⟩
              refine ⟨_, rfl, ?_⟩
              refine hK.out _ _ ⟨.int .i64 r_, (by rw [ha.out]; exact putSel_upk 11 hb_ rfl rfl rfl), below_row B0.out HG.out R0.out hb, RowB.below R0.out hb, fun _ => ⟨r_, rfl, hr_.trans HTV.out⟩⟩
            refine steps_cons ?_ ?_
            · rintro b a w' ⟨rv, ha, Q_B0, Q_R0, Q_HRV⟩ hb_ hon hoff
              refine ⟨_, rfl, fun K hK => ?_⟩
              have e169 : a.tmps[169]? = some (rv) := by rw [ha]; exact putSel_on (e := (11, 169, rv)) 11 rfl rfl (hon 11 (by kernel_rfl)) rfl
              replace ha := Aside0.mk ha
              have B0 := Aside0.mk Q_B0
              have R0 := Aside0.mk Q_R0
              have HRV := Aside0.mk (Q_HRV (hon 11 (by kernel_rfl)))
              obtain ⟨r_, hr1_, hr2_⟩ := HRV.out
              rw [hr1_] at e169
              refine value_ (w1 := w') (v := .bool false) (by rfl) rfl ?_ ?_
              · go_simp
                (try simp only [i64_w])
                try rfl
              refine hK.out _ _ ⟨rv, (by rw [ha.out]; exact putSel_upk 12 hb_ rfl rfl rfl), Q_B0, Q_R0, Q_HRV⟩
            refine steps_cons ?_ ?_
            · rintro b a w' ⟨rv, ha, Q_B0, Q_R0, Q_HRV⟩ hb_ hon hoff
              refine ⟨_, rfl, fun K hK => ?_⟩
              have e170 : a.tmps[170]? = some (.bool false) := by rw [ha]; exact putSel_on (e := (12, 170, .bool false)) 12 rfl rfl (hon 12 (by kernel_rfl)) rfl
              replace ha := Aside0.mk ha
              have B0 := Aside0.mk Q_B0
              have R0 := Aside0.mk Q_R0
              have HRV := Aside0.mk (Q_HRV (hon 11 (by kernel_rfl)))
              refine value_ (w1 := w') (v := .bool true) (by rfl) rfl ?_ ?_
              · go_simp
                (try simp only [i64_w])
                try rfl
              refine hK.out _ _ ⟨rv, (by rw [ha.out]; exact putSel_upk 13 hb_ rfl rfl rfl), Q_B0, Q_R0, Q_HRV⟩
            exact steps_nil
          rintro b a wl hall ⟨rv, ha, Q_B0, Q_R0, Q_HRV⟩
          clear B0 R0
          have hb0_ := hall 0 (by kernel_rfl)
          have hb1_ := hall 1 (by kernel_rfl)
          have hb2_ := hall 2 (by kernel_rfl)
          have hb3_ := hall 3 (by kernel_rfl)
          have hb4_ := hall 4 (by kernel_rfl)
          have hb5_ := hall 5 (by kernel_rfl)
          have hb6_ := hall 6 (by kernel_rfl)
          have hb7_ := hall 7 (by kernel_rfl)
          have hb8_ := hall 8 (by kernel_rfl)
          have hb9_ := hall 9 (by kernel_rfl)
          have hb10_ := hall 10 (by kernel_rfl)
          have hb11_ := hall 11 (by kernel_rfl)
          have hb12_ := hall 12 (by kernel_rfl)
          have hb13_ := hall 13 (by kernel_rfl)
          subst ha
          simp only [putSel, hb0_, hb1_, hb2_, hb3_, hb4_, hb5_, hb6_, hb7_, hb8_, hb9_, hb10_, hb11_, hb12_, hb13_, if_true, Act.put, List.setIfInBounds_toArray, List.set_cons_zero, List.set_cons_succ]
          have B0 := Aside0.mk Q_B0
          clear Q_B0
          have R0 := Aside0.mk Q_R0
          clear Q_R0
          have HRV := Aside0.mk (Q_HRV hb11_)
          clear Q_HRV
          clear hall hb0_ hb1_ hb2_ hb3_ hb4_ hb5_ hb6_ hb7_ hb8_ hb9_ hb10_ hb11_ hb12_ hb13_
          clear HRV
          go_wp2_with fail
          go_roundg (j - (c + 1))
          case measure => have := HQ.out; have := HBD.out; omega
          case rel => exact ⟨c + 1, j, by first | rfl | (simp; unfold wrap64; have := HBD.out; have := HL.out; omega), rfl, HB2, R0, B0, ⟨by have := HBD.out; omega⟩⟩
      case neg =>
        have hie : i = j := by have := HBS.out; unfold Bs at this; omega
        subst hie
        obtain ⟨s, hs⟩ : ∃ s, s = i := ⟨_, rfl⟩
        subst hs
        have t1 : decide (s < s) = false := decide_eq_false (by omega)
        obtain ⟨e, he⟩ : ∃ e, e = mid + im - s := ⟨_, rfl⟩
        have hbs := HBS.out
        rw [HDD.out, show p = mid + im - 1 by have := HN.out; omega] at hbs
        obtain ⟨D1, D2, hT⟩ := sym_tail lt HO.out N w0 g HG.out cp ia im ib n mid lo mid s e P A B Q HNL.out HL.out.2.2.2.2.1 HIH.out HAB.out.1 HAB.out.2 (by have := HL.out; omega) (by have := HL.out; omega) (by have := HL.out; omega) (by have := HL.out; omega) (by have := HL.out; omega) (by have := HN.out; omega) (by have := HLO.out; have := HN.out; have := HL.out; omega) hbs he
        rw [← HDD.out] at hT
        have HT := Aside0.mk hT
        have HBD : Aside0 ((ia ≤ s ∧ s ≤ im ∧ s ≤ mid ∧ im ≤ e ∧ e ≤ ib) ∧ e = mid + im - s) := ⟨hT.2.2.2.2.2.2, he⟩
        have HW2 : IntKind.i64.wrap ((nn : Int) - (s : Int)) = (e : Int) := by rw [i64_w]; unfold wrap64; have := HL.out; have := HN.out; have := HBD.out; omega
        clear hT hbs he hij HMO HBS
        go_upto_region 39 with fail
        clear t1 HW2
        by_cases hu1 : s < im <;> by_cases hu2 : s < mid <;> by_cases hu3 : ia < s <;> by_cases hu4 : e < ib
        · have g1 : decide (s < im) = true := decide_eq_true (by omega)
          have g2 : decide (im < e) = true := decide_eq_true (by have := HBD.out; omega)
          have g3 : decide (ia < s) = true := decide_eq_true (by have := HBD.out; omega)
          have g4 : decide (s < mid) = true := decide_eq_true (by have := HBD.out; omega)
          have g5 : decide (mid < e) = true := decide_eq_true (by have := HBD.out; omega)
          have g6 : decide (e < ib) = true := decide_eq_true (by have := HBD.out; omega)
          have HC1 := Aside0.mk (HT.out.1 hu1 hu2)
          have HC2 := Aside0.mk (HT.out.2.2.1 hu3 hu2)
          have HC3 := Aside0.mk (HT.out.2.2.2.2.1 hu1 hu4)
          clear HT hu1 hu2 hu3 hu4
          go_wp2_with (first | (go_at_call 127; refine (HC1.out _ BB.out (RR.out)).mono ?_; rintro e1_ w1 ⟨rfl, B1, R1⟩) | (go_at_call 120; with_reducible refine (HC2.out _ B1 (R1)).mono ?_; rintro e2_ w2 ⟨rfl, B2, R2⟩) | (go_at_call 120; with_reducible refine (HC3.out _ B2 (R2)).mono ?_; rintro e3_ w3 ⟨rfl, B3, R3⟩))
          go_end0
          exact ⟨rfl, B3, R3⟩
        · have g1 : decide (s < im) = true := decide_eq_true (by omega)
          have g2 : decide (im < e) = true := decide_eq_true (by have := HBD.out; omega)
          have g3 : decide (ia < s) = true := decide_eq_true (by have := HBD.out; omega)
          have g4 : decide (s < mid) = true := decide_eq_true (by have := HBD.out; omega)
          have g5 : decide (mid < e) = true := decide_eq_true (by have := HBD.out; omega)
          have g6 : decide (e < ib) = false := decide_eq_false (by have := HBD.out; omega)
          have HC1 := Aside0.mk (HT.out.1 hu1 hu2)
          have HC2 := Aside0.mk (HT.out.2.2.1 hu3 hu2)
          have HK3 := Aside0.mk (HT.out.2.2.2.2.2.1 (by omega))
          clear HT hu1 hu2 hu3 hu4
          go_wp2_with (first | (go_at_call 127; refine (HC1.out _ BB.out (RR.out)).mono ?_; rintro e1_ w1 ⟨rfl, B1, R1⟩) | (go_at_call 120; with_reducible refine (HC2.out _ B1 (R1)).mono ?_; rintro e2_ w2 ⟨rfl, B2, R2⟩))
          go_end0
          exact ⟨rfl, B2, HK3.out _ (R2)⟩
        · have g1 : decide (s < im) = true := decide_eq_true (by omega)
          have g2 : decide (im < e) = true := decide_eq_true (by have := HBD.out; omega)
          have g3 : decide (ia < s) = false := decide_eq_false (by have := HBD.out; omega)
          have g4 : decide (s < mid) = true := decide_eq_true (by have := HBD.out; omega)
          have g5 : decide (mid < e) = true := decide_eq_true (by have := HBD.out; omega)
          have g6 : decide (e < ib) = true := decide_eq_true (by have := HBD.out; omega)
          have HC1 := Aside0.mk (HT.out.1 hu1 hu2)
          have HK2 := Aside0.mk (HT.out.2.2.2.1 (by omega))
          have HC3 := Aside0.mk (HT.out.2.2.2.2.1 hu1 hu4)
          clear HT hu1 hu2 hu3 hu4
          go_wp2_with (first | (go_at_call 127; refine (HC1.out _ BB.out (RR.out)).mono ?_; rintro e1_ w1 ⟨rfl, B1, R1⟩) | (go_at_call 120; with_reducible refine (HC3.out _ B1 (HK2.out _ (R1))).mono ?_; rintro e3_ w3 ⟨rfl, B3, R3⟩))
          go_end0
          exact ⟨rfl, B3, R3⟩
        · have g1 : decide (s < im) = true := decide_eq_true (by omega)
          have g2 : decide (im < e) = true := decide_eq_true (by have := HBD.out; omega)
          have g3 : decide (ia < s) = false := decide_eq_false (by have := HBD.out; omega)
          have g4 : decide (s < mid) = true := decide_eq_true (by have := HBD.out; omega)
          have g5 : decide (mid < e) = true := decide_eq_true (by have := HBD.out; omega)
          have g6 : decide (e < ib) = false := decide_eq_false (by have := HBD.out; omega)
          have HC1 := Aside0.mk (HT.out.1 hu1 hu2)
          have HK2 := Aside0.mk (HT.out.2.2.2.1 (by omega))
          have HK3 := Aside0.mk (HT.out.2.2.2.2.2.1 (by omega))
          clear HT hu1 hu2 hu3 hu4
          go_wp2_with (first | (go_at_call 127; refine (HC1.out _ BB.out (RR.out)).mono ?_; rintro e1_ w1 ⟨rfl, B1, R1⟩))
          go_end0
          exact ⟨rfl, B1, HK3.out _ (HK2.out _ (R1))⟩
        · have g1 : decide (s < im) = true := decide_eq_true (by omega)
          have g2 : decide (im < e) = false := decide_eq_false (by have := HBD.out; omega)
          have g3 : decide (ia < s) = true := decide_eq_true (by have := HBD.out; omega)
          have g4 : decide (s < mid) = false := decide_eq_false (by have := HBD.out; omega)
          have g5 : decide (mid < e) = true := decide_eq_true (by have := HBD.out; omega)
          have g6 : decide (e < ib) = true := decide_eq_true (by have := HBD.out; omega)
          have HK1 := Aside0.mk (HT.out.2.1 (by omega))
          have HK2 := Aside0.mk (HT.out.2.2.2.1 (by omega))
          have HC3 := Aside0.mk (HT.out.2.2.2.2.1 hu1 hu4)
          clear HT hu1 hu2 hu3 hu4
          go_wp2_with (first | (go_at_call 120; with_reducible refine (HC3.out _ BB.out (HK2.out _ (HK1.out _ (RR.out)))).mono ?_; rintro e3_ w3 ⟨rfl, B3, R3⟩))
          go_end0
          exact ⟨rfl, B3, R3⟩
        · have g1 : decide (s < im) = true := decide_eq_true (by omega)
          have g2 : decide (im < e) = false := decide_eq_false (by have := HBD.out; omega)
          have g3 : decide (ia < s) = true := decide_eq_true (by have := HBD.out; omega)
          have g4 : decide (s < mid) = false := decide_eq_false (by have := HBD.out; omega)
          have g5 : decide (mid < e) = true := decide_eq_true (by have := HBD.out; omega)
          have g6 : decide (e < ib) = false := decide_eq_false (by have := HBD.out; omega)
          have HK1 := Aside0.mk (HT.out.2.1 (by omega))
          have HK2 := Aside0.mk (HT.out.2.2.2.1 (by omega))
          have HK3 := Aside0.mk (HT.out.2.2.2.2.2.1 (by omega))
          clear HT hu1 hu2 hu3 hu4
          go_wp2_with fail
          go_end0
          exact ⟨rfl, BB.out, HK3.out _ (HK2.out _ (HK1.out _ (RR.out)))⟩
        · have g1 : decide (s < im) = true := decide_eq_true (by omega)
          have g2 : decide (im < e) = false := decide_eq_false (by have := HBD.out; omega)
          have g3 : decide (ia < s) = false := decide_eq_false (by have := HBD.out; omega)
          have g4 : decide (s < mid) = false := decide_eq_false (by have := HBD.out; omega)
          have g5 : decide (mid < e) = true := decide_eq_true (by have := HBD.out; omega)
          have g6 : decide (e < ib) = true := decide_eq_true (by have := HBD.out; omega)
          have HK1 := Aside0.mk (HT.out.2.1 (by omega))
          have HK2 := Aside0.mk (HT.out.2.2.2.1 (by omega))
          have HC3 := Aside0.mk (HT.out.2.2.2.2.1 hu1 hu4)
          clear HT hu1 hu2 hu3 hu4
          go_wp2_with (first | (go_at_call 120; with_reducible refine (HC3.out _ BB.out (HK2.out _ (HK1.out _ (RR.out)))).mono ?_; rintro e3_ w3 ⟨rfl, B3, R3⟩))
          go_end0
          exact ⟨rfl, B3, R3⟩
        · have g1 : decide (s < im) = true := decide_eq_true (by omega)
          have g2 : decide (im < e) = false := decide_eq_false (by have := HBD.out; omega)
          have g3 : decide (ia < s) = false := decide_eq_false (by have := HBD.out; omega)
          have g4 : decide (s < mid) = false := decide_eq_false (by have := HBD.out; omega)
          have g5 : decide (mid < e) = true := decide_eq_true (by have := HBD.out; omega)
          have g6 : decide (e < ib) = false := decide_eq_false (by have := HBD.out; omega)
          have HK1 := Aside0.mk (HT.out.2.1 (by omega))
          have HK2 := Aside0.mk (HT.out.2.2.2.1 (by omega))
          have HK3 := Aside0.mk (HT.out.2.2.2.2.2.1 (by omega))
          clear HT hu1 hu2 hu3 hu4
          go_wp2_with fail
          go_end0
          exact ⟨rfl, BB.out, HK3.out _ (HK2.out _ (HK1.out _ (RR.out)))⟩
        · have g1 : decide (s < im) = false := decide_eq_false (by omega)
          have g2 : decide (im < e) = true := decide_eq_true (by have := HBD.out; omega)
          have g3 : decide (ia < s) = true := decide_eq_true (by have := HBD.out; omega)
          have g4 : decide (s < mid) = true := decide_eq_true (by have := HBD.out; omega)
          have g5 : decide (mid < e) = false := decide_eq_false (by have := HBD.out; omega)
          have g6 : decide (e < ib) = true := decide_eq_true (by have := HBD.out; omega)
          have HK1 := Aside0.mk (HT.out.2.1 (by omega))
          have HC2 := Aside0.mk (HT.out.2.2.1 hu3 hu2)
          have HK3 := Aside0.mk (HT.out.2.2.2.2.2.1 (by omega))
          clear HT hu1 hu2 hu3 hu4
          go_wp2_with (first | (go_at_call 120; with_reducible refine (HC2.out _ BB.out (HK1.out _ (RR.out))).mono ?_; rintro e2_ w2 ⟨rfl, B2, R2⟩))
          go_end0
          exact ⟨rfl, B2, HK3.out _ (R2)⟩
        · have g1 : decide (s < im) = false := decide_eq_false (by omega)
          have g2 : decide (im < e) = true := decide_eq_true (by have := HBD.out; omega)
          have g3 : decide (ia < s) = true := decide_eq_true (by have := HBD.out; omega)
          have g4 : decide (s < mid) = true := decide_eq_true (by have := HBD.out; omega)
          have g5 : decide (mid < e) = false := decide_eq_false (by have := HBD.out; omega)
          have g6 : decide (e < ib) = false := decide_eq_false (by have := HBD.out; omega)
          have HK1 := Aside0.mk (HT.out.2.1 (by omega))
          have HC2 := Aside0.mk (HT.out.2.2.1 hu3 hu2)
          have HK3 := Aside0.mk (HT.out.2.2.2.2.2.1 (by omega))
          clear HT hu1 hu2 hu3 hu4
          go_wp2_with (first | (go_at_call 120; with_reducible refine (HC2.out _ BB.out (HK1.out _ (RR.out))).mono ?_; rintro e2_ w2 ⟨rfl, B2, R2⟩))
          go_end0
          exact ⟨rfl, B2, HK3.out _ (R2)⟩
        · have g1 : decide (s < im) = false := decide_eq_false (by omega)
          have g2 : decide (im < e) = true := decide_eq_true (by have := HBD.out; omega)
          have g3 : decide (ia < s) = false := decide_eq_false (by have := HBD.out; omega)
          have g4 : decide (s < mid) = true := decide_eq_true (by have := HBD.out; omega)
          have g5 : decide (mid < e) = false := decide_eq_false (by have := HBD.out; omega)
          have g6 : decide (e < ib) = true := decide_eq_true (by have := HBD.out; omega)
          have HK1 := Aside0.mk (HT.out.2.1 (by omega))
          have HK2 := Aside0.mk (HT.out.2.2.2.1 (by omega))
          have HK3 := Aside0.mk (HT.out.2.2.2.2.2.1 (by omega))
          clear HT hu1 hu2 hu3 hu4
          go_wp2_with fail
          go_end0
          exact ⟨rfl, BB.out, HK3.out _ (HK2.out _ (HK1.out _ (RR.out)))⟩
        · have g1 : decide (s < im) = false := decide_eq_false (by omega)
          have g2 : decide (im < e) = true := decide_eq_true (by have := HBD.out; omega)
          have g3 : decide (ia < s) = false := decide_eq_false (by have := HBD.out; omega)
          have g4 : decide (s < mid) = true := decide_eq_true (by have := HBD.out; omega)
          have g5 : decide (mid < e) = false := decide_eq_false (by have := HBD.out; omega)
          have g6 : decide (e < ib) = false := decide_eq_false (by have := HBD.out; omega)
          have HK1 := Aside0.mk (HT.out.2.1 (by omega))
          have HK2 := Aside0.mk (HT.out.2.2.2.1 (by omega))
          have HK3 := Aside0.mk (HT.out.2.2.2.2.2.1 (by omega))
          clear HT hu1 hu2 hu3 hu4
          go_wp2_with fail
          go_end0
          exact ⟨rfl, BB.out, HK3.out _ (HK2.out _ (HK1.out _ (RR.out)))⟩
        · have g1 : decide (s < im) = false := decide_eq_false (by omega)
          have g2 : decide (im < e) = false := decide_eq_false (by have := HBD.out; omega)
          have g3 : decide (ia < s) = true := decide_eq_true (by have := HBD.out; omega)
          have g4 : decide (s < mid) = false := decide_eq_false (by have := HBD.out; omega)
          have g5 : decide (mid < e) = false := decide_eq_false (by have := HBD.out; omega)
          have g6 : decide (e < ib) = true := decide_eq_true (by have := HBD.out; omega)
          have HK1 := Aside0.mk (HT.out.2.1 (by omega))
          have HK2 := Aside0.mk (HT.out.2.2.2.1 (by omega))
          have HK3 := Aside0.mk (HT.out.2.2.2.2.2.1 (by omega))
          clear HT hu1 hu2 hu3 hu4
          go_wp2_with fail
          go_end0
          exact ⟨rfl, BB.out, HK3.out _ (HK2.out _ (HK1.out _ (RR.out)))⟩
        · have g1 : decide (s < im) = false := decide_eq_false (by omega)
          have g2 : decide (im < e) = false := decide_eq_false (by have := HBD.out; omega)
          have g3 : decide (ia < s) = true := decide_eq_true (by have := HBD.out; omega)
          have g4 : decide (s < mid) = false := decide_eq_false (by have := HBD.out; omega)
          have g5 : decide (mid < e) = false := decide_eq_false (by have := HBD.out; omega)
          have g6 : decide (e < ib) = false := decide_eq_false (by have := HBD.out; omega)
          have HK1 := Aside0.mk (HT.out.2.1 (by omega))
          have HK2 := Aside0.mk (HT.out.2.2.2.1 (by omega))
          have HK3 := Aside0.mk (HT.out.2.2.2.2.2.1 (by omega))
          clear HT hu1 hu2 hu3 hu4
          go_wp2_with fail
          go_end0
          exact ⟨rfl, BB.out, HK3.out _ (HK2.out _ (HK1.out _ (RR.out)))⟩
        · have g1 : decide (s < im) = false := decide_eq_false (by omega)
          have g2 : decide (im < e) = false := decide_eq_false (by have := HBD.out; omega)
          have g3 : decide (ia < s) = false := decide_eq_false (by have := HBD.out; omega)
          have g4 : decide (s < mid) = false := decide_eq_false (by have := HBD.out; omega)
          have g5 : decide (mid < e) = false := decide_eq_false (by have := HBD.out; omega)
          have g6 : decide (e < ib) = true := decide_eq_true (by have := HBD.out; omega)
          have HK1 := Aside0.mk (HT.out.2.1 (by omega))
          have HK2 := Aside0.mk (HT.out.2.2.2.1 (by omega))
          have HK3 := Aside0.mk (HT.out.2.2.2.2.2.1 (by omega))
          clear HT hu1 hu2 hu3 hu4
          go_wp2_with fail
          go_end0
          exact ⟨rfl, BB.out, HK3.out _ (HK2.out _ (HK1.out _ (RR.out)))⟩
        · have g1 : decide (s < im) = false := decide_eq_false (by omega)
          have g2 : decide (im < e) = false := decide_eq_false (by have := HBD.out; omega)
          have g3 : decide (ia < s) = false := decide_eq_false (by have := HBD.out; omega)
          have g4 : decide (s < mid) = false := decide_eq_false (by have := HBD.out; omega)
          have g5 : decide (mid < e) = false := decide_eq_false (by have := HBD.out; omega)
          have g6 : decide (e < ib) = false := decide_eq_false (by have := HBD.out; omega)
          have HK1 := Aside0.mk (HT.out.2.1 (by omega))
          have HK2 := Aside0.mk (HT.out.2.2.2.1 (by omega))
          have HK3 := Aside0.mk (HT.out.2.2.2.2.2.1 (by omega))
          clear HT hu1 hu2 hu3 hu4
          go_wp2_with fail
          go_end0
          exact ⟨rfl, BB.out, HK3.out _ (HK2.out _ (HK1.out _ (RR.out)))⟩
  · obtain ⟨lo, hlo⟩ : ∃ lo, lo = nn - ib := ⟨_, rfl⟩
    have t0 : decide (mid < im) = false := decide_eq_false (by omega)
    have HWL : IntKind.i64.wrap ((nn : Int) - (ib : Int)) = (((nn : Int) - (ib : Int))) := by rw [i64_w]; unfold wrap64; have := HL.out; have := HN.out; omega
    have HWP1 : IntKind.i64.wrap ((nn : Int) - 1) = (p : Int) := by rw [i64_w]; unfold wrap64; have := HL.out; have := HN.out; omega
    have HLO : Aside0 (mid < im ∧ ia = mid + im - ib ∧ im = mid ∨ im ≤ mid ∧ ia = ia ∧ im = im) := ⟨by have := HL.out; have := HN.out; omega⟩
    have HMO : Aside0 (Mono (fC lt dd p) ia im) := ⟨by
      rw [HDD.out]
      refine fC_mono ho P A B Q p ia im hAs hBs (by have := HL.out; have := HN.out; have := HLO.out; omega) (by have := HL.out; have := HN.out; have := HLO.out; omega) (fun c h1 h2 => by have := HL.out; have := HN.out; have := HLO.out; omega)⟩
    have HB0 : Aside0 (Bs (fC lt dd p) ia im ia im) := ⟨Bs.init _ _ _ (by have := HL.out; have := HN.out; have := HLO.out; omega)⟩
    have HLV : Aside0 (True) := ⟨trivial⟩
    have HO := Aside0.mk ho
    have HAB := Aside0.mk (And.intro hAs hBs)
    clear hmm hlo ho hAs hBs
    go_upto_region 33 with fail
    clear HWL HWP1 HW0 HW00 HW03 HW04 HWM t0 HW05
    go_loopg [20, 21] (im - ia) (fun kq v20 v21 w' => ∃ i j : Nat, v20 = .int .i64 (i : Int) ∧ v21 = .int .i64 (j : Int) ∧ Aside0 (Bs (fC lt dd p) ia im i j) ∧ Aside0 (RowB w' g dd) ∧ Aside0 (Kp g w0 w') ∧ Aside0 (kq + i = j))
    case atStart => exact ⟨ia, im, rfl, rfl, HB0, HR, hB, ⟨by have := HB0.out; unfold Bs at this; omega⟩⟩
    case round =>
      clear HB0 HR hB
      obtain ⟨i, j, rfl, rfl, HBS, RR, BB, HQ⟩ := hrel
      by_cases hij : i < j
      case pos =>
        have t1 : decide (i < j) = true := decide_eq_true hij
        have HW1 : IntKind.i64.wrap ((i : Int) + (j : Int)) = ((i + j : Nat) : Int) := by rw [i64_w]; unfold wrap64; have := HL.out; have := HN.out; have := HLO.out; have := HBS.out; unfold Bs at this; omega
        obtain ⟨c, hc2⟩ : ∃ c, c = (i + j) / 2 := ⟨_, rfl⟩
        have hb3 := HBS.out
        have hbd : i ≤ c ∧ c < j ∧ j ≤ im ∧ ia ≤ i ∧ ia ≤ c ∧ c < im ∧ im ≤ p - c ∧ p - c < ib ∧ c ≤ p := by have := HL.out; have := HN.out; have := HLO.out; unfold Bs at hb3; omega
        have HMID2 := Aside0.mk (mid_val i j c hc2 (by have := HL.out; have := HN.out; have := HLO.out; omega))
        go_upto_region 35 with fail
        rw [HMID2.out]
        clear HMID2 HW1
        obtain ⟨pc, hpc⟩ : ∃ pc, pc = p - c := ⟨_, rfl⟩
        obtain ⟨y, hy⟩ : ∃ y, dd[p - c]? = some y := some_of dd (p - c) (by rw [HDL.out]; have := HL.out; omega)
        obtain ⟨x, hx⟩ : ∃ x, dd[c]? = some x := some_of dd c (by rw [HDL.out]; have := HL.out; omega)
        have HX_pc : Aside0 (dd[pc]? = some y) := ⟨by rw [hpc]; exact hy⟩
        have HX_c := Aside0.mk hx
        have LO_pc := Aside0.mk (eq_true (show (0 : Int) ≤ (pc : Int) by omega))
        have HI_pc : Aside0 (((pc : Int) < (n : Int)) = True) := ⟨eq_true (by have := HL.out; omega)⟩
        have LO_c := Aside0.mk (eq_true (show (0 : Int) ≤ (c : Int) by omega))
        have HI_c : Aside0 (((c : Int) < (n : Int)) = True) := ⟨eq_true (by have := HL.out; omega)⟩
        have HWP : Aside0 (IntKind.i64.wrap ((p : Int) - (c : Int)) = (pc : Int)) := ⟨by rw [i64_w]; unfold wrap64; have := HL.out; have := HN.out; omega⟩
        have B0 := Aside0.mk (kp_drew BB.out)
        have R0 := Aside0.mk (RowB.below RR.out (below_drew1 (Below.refl wr.heap.size wr)))
        have HBD := Aside0.mk (And.intro hbd hij)
        have hf := fC_at (lt := lt) hy hx
        clear t1 RR BB hb3 hbd hij hc2 hy hx hpc
        cases htv : lt y x with
        | true =>
          have HTV := Aside0.mk htv
          have HB2 := Aside0.mk (HBS.out.down HMO.out HBD.out.1.1 HBD.out.1.2.1 (by rw [hf, htv]; rfl))
          clear htv hf
          refine start_ (n := 14) (S := fun w' => True) (ds := []) #[false, false, false, false, false, false, false, false, false, false, false, false, false, false] (by kernel_rfl) rfl rfl trivial (fun hHeld => ?_)
          refine with_tabW symg.tab35 symg.bits35 (fun HT_ HW_ => ?_)
          generalize wr.drew = wq at B0 R0 hHeld ⊢
          refine inv_at [0, 1, 2, 3, 4, 5, 6, 7, 8, 9, 10, 11, 12, 13] (fun a0_ b a w' => ∃ (rv : Value), a = putSel a0_ b [(0, 158, .func (.func 85) #[] #[]), (1, 159, .slice (some ⟨g, 0, none⟩) n cp), (2, 160, .int .i64 (p : Int)), (3, 161, .int .i64 (c : Int)), (4, 162, .int .i64 (pc : Int)), (5, 163, .pointer (some ⟨g, pc * 3, none⟩)), (6, 164, .agg #[.int .i64 y.nr, .int .i64 y.kd, .slice y.A y.n y.c]), (7, 165, .slice (some ⟨g, 0, none⟩) n cp), (8, 166, .int .i64 (c : Int)), (9, 167, .pointer (some ⟨g, c * 3, none⟩)), (10, 168, .agg #[.int .i64 x.nr, .int .i64 x.kd, .slice x.A x.n x.c]), (11, 169, rv), (12, 170, .bool true), (13, 171, .bool false)] ∧ (Kp g w0 w') ∧ (RowB w' g dd) ∧ (b 11 = true → ∃ r_ : Int, rv = .int .i64 r_ ∧ decide (r_ < 0) = true)) HT_.out HW_.out (by kernel_rfl) (by kernel_rfl) ?_ ?_ ?_
          · exact ⟨.bool false, by simp only [putSel, Bool.false_eq_true, if_false], B0.out, R0.out, fun h_ => absurd h_ (by decide)⟩
          · skip
            clear B0 R0
            refine steps_cons ?_ ?_
            · rintro b a w' ⟨rv, ha, Q_B0, Q_R0, Q_HRV⟩ hb_ hon hoff
              refine ⟨_, rfl, fun K hK => ?_⟩
              have e4 : a.tmps[4]? = some (.func (.func 85) #[] #[]) := by rw [ha]; exact (putSel_off rfl).trans rfl
              replace ha := Aside0.mk ha
              have B0 := Aside0.mk Q_B0
              have R0 := Aside0.mk Q_R0
              refine value_ (w1 := w') (v := .func (.func 85) #[] #[]) (by rfl) rfl ?_ ?_
              · go_simp
                (try simp only [i64_w])
                try rfl
              refine hK.out _ _ ⟨rv, (by rw [ha.out]; exact putSel_upk 0 hb_ rfl rfl rfl), Q_B0, Q_R0, fun h0_ => absurd ((hoff 11 (by kernel_rfl)).symm.trans h0_) (by decide)⟩
            refine steps_cons ?_ ?_
            · rintro b a w' ⟨rv, ha, Q_B0, Q_R0, Q_HRV⟩ hb_ hon hoff
              refine ⟨_, rfl, fun K hK => ?_⟩
              have e0 : a.tmps[0]? = some (.slice (some ⟨g, 0, none⟩) n cp) := by rw [ha]; exact (putSel_off rfl).trans rfl
              replace ha := Aside0.mk ha
              have B0 := Aside0.mk Q_B0
              have R0 := Aside0.mk Q_R0
              refine value_ (w1 := w') (v := .slice (some ⟨g, 0, none⟩) n cp) (by rfl) rfl ?_ ?_
              · go_simp
                (try simp only [i64_w])
                try rfl
              refine hK.out _ _ ⟨rv, (by rw [ha.out]; exact putSel_upk 1 hb_ rfl rfl rfl), Q_B0, Q_R0, fun h0_ => absurd ((hoff 11 (by kernel_rfl)).symm.trans h0_) (by decide)⟩
            refine steps_cons ?_ ?_
            · rintro b a w' ⟨rv, ha, Q_B0, Q_R0, Q_HRV⟩ hb_ hon hoff
              refine ⟨_, rfl, fun K hK => ?_⟩
              have e22 : a.tmps[22]? = some (.int .i64 (p : Int)) := by rw [ha]; exact (putSel_off rfl).trans rfl
              replace ha := Aside0.mk ha
              have B0 := Aside0.mk Q_B0
              have R0 := Aside0.mk Q_R0
              refine value_ (w1 := w') (v := .int .i64 (p : Int)) (by rfl) rfl ?_ ?_
              · go_simp
                (try simp only [i64_w])
                try rfl
              refine hK.out _ _ ⟨rv, (by rw [ha.out]; exact putSel_upk 2 hb_ rfl rfl rfl), Q_B0, Q_R0, fun h0_ => absurd ((hoff 11 (by kernel_rfl)).symm.trans h0_) (by decide)⟩
            refine steps_cons ?_ ?_
            · rintro b a w' ⟨rv, ha, Q_B0, Q_R0, Q_HRV⟩ hb_ hon hoff
              refine ⟨_, rfl, fun K hK => ?_⟩
              have e23 : a.tmps[23]? = some (.int .i64 (c : Int)) := by rw [ha]; exact (putSel_off rfl).trans rfl
              replace ha := Aside0.mk ha
              have B0 := Aside0.mk Q_B0
              have R0 := Aside0.mk Q_R0
              refine value_ (w1 := w') (v := .int .i64 (c : Int)) (by rfl) rfl ?_ ?_
              · go_simp
                (try simp only [i64_w])
                try rfl
              refine hK.out _ _ ⟨rv, (by rw [ha.out]; exact putSel_upk 3 hb_ rfl rfl rfl), Q_B0, Q_R0, fun h0_ => absurd ((hoff 11 (by kernel_rfl)).symm.trans h0_) (by decide)⟩
            refine steps_cons ?_ ?_
            · rintro b a w' ⟨rv, ha, Q_B0, Q_R0, Q_HRV⟩ hb_ hon hoff
              refine ⟨_, rfl, fun K hK => ?_⟩
              have e160 : a.tmps[160]? = some (.int .i64 (p : Int)) := by rw [ha]; exact putSel_on (e := (2, 160, .int .i64 (p : Int))) 2 rfl rfl (hon 2 (by kernel_rfl)) rfl
              have e161 : a.tmps[161]? = some (.int .i64 (c : Int)) := by rw [ha]; exact putSel_on (e := (3, 161, .int .i64 (c : Int))) 3 rfl rfl (hon 3 (by kernel_rfl)) rfl
              replace ha := Aside0.mk ha
              have B0 := Aside0.mk Q_B0
              have R0 := Aside0.mk Q_R0
              have hw0_ := HWP.out
              refine value_ (w1 := w') (v := .int .i64 (pc : Int)) (by rfl) rfl ?_ ?_
              · go_simp
                (try simp only [i64_w])
                try rfl
              refine hK.out _ _ ⟨rv, (by rw [ha.out]; exact putSel_upk 4 hb_ rfl rfl rfl), Q_B0, Q_R0, fun h0_ => absurd ((hoff 11 (by kernel_rfl)).symm.trans h0_) (by decide)⟩
            refine steps_cons ?_ ?_
            · rintro b a w' ⟨rv, ha, Q_B0, Q_R0, Q_HRV⟩ hb_ hon hoff
              refine ⟨_, rfl, fun K hK => ?_⟩
              have e159 : a.tmps[159]? = some (.slice (some ⟨g, 0, none⟩) n cp) := by rw [ha]; exact putSel_on (e := (1, 159, .slice (some ⟨g, 0, none⟩) n cp)) 1 rfl rfl (hon 1 (by kernel_rfl)) rfl
              have e162 : a.tmps[162]? = some (.int .i64 (pc : Int)) := by rw [ha]; exact putSel_on (e := (4, 162, .int .i64 (pc : Int))) 4 rfl rfl (hon 4 (by kernel_rfl)) rfl
              replace ha := Aside0.mk ha
              have B0 := Aside0.mk Q_B0
              have R0 := Aside0.mk Q_R0
              have p1_ := LO_pc.out
              have q1_ := HI_pc.out
              refine value_ (w1 := w') (v := .pointer (some ⟨g, pc * 3, none⟩)) (by rfl) rfl ?_ ?_
              · go_simp
                (try simp only [i64_w])
                try rfl
              refine hK.out _ _ ⟨rv, (by rw [ha.out]; exact putSel_upk 5 hb_ rfl rfl rfl), Q_B0, Q_R0, fun h0_ => absurd ((hoff 11 (by kernel_rfl)).symm.trans h0_) (by decide)⟩
            refine steps_cons ?_ ?_
            · rintro b a w' ⟨rv, ha, Q_B0, Q_R0, Q_HRV⟩ hb_ hon hoff
              refine ⟨_, rfl, fun K hK => ?_⟩
              have e163 : a.tmps[163]? = some (.pointer (some ⟨g, pc * 3, none⟩)) := by rw [ha]; exact putSel_on (e := (5, 163, .pointer (some ⟨g, pc * 3, none⟩))) 5 rfl rfl (hon 5 (by kernel_rfl)) rfl
              replace ha := Aside0.mk ha
              have B0 := Aside0.mk Q_B0
              have R0 := Aside0.mk Q_R0
              have cs_ := R0.out.cells HX_pc.out
              refine value_ (w1 := w') (v := .agg #[.int .i64 y.nr, .int .i64 y.kd, .slice y.A y.n y.c]) (by rfl) rfl ?_ ?_
              · go_simp
                (try simp only [i64_w])
                try rfl
              refine hK.out _ _ ⟨rv, (by rw [ha.out]; exact putSel_upk 6 hb_ rfl rfl rfl), Q_B0, Q_R0, fun h0_ => absurd ((hoff 11 (by kernel_rfl)).symm.trans h0_) (by decide)⟩
            refine steps_cons ?_ ?_
            · rintro b a w' ⟨rv, ha, Q_B0, Q_R0, Q_HRV⟩ hb_ hon hoff
              refine ⟨_, rfl, fun K hK => ?_⟩
              have e0 : a.tmps[0]? = some (.slice (some ⟨g, 0, none⟩) n cp) := by rw [ha]; exact (putSel_off rfl).trans rfl
              replace ha := Aside0.mk ha
              have B0 := Aside0.mk Q_B0
              have R0 := Aside0.mk Q_R0
              refine value_ (w1 := w') (v := .slice (some ⟨g, 0, none⟩) n cp) (by rfl) rfl ?_ ?_
              · go_simp
                (try simp only [i64_w])
                try rfl
              refine hK.out _ _ ⟨rv, (by rw [ha.out]; exact putSel_upk 7 hb_ rfl rfl rfl), Q_B0, Q_R0, fun h0_ => absurd ((hoff 11 (by kernel_rfl)).symm.trans h0_) (by decide)⟩
            refine steps_cons ?_ ?_
            · rintro b a w' ⟨rv, ha, Q_B0, Q_R0, Q_HRV⟩ hb_ hon hoff
              refine ⟨_, rfl, fun K hK => ?_⟩
              have e23 : a.tmps[23]? = some (.int .i64 (c : Int)) := by rw [ha]; exact (putSel_off rfl).trans rfl
              replace ha := Aside0.mk ha
              have B0 := Aside0.mk Q_B0
              have R0 := Aside0.mk Q_R0
              refine value_ (w1 := w') (v := .int .i64 (c : Int)) (by rfl) rfl ?_ ?_
              · go_simp
                (try simp only [i64_w])
                try rfl
              refine hK.out _ _ ⟨rv, (by rw [ha.out]; exact putSel_upk 8 hb_ rfl rfl rfl), Q_B0, Q_R0, fun h0_ => absurd ((hoff 11 (by kernel_rfl)).symm.trans h0_) (by decide)⟩
            refine steps_cons ?_ ?_
            · rintro b a w' ⟨rv, ha, Q_B0, Q_R0, Q_HRV⟩ hb_ hon hoff
              refine ⟨_, rfl, fun K hK => ?_⟩
              have e165 : a.tmps[165]? = some (.slice (some ⟨g, 0, none⟩) n cp) := by rw [ha]; exact putSel_on (e := (7, 165, .slice (some ⟨g, 0, none⟩) n cp)) 7 rfl rfl (hon 7 (by kernel_rfl)) rfl
              have e166 : a.tmps[166]? = some (.int .i64 (c : Int)) := by rw [ha]; exact putSel_on (e := (8, 166, .int .i64 (c : Int))) 8 rfl rfl (hon 8 (by kernel_rfl)) rfl
              replace ha := Aside0.mk ha
              have B0 := Aside0.mk Q_B0
              have R0 := Aside0.mk Q_R0
              have p1_ := LO_c.out
              have q1_ := HI_c.out
              refine value_ (w1 := w') (v := .pointer (some ⟨g, c * 3, none⟩)) (by rfl) rfl ?_ ?_
              · go_simp
                (try simp only [i64_w])
                try rfl
              refine hK.out _ _ ⟨rv, (by rw [ha.out]; exact putSel_upk 9 hb_ rfl rfl rfl), Q_B0, Q_R0, fun h0_ => absurd ((hoff 11 (by kernel_rfl)).symm.trans h0_) (by decide)⟩
            refine steps_cons ?_ ?_
            · rintro b a w' ⟨rv, ha, Q_B0, Q_R0, Q_HRV⟩ hb_ hon hoff
              refine ⟨_, rfl, fun K hK => ?_⟩
              have e167 : a.tmps[167]? = some (.pointer (some ⟨g, c * 3, none⟩)) := by rw [ha]; exact putSel_on (e := (9, 167, .pointer (some ⟨g, c * 3, none⟩))) 9 rfl rfl (hon 9 (by kernel_rfl)) rfl
              replace ha := Aside0.mk ha
              have B0 := Aside0.mk Q_B0
              have R0 := Aside0.mk Q_R0
              have cs_ := R0.out.cells HX_c.out
              refine value_ (w1 := w') (v := .agg #[.int .i64 x.nr, .int .i64 x.kd, .slice x.A x.n x.c]) (by rfl) rfl ?_ ?_
              · go_simp
                (try simp only [i64_w])
                try rfl
              refine hK.out _ _ ⟨rv, (by rw [ha.out]; exact putSel_upk 10 hb_ rfl rfl rfl), Q_B0, Q_R0, fun h0_ => absurd ((hoff 11 (by kernel_rfl)).symm.trans h0_) (by decide)⟩
            refine steps_cons ?_ ?_
            · rintro b a w' ⟨rv, ha, Q_B0, Q_R0, Q_HRV⟩ hb_ hon hoff
              refine ⟨_, rfl, fun K hK => ?_⟩
              have e158 : a.tmps[158]? = some (.func (.func 85) #[] #[]) := by rw [ha]; exact putSel_on (e := (0, 158, .func (.func 85) #[] #[])) 0 rfl rfl (hon 0 (by kernel_rfl)) rfl
              have e164 : a.tmps[164]? = some (.agg #[.int .i64 y.nr, .int .i64 y.kd, .slice y.A y.n y.c]) := by rw [ha]; exact putSel_on (e := (6, 164, .agg #[.int .i64 y.nr, .int .i64 y.kd, .slice y.A y.n y.c])) 6 rfl rfl (hon 6 (by kernel_rfl)) rfl
              have e168 : a.tmps[168]? = some (.agg #[.int .i64 x.nr, .int .i64 x.kd, .slice x.A x.n x.c]) := by rw [ha]; exact putSel_on (e := (10, 168, .agg #[.int .i64 x.nr, .int .i64 x.kd, .slice x.A x.n x.c])) 10 rfl rfl (hon 10 (by kernel_rfl)) rfl
              replace ha := Aside0.mk ha
              have B0 := Aside0.mk Q_B0
              have R0 := Aside0.mk Q_R0
              refine goesv_ (t := 158) Try.func85 (by kernel_rfl) rfl #[.agg #[.int .i64 y.nr, .int .i64 y.kd, .slice y.A y.n y.c], .agg #[.int .i64 x.nr, .int .i64 x.kd, .slice x.A x.n x.c]] (by rfl) rfl rfl e158 (by first | (simp only [List.map_toArray, List.map_cons, List.map_nil, Act.eval, Array.getD_eq_getD_getElem?, Option.getD_some, e158, e164, e168]; done) | (simp only [List.map_toArray, List.map_cons, List.map_nil, Act.eval, Array.getD_eq_getD_getElem?, Option.getD_some, e158, e164, e168]; rfl)) ?_
              with_reducible refine (HCMP.out w' y x).mono ?_
              rintro e w2 ⟨r_, rfl, hr_, hb⟩
              refine ⟨_, rfl, ?_⟩
              refine hK.out _ _ ⟨.int .i64 r_, (by rw [ha.out]; exact putSel_upk 11 hb_ rfl rfl rfl), below_row B0.out HG.out R0.out hb, RowB.below R0.out hb, fun _ => ⟨r_, rfl, hr_.trans HTV.out⟩⟩
            refine steps_cons ?_ ?_
            · rintro b a w' ⟨rv, ha, Q_B0, Q_R0, Q_HRV⟩ hb_ hon hoff
              refine ⟨_, rfl, fun K hK => ?_⟩
              have e169 : a.tmps[169]? = some (rv) := by rw [ha]; exact putSel_on (e := (11, 169, rv)) 11 rfl rfl (hon 11 (by kernel_rfl)) rfl
              replace ha := Aside0.mk ha
              have B0 := Aside0.mk Q_B0
              have R0 := Aside0.mk Q_R0
              have HRV := Aside0.mk (Q_HRV (hon 11 (by kernel_rfl)))
              obtain ⟨r_, hr1_, hr2_⟩ := HRV.out
              rw [hr1_] at e169
              refine value_ (w1 := w') (v := .bool true) (by rfl) rfl ?_ ?_
              · go_simp
                (try simp only [i64_w])
                try rfl
              refine hK.out _ _ ⟨rv, (by rw [ha.out]; exact putSel_upk 12 hb_ rfl rfl rfl), Q_B0, Q_R0, Q_HRV⟩
            refine steps_cons ?_ ?_
            · rintro b a w' ⟨rv, ha, Q_B0, Q_R0, Q_HRV⟩ hb_ hon hoff
              refine ⟨_, rfl, fun K hK => ?_⟩
              have e170 : a.tmps[170]? = some (.bool true) := by rw [ha]; exact putSel_on (e := (12, 170, .bool true)) 12 rfl rfl (hon 12 (by kernel_rfl)) rfl
              replace ha := Aside0.mk ha
              have B0 := Aside0.mk Q_B0
              have R0 := Aside0.mk Q_R0
              have HRV := Aside0.mk (Q_HRV (hon 11 (by kernel_rfl)))
              refine value_ (w1 := w') (v := .bool false) (by rfl) rfl ?_ ?_
              · go_simp
                (try simp only [i64_w])
                try rfl
              refine hK.out _ _ ⟨rv, (by rw [ha.out]; exact putSel_upk 13 hb_ rfl rfl rfl), Q_B0, Q_R0, Q_HRV⟩
            exact steps_nil
          rintro b a wl hall ⟨rv, ha, Q_B0, Q_R0, Q_HRV⟩
          clear B0 R0
          have hb0_ := hall 0 (by kernel_rfl)
          have hb1_ := hall 1 (by kernel_rfl)
          have hb2_ := hall 2 (by kernel_rfl)
          have hb3_ := hall 3 (by kernel_rfl)
          have hb4_ := hall 4 (by kernel_rfl)
          have hb5_ := hall 5 (by kernel_rfl)
          have hb6_ := hall 6 (by kernel_rfl)
          have hb7_ := hall 7 (by kernel_rfl)
          have hb8_ := hall 8 (by kernel_rfl)
          have hb9_ := hall 9 (by kernel_rfl)
          have hb10_ := hall 10 (by kernel_rfl)
          have hb11_ := hall 11 (by kernel_rfl)
          have hb12_ := hall 12 (by kernel_rfl)
          have hb13_ := hall 13 (by kernel_rfl)
          subst ha
          simp only [putSel, hb0_, hb1_, hb2_, hb3_, hb4_, hb5_, hb6_, hb7_, hb8_, hb9_, hb10_, hb11_, hb12_, hb13_, if_true, Act.put, List.setIfInBounds_toArray, List.set_cons_zero, List.set_cons_succ]
          have B0 := Aside0.mk Q_B0
          clear Q_B0
          have R0 := Aside0.mk Q_R0
          clear Q_R0
          have HRV := Aside0.mk (Q_HRV hb11_)
          clear Q_HRV
          clear hall hb0_ hb1_ hb2_ hb3_ hb4_ hb5_ hb6_ hb7_ hb8_ hb9_ hb10_ hb11_ hb12_ hb13_
          clear HRV
          go_wp2_with fail
          go_roundg (c - i)
          case measure => have := HQ.out; have := HBD.out; omega
          case rel => exact ⟨i, c, rfl, rfl, HB2, R0, B0, ⟨by have := HBD.out; omega⟩⟩
        | false =>
          have HTV := Aside0.mk htv
          have HB2 := Aside0.mk (HBS.out.up HMO.out HBD.out.1.1 HBD.out.1.2.1 (by rw [hf, htv]; rfl))
          clear htv hf
          refine start_ (n := 14) (S := fun w' => True) (ds := []) #[false, false, false, false, false, false, false, false, false, false, false, false, false, false] (by kernel_rfl) rfl rfl trivial (fun hHeld => ?_)
          refine with_tabW symg.tab35 symg.bits35 (fun HT_ HW_ => ?_)
          generalize wr.drew = wq at B0 R0 hHeld ⊢
          refine inv_at [0, 1, 2, 3, 4, 5, 6, 7, 8, 9, 10, 11, 12, 13] (fun a0_ b a w' => ∃ (rv : Value), a = putSel a0_ b [(0, 158, .func (.func 85) #[] #[]), (1, 159, .slice (some ⟨g, 0, none⟩) n cp), (2, 160, .int .i64 (p : Int)), (3, 161, .int .i64 (c : Int)), (4, 162, .int .i64 (pc : Int)), (5, 163, .pointer (some ⟨g, pc * 3, none⟩)), (6, 164, .agg #[.int .i64 y.nr, .int .i64 y.kd, .slice y.A y.n y.c]), (7, 165, .slice (some ⟨g, 0, none⟩) n cp), (8, 166, .int .i64 (c : Int)), (9, 167, .pointer (some ⟨g, c * 3, none⟩)), (10, 168, .agg #[.int .i64 x.nr, .int .i64 x.kd, .slice x.A x.n x.c]), (11, 169, rv), (12, 170, .bool false), (13, 171, .bool true)] ∧ (Kp g w0 w') ∧ (RowB w' g dd) ∧ (b 11 = true → ∃ r_ : Int, rv = .int .i64 r_ ∧ decide (r_ < 0) = false)) HT_.out HW_.out (by kernel_rfl) (by kernel_rfl) ?_ ?_ ?_
          · exact ⟨.bool false, by simp only [putSel, Bool.false_eq_true, if_false], B0.out, R0.out, fun h_ => absurd h_ (by decide)⟩
          · skip
            clear B0 R0
            refine steps_cons ?_ ?_
            · rintro b a w' ⟨rv, ha, Q_B0, Q_R0, Q_HRV⟩ hb_ hon hoff
              refine ⟨_, rfl, fun K hK => ?_⟩
              have e4 : a.tmps[4]? = some (.func (.func 85) #[] #[]) := by rw [ha]; exact (putSel_off rfl).trans rfl
              replace ha := Aside0.mk ha
              have B0 := Aside0.mk Q_B0
              have R0 := Aside0.mk Q_R0
              refine value_ (w1 := w') (v := .func (.func 85) #[] #[]) (by rfl) rfl ?_ ?_
              · go_simp
                (try simp only [i64_w])
                try rfl
              refine hK.out _ _ ⟨rv, (by rw [ha.out]; exact putSel_upk 0 hb_ rfl rfl rfl), Q_B0, Q_R0, fun h0_ => absurd ((hoff 11 (by kernel_rfl)).symm.trans h0_) (by decide)⟩
            refine steps_cons ?_ ?_
            · rintro b a w' ⟨rv, ha, Q_B0, Q_R0, Q_HRV⟩ hb_ hon hoff
              refine ⟨_, rfl, fun K hK => ?_⟩
              have e0 : a.tmps[0]? = some (.slice (some ⟨g, 0, none⟩) n cp) := by rw [ha]; exact (putSel_off rfl).trans rfl
              replace ha := Aside0.mk ha
              have B0 := Aside0.mk Q_B0
              have R0 := Aside0.mk Q_R0
              refine value_ (w1 := w') (v := .slice (some ⟨g, 0, none⟩) n cp) (by rfl) rfl ?_ ?_
              · go_simp
                (try simp only [i64_w])
                try rfl
              refine hK.out _ _ ⟨rv, (by rw [ha.out]; exact putSel_upk 1 hb_ rfl rfl rfl), Q_B0, Q_R0, fun h0_ => absurd ((hoff 11 (by kernel_rfl)).symm.trans h0_) (by decide)⟩
            refine steps_cons ?_ ?_
            · rintro b a w' ⟨rv, ha, Q_B0, Q_R0, Q_HRV⟩ hb_ hon hoff
              refine ⟨_, rfl, fun K hK => ?_⟩
              have e22 : a.tmps[22]? = some (.int .i64 (p : Int)) := by rw [ha]; exact (putSel_off rfl).trans rfl
              replace ha := Aside0.mk ha
              have B0 := Aside0.mk Q_B0
              have R0 := Aside0.mk Q_R0
              refine value_ (w1 := w') (v := .int .i64 (p : Int)) (by rfl) rfl ?_ ?_
              · go_simp
                (try simp only [i64_w])
                try rfl
              refine hK.out _ _ ⟨rv, (by rw [ha.out]; exact putSel_upk 2 hb_ rfl rfl rfl), Q_B0, Q_R0, fun h0_ => absurd ((hoff 11 (by kernel_rfl)).symm.trans h0_) (by decide)⟩
            refine steps_cons ?_ ?_
            · rintro b a w' ⟨rv, ha, Q_B0, Q_R0, Q_HRV⟩ hb_ hon hoff
              refine ⟨_, rfl, fun K hK => ?_⟩
              have e23 : a.tmps[23]? = some (.int .i64 (c : Int)) := by rw [ha]; exact (putSel_off rfl).trans rfl
              replace ha := Aside0.mk ha
              have B0 := Aside0.mk Q_B0
              have R0 := Aside0.mk Q_R0
              refine value_ (w1 := w') (v := .int .i64 (c : Int)) (by rfl) rfl ?_ ?_
              · go_simp
                (try simp only [i64_w])
                try rfl
              refine hK.out _ _ ⟨rv, (by rw [ha.out]; exact putSel_upk 3 hb_ rfl rfl rfl), Q_B0, Q_R0, fun h0_ => absurd ((hoff 11 (by kernel_rfl)).symm.trans h0_) (by decide)⟩
            refine steps_cons ?_ ?_
            · rintro b a w' ⟨rv, ha, Q_B0, Q_R0, Q_HRV⟩ hb_ hon hoff
              refine ⟨_, rfl, fun K hK => ?_⟩
              have e160 : a.tmps[160]? = some (.int .i64 (p : Int)) := by rw [ha]; exact putSel_on (e := (2, 160, .int .i64 (p : Int))) 2 rfl rfl (hon 2 (by kernel_rfl)) rfl
              have e161 : a.tmps[161]? = some (.int .i64 (c : Int)) := by rw [ha]; exact putSel_on (e := (3, 161, .int .i64 (c : Int))) 3 rfl rfl (hon 3 (by kernel_rfl)) rfl
              replace ha := Aside0.mk ha
              have B0 := Aside0.mk Q_B0
              have R0 := Aside0.mk Q_R0
              have hw0_ := HWP.out
              refine value_ (w1 := w') (v := .int .i64 (pc : Int)) (by rfl) rfl ?_ ?_
              · go_simp
                (try simp only [i64_w])
                try rfl
              refine hK.out _ _ ⟨rv, (by rw [ha.out]; exact putSel_upk 4 hb_ rfl rfl rfl), Q_B0, Q_R0, fun h0_ => absurd ((hoff 11 (by kernel_rfl)).symm.trans h0_) (by decide)⟩
            refine steps_cons ?_ ?_
            · rintro b a w' ⟨rv, ha, Q_B0, Q_R0, Q_HRV⟩ hb_ hon hoff
              refine ⟨_, rfl, fun K hK => ?_⟩
              have e159 : a.tmps[159]? = some (.slice (some ⟨g, 0, none⟩) n cp) := by rw [ha]; exact putSel_on (e := (1, 159, .slice (some ⟨g, 0, none⟩) n cp)) 1 rfl rfl (hon 1 (by kernel_rfl)) rfl
              have e162 : a.tmps[162]? = some (.int .i64 (pc : Int)) := by rw [ha]; exact putSel_on (e := (4, 162, .int .i64 (pc : Int))) 4 rfl rfl (hon 4 (by kernel_rfl)) rfl
              replace ha := Aside0.mk ha
              have B0 := Aside0.mk Q_B0
              have R0 := Aside0.mk Q_R0
              have p1_ := LO_pc.out
              have q1_ := HI_pc.out
              refine value_ (w1 := w') (v := .pointer (some ⟨g, pc * 3, none⟩)) (by rfl) rfl ?_ ?_
              · go_simp
                (try simp only [i64_w])
                try rfl
              refine hK.out _ _ ⟨rv, (by rw [ha.out]; exact putSel_upk 5 hb_ rfl rfl rfl), Q_B0, Q_R0, fun h0_ => absurd ((hoff 11 (by kernel_rfl)).symm.trans h0_) (by decide)⟩
            refine steps_cons ?_ ?_
            · rintro b a w' ⟨rv, ha, Q_B0, Q_R0, Q_HRV⟩ hb_ hon hoff
              refine ⟨_, rfl, fun K hK => ?_⟩
              have e163 : a.tmps[163]? = some (.pointer (some ⟨g, pc * 3, none⟩)) := by rw [ha]; exact putSel_on (e := (5, 163, .pointer (some ⟨g, pc * 3, none⟩))) 5 rfl rfl (hon 5 (by kernel_rfl)) rfl
              replace ha := Aside0.mk ha
              have B0 := Aside0.mk Q_B0
              have R0 := Aside0.mk Q_R0
              have cs_ := R0.out.cells HX_pc.out
              refine value_ (w1 := w') (v := .agg #[.int .i64 y.nr, .int .i64 y.kd, .slice y.A y.n y.c]) (by rfl) rfl ?_ ?_
              · go_simp
                (try simp only [i64_w])
                try rfl
              refine hK.out _ _ ⟨rv, (by rw [ha.out]; exact putSel_upk 6 hb_ rfl rfl rfl), Q_B0, Q_R0, fun h0_ => absurd ((hoff 11 (by kernel_rfl)).symm.trans h0_) (by decide)⟩
            refine steps_cons ?_ ?_
            · rintro b a w' ⟨rv, ha, Q_B0, Q_R0, Q_HRV⟩ hb_ hon hoff
              refine ⟨_, rfl, fun K hK => ?_⟩
              have e0 : a.tmps[0]? = some (.slice (some ⟨g, 0, none⟩) n cp) := by rw [ha]; exact (putSel_off rfl).trans rfl
              replace ha := Aside0.mk ha
              have B0 := Aside0.mk Q_B0
              have R0 := Aside0.mk Q_R0
              refine value_ (w1 := w') (v := .slice (some ⟨g, 0, none⟩) n cp) (by rfl) rfl ?_ ?_
              · go_simp
                (try simp only [i64_w])
                try rfl
              refine hK.out _ _ ⟨rv, (by rw [ha.out]; exact putSel_upk 7 hb_ rfl rfl rfl), Q_B0, Q_R0, fun h0_ => absurd ((hoff 11 (by kernel_rfl)).symm.trans h0_) (by decide)⟩
            refine steps_cons ?_ ?_
            · rintro b a w' ⟨rv, ha, Q_B0, Q_R0, Q_HRV⟩ hb_ hon hoff
              refine ⟨_, rfl, fun K hK => ?_⟩
              have e23 : a.tmps[23]? = some (.int .i64 (c : Int)) := by rw [ha]; exact (putSel_off rfl).trans rfl
              replace ha := Aside0.mk ha
              have B0 := Aside0.mk Q_B0
              have R0 := Aside0.mk Q_R0
              refine value_ (w1 := w') (v := .int .i64 (c : Int)) (by rfl) rfl ?_ ?_
              · go_simp
                (try simp only [i64_w])
                try rfl
              refine hK.out _ _ ⟨rv, (by rw [ha.out]; exact putSel_upk 8 hb_ rfl rfl rfl), Q_B0, Q_R0, fun h0_ => absurd ((hoff 11 (by kernel_rfl)).symm.trans h0_) (by decide)⟩
            refine steps_cons ?_ ?_
            · rintro b a w' ⟨rv, ha, Q_B0, Q_R0, Q_HRV⟩ hb_ hon hoff
              refine ⟨_, rfl, fun K hK => ?_⟩
              have e165 : a.tmps[165]? = some (.slice (some ⟨g, 0, none⟩) n cp) := by rw [ha]; exact putSel_on (e := (7, 165, .slice (some ⟨g, 0, none⟩) n cp)) 7 rfl rfl (hon 7 (by kernel_rfl)) rfl
              have e166 : a.tmps[166]? = some (.int .i64 (c : Int)) := by rw [ha]; exact putSel_on (e := (8, 166, .int .i64 (c : Int))) 8 rfl rfl (hon 8 (by kernel_rfl)) rfl
              replace ha := Aside0.mk ha
              have B0 := Aside0.mk Q_B0
              have R0 := Aside0.mk Q_R0
              have p1_ := LO_c.out
              have q1_ := HI_c.out
              refine value_ (w1 := w') (v := .pointer (some ⟨g, c * 3, none⟩)) (by rfl) rfl ?_ ?_
              · go_simp
                (try simp only [i64_w])
                try rfl
              refine hK.out _ _ ⟨rv, (by rw [ha.out]; exact putSel_upk 9 hb_ rfl rfl rfl), Q_B0, Q_R0, fun h0_ => absurd ((hoff 11 (by kernel_rfl)).symm.trans h0_) (by decide)⟩
            refine steps_cons ?_ ?_
            · rintro b a w' ⟨rv, ha, Q_B0, Q_R0, Q_HRV⟩ hb_ hon hoff
              refine ⟨_, rfl, fun K hK => ?_⟩
              have e167 : a.tmps[167]? = some (.pointer (some ⟨g, c * 3, none⟩)) := by rw [ha]; exact putSel_on (e := (9, 167, .pointer (some ⟨g, c * 3, none⟩))) 9 rfl rfl (hon 9 (by kernel_rfl)) rfl
              replace ha := Aside0.mk ha
              have B0 := Aside0.mk Q_B0
              have R0 := Aside0.mk Q_R0
              have cs_ := R0.out.cells HX_c.out
              refine value_ (w1 := w') (v := .agg #[.int .i64 x.nr, .int .i64 x.kd, .slice x.A x.n x.c]) (by rfl) rfl ?_ ?_
              · go_simp
                (try simp only [i64_w])
                try rfl
              refine hK.out _ _ ⟨rv, (by rw [ha.out]; exact putSel_upk 10 hb_ rfl rfl rfl), Q_B0, Q_R0, fun h0_ => absurd ((hoff 11 (by kernel_rfl)).symm.trans h0_) (by decide)⟩
            refine steps_cons ?_ ?_
            · rintro b a w' ⟨rv, ha, Q_B0, Q_R0, Q_HRV⟩ hb_ hon hoff
              refine ⟨_, rfl, fun K hK => ?_⟩
              have e158 : a.tmps[158]? = some (.func (.func 85) #[] #[]) := by rw [ha]; exact putSel_on (e := (0, 158, .func (.func 85) #[] #[])) 0 rfl rfl (hon 0 (by kernel_rfl)) rfl
              have e164 : a.tmps[164]? = some (.agg #[.int .i64 y.nr, .int .i64 y.kd, .slice y.A y.n y.c]) := by rw [ha]; exact putSel_on (e := (6, 164, .agg #[.int .i64 y.nr, .int .i64 y.kd, .slice y.A y.n y.c])) 6 rfl rfl (hon 6 (by kernel_rfl)) rfl
              have e168 : a.tmps[168]? = some (.agg #[.int .i64 x.nr, .int .i64 x.kd, .slice x.A x.n x.c]) := by rw [ha]; exact putSel_on (e := (10, 168, .agg #[.int .i64 x.nr, .int .i64 x.kd, .slice x.A x.n x.c])) 10 rfl rfl (hon 10 (by kernel_rfl)) rfl
              replace ha := Aside0.mk ha
              have B0 := Aside0.mk Q_B0
              have R0 := Aside0.mk Q_R0
              refine goesv_ (t := 158) Try.func85 (by kernel_rfl) rfl #[.agg #[.int .i64 y.nr, .int .i64 y.kd, .slice y.A y.n y.c], .agg #[.int .i64 x.nr, .int .i64 x.kd, .slice x.A x.n x.c]] (by rfl) rfl rfl e158 (by first | (simp only [List.map_toArray, List.map_cons, List.map_nil, Act.eval, Array.getD_eq_getD_getElem?, Option.getD_some, e158, e164, e168]; done) | (simp only [List.map_toArray, List.map_cons, List.map_nil, Act.eval, Array.getD_eq_getD_getElem?, Option.getD_some, e158, e164, e168]; rfl)) ?_
              with_reducible refine (HCMP.out w' y x).mono ?_
              rintro e w2 ⟨r_, rfl, hr_, hb⟩
              refine ⟨_, rfl, ?_⟩
              refine hK.out _ _ ⟨.int .i64 r_, (by rw [ha.out]; exact putSel_upk 11 hb_ rfl rfl rfl), below_row B0.out HG.out R0.out hb, RowB.below R0.out hb, fun _ => ⟨r_, rfl, hr_.trans HTV.out⟩⟩
            refine steps_cons ?_ ?_
            · rintro b a w' ⟨rv, ha, Q_B0, Q_R0, Q_HRV⟩ hb_ hon hoff
              refine ⟨_, rfl, fun K hK => ?_⟩
              have e169 : a.tmps[169]? = some (rv) := by rw [ha]; exact putSel_on (e := (11, 169, rv)) 11 rfl rfl (hon 11 (by kernel_rfl)) rfl
              replace ha := Aside0.mk ha
              have B0 := Aside0.mk Q_B0
              have R0 := Aside0.mk Q_R0
              have HRV := Aside0.mk (Q_HRV (hon 11 (by kernel_rfl)))
              obtain ⟨r_, hr1_, hr2_⟩ := HRV.out
              rw [hr1_] at e169
              refine value_ (w1 := w') (v := .bool false) (by rfl) rfl ?_ ?_
              · go_simp
                (try simp only [i64_w])
                try rfl
              refine hK.out _ _ ⟨rv, (by rw [ha.out]; exact putSel_upk 12 hb_ rfl rfl rfl), Q_B0, Q_R0, Q_HRV⟩
            refine steps_cons ?_ ?_
            · rintro b a w' ⟨rv, ha, Q_B0, Q_R0, Q_HRV⟩ hb_ hon hoff
              refine ⟨_, rfl, fun K hK => ?_⟩
              have e170 : a.tmps[170]? = some (.bool false) := by rw [ha]; exact putSel_on (e := (12, 170, .bool false)) 12 rfl rfl (hon 12 (by kernel_rfl)) rfl
              replace ha := Aside0.mk ha
              have B0 := Aside0.mk Q_B0
              have R0 := Aside0.mk Q_R0
              have HRV := Aside0.mk (Q_HRV (hon 11 (by kernel_rfl)))
              refine value_ (w1 := w') (v := .bool true) (by rfl) rfl ?_ ?_
              · go_simp
                (try simp only [i64_w])
                try rfl
              refine hK.out _ _ ⟨rv, (by rw [ha.out]; exact putSel_upk 13 hb_ rfl rfl rfl), Q_B0, Q_R0, Q_HRV⟩
            exact steps_nil
          rintro b a wl hall ⟨rv, ha, Q_B0, Q_R0, Q_HRV⟩
          clear B0 R0
          have hb0_ := hall 0 (by kernel_rfl)
          have hb1_ := hall 1 (by kernel_rfl)
          have hb2_ := hall 2 (by kernel_rfl)
          have hb3_ := hall 3 (by kernel_rfl)
          have hb4_ := hall 4 (by kernel_rfl)
          have hb5_ := hall 5 (by kernel_rfl)
          have hb6_ := hall 6 (by kernel_rfl)
          have hb7_ := hall 7 (by kernel_rfl)
          have hb8_ := hall 8 (by kernel_rfl)
          have hb9_ := hall 9 (by kernel_rfl)
          have hb10_ := hall 10 (by kernel_rfl)
          have hb11_ := hall 11 (by kernel_rfl)
          have hb12_ := hall 12 (by kernel_rfl)
          have hb13_ := hall 13 (by kernel_rfl)
          subst ha
          simp only [putSel, hb0_, hb1_, hb2_, hb3_, hb4_, hb5_, hb6_, hb7_, hb8_, hb9_, hb10_, hb11_, hb12_, hb13_, if_true, Act.put, List.setIfInBounds_toArray, List.set_cons_zero, List.set_cons_succ]
          have B0 := Aside0.mk Q_B0
          clear Q_B0
          have R0 := Aside0.mk Q_R0
          clear Q_R0
          have HRV := Aside0.mk (Q_HRV hb11_)
          clear Q_HRV
          clear hall hb0_ hb1_ hb2_ hb3_ hb4_ hb5_ hb6_ hb7_ hb8_ hb9_ hb10_ hb11_ hb12_ hb13_
          clear HRV
          go_wp2_with fail
          go_roundg (j - (c + 1))
          case measure => have := HQ.out; have := HBD.out; omega
          case rel => exact ⟨c + 1, j, by first | rfl | (simp; unfold wrap64; have := HBD.out; have := HL.out; omega), rfl, HB2, R0, B0, ⟨by have := HBD.out; omega⟩⟩
      case neg =>
        have hie : i = j := by have := HBS.out; unfold Bs at this; omega
        subst hie
        obtain ⟨s, hs⟩ : ∃ s, s = i := ⟨_, rfl⟩
        subst hs
        have t1 : decide (s < s) = false := decide_eq_false (by omega)
        obtain ⟨e, he⟩ : ∃ e, e = mid + im - s := ⟨_, rfl⟩
        have hbs := HBS.out
        rw [HDD.out, show p = mid + im - 1 by have := HN.out; omega] at hbs
        obtain ⟨D1, D2, hT⟩ := sym_tail lt HO.out N w0 g HG.out cp ia im ib n mid ia im s e P A B Q HNL.out HL.out.2.2.2.2.1 HIH.out HAB.out.1 HAB.out.2 (by have := HL.out; omega) (by have := HL.out; omega) (by have := HL.out; omega) (by have := HL.out; omega) (by have := HL.out; omega) (by have := HN.out; omega) (by have := HLO.out; have := HN.out; have := HL.out; omega) hbs he
        rw [← HDD.out] at hT
        have HT := Aside0.mk hT
        have HBD : Aside0 ((ia ≤ s ∧ s ≤ im ∧ s ≤ mid ∧ im ≤ e ∧ e ≤ ib) ∧ e = mid + im - s) := ⟨hT.2.2.2.2.2.2, he⟩
        have HW2 : IntKind.i64.wrap ((nn : Int) - (s : Int)) = (e : Int) := by rw [i64_w]; unfold wrap64; have := HL.out; have := HN.out; have := HBD.out; omega
        clear hT hbs he hij HMO HBS
        go_upto_region 39 with fail
        clear t1 HW2
        by_cases hu1 : s < im <;> by_cases hu2 : s < mid <;> by_cases hu3 : ia < s <;> by_cases hu4 : e < ib
        · have g1 : decide (s < im) = true := decide_eq_true (by omega)
          have g2 : decide (im < e) = true := decide_eq_true (by have := HBD.out; omega)
          have g3 : decide (ia < s) = true := decide_eq_true (by have := HBD.out; omega)
          have g4 : decide (s < mid) = true := decide_eq_true (by have := HBD.out; omega)
          have g5 : decide (mid < e) = true := decide_eq_true (by have := HBD.out; omega)
          have g6 : decide (e < ib) = true := decide_eq_true (by have := HBD.out; omega)
          have HC1 := Aside0.mk (HT.out.1 hu1 hu2)
          have HC2 := Aside0.mk (HT.out.2.2.1 hu3 hu2)
          have HC3 := Aside0.mk (HT.out.2.2.2.2.1 hu1 hu4)
          clear HT hu1 hu2 hu3 hu4
          go_wp2_with (first | (go_at_call 127; refine (HC1.out _ BB.out (RR.out)).mono ?_; rintro e1_ w1 ⟨rfl, B1, R1⟩) | (go_at_call 120; with_reducible refine (HC2.out _ B1 (R1)).mono ?_; rintro e2_ w2 ⟨rfl, B2, R2⟩) | (go_at_call 120; with_reducible refine (HC3.out _ B2 (R2)).mono ?_; rintro e3_ w3 ⟨rfl, B3, R3⟩))
          go_end0
          exact ⟨rfl, B3, R3⟩
        · have g1 : decide (s < im) = true := decide_eq_true (by omega)
          have g2 : decide (im < e) = true := decide_eq_true (by have := HBD.out; omega)
          have g3 : decide (ia < s) = true := decide_eq_true (by have := HBD.out; omega)
          have g4 : decide (s < mid) = true := decide_eq_true (by have := HBD.out; omega)
          have g5 : decide (mid < e) = true := decide_eq_true (by have := HBD.out; omega)
          have g6 : decide (e < ib) = false := decide_eq_false (by have := HBD.out; omega)
          have HC1 := Aside0.mk (HT.out.1 hu1 hu2)
          have HC2 := Aside0.mk (HT.out.2.2.1 hu3 hu2)
          have HK3 := Aside0.mk (HT.out.2.2.2.2.2.1 (by omega))
          clear HT hu1 hu2 hu3 hu4
          go_wp2_with (first | (go_at_call 127; refine (HC1.out _ BB.out (RR.out)).mono ?_; rintro e1_ w1 ⟨rfl, B1, R1⟩) | (go_at_call 120; with_reducible refine (HC2.out _ B1 (R1)).mono ?_; rintro e2_ w2 ⟨rfl, B2, R2⟩))
          go_end0
          exact ⟨rfl, B2, HK3.out _ (R2)⟩
        · have g1 : decide (s < im) = true := decide_eq_true (by omega)
          have g2 : decide (im < e) = true := decide_eq_true (by have := HBD.out; omega)
          have g3 : decide (ia < s) = false := decide_eq_false (by have := HBD.out; omega)
          have g4 : decide (s < mid) = true := decide_eq_true (by have := HBD.out; omega)
          have g5 : decide (mid < e) = true := decide_eq_true (by have := HBD.out; omega)
          have g6 : decide (e < ib) = true := decide_eq_true (by have := HBD.out; omega)
          have HC1 := Aside0.mk (HT.out.1 hu1 hu2)
          have HK2 := Aside0.mk (HT.out.2.2.2.1 (by omega))
          have HC3 := Aside0.mk (HT.out.2.2.2.2.1 hu1 hu4)
          clear HT hu1 hu2 hu3 hu4
          go_wp2_with (first | (go_at_call 127; refine (HC1.out _ BB.out (RR.out)).mono ?_; rintro e1_ w1 ⟨rfl, B1, R1⟩) | (go_at_call 120; with_reducible refine (HC3.out _ B1 (HK2.out _ (R1))).mono ?_; rintro e3_ w3 ⟨rfl, B3, R3⟩))
          go_end0
          exact ⟨rfl, B3, R3⟩
        · have g1 : decide (s < im) = true := decide_eq_true (by omega)
          have g2 : decide (im < e) = true := decide_eq_true (by have := HBD.out; omega)
          have g3 : decide (ia < s) = false := decide_eq_false (by have := HBD.out; omega)
          have g4 : decide (s < mid) = true := decide_eq_true (by have := HBD.out; omega)
          have g5 : decide (mid < e) = true := decide_eq_true (by have := HBD.out; omega)
          have g6 : decide (e < ib) = false := decide_eq_false (by have := HBD.out; omega)
          have HC1 := Aside0.mk (HT.out.1 hu1 hu2)
          have HK2 := Aside0.mk (HT.out.2.2.2.1 (by omega))
          have HK3 := Aside0.mk (HT.out.2.2.2.2.2.1 (by omega))
          clear HT hu1 hu2 hu3 hu4
          go_wp2_with (first | (go_at_call 127; refine (HC1.out _ BB.out (RR.out)).mono ?_; rintro e1_ w1 ⟨rfl, B1, R1⟩))
          go_end0
          exact ⟨rfl, B1, HK3.out _ (HK2.out _ (R1))⟩
        · have g1 : decide (s < im) = true := decide_eq_true (by omega)
          have g2 : decide (im < e) = false := decide_eq_false (by have := HBD.out; omega)
          have g3 : decide (ia < s) = true := decide_eq_true (by have := HBD.out; omega)
          have g4 : decide (s < mid) = false := decide_eq_false (by have := HBD.out; omega)
          have g5 : decide (mid < e) = true := decide_eq_true (by have := HBD.out; omega)
          have g6 : decide (e < ib) = true := decide_eq_true (by have := HBD.out; omega)
          have HK1 := Aside0.mk (HT.out.2.1 (by omega))
          have HK2 := Aside0.mk (HT.out.2.2.2.1 (by omega))
          have HC3 := Aside0.mk (HT.out.2.2.2.2.1 hu1 hu4)
          clear HT hu1 hu2 hu3 hu4
          go_wp2_with (first | (go_at_call 120; with_reducible refine (HC3.out _ BB.out (HK2.out _ (HK1.out _ (RR.out)))).mono ?_; rintro e3_ w3 ⟨rfl, B3, R3⟩))
          go_end0
          exact ⟨rfl, B3, R3⟩
        · have g1 : decide (s < im) = true := decide_eq_true (by omega)
          have g2 : decide (im < e) = false := decide_eq_false (by have := HBD.out; omega)
          have g3 : decide (ia < s) = true := decide_eq_true (by have := HBD.out; omega)
          have g4 : decide (s < mid) = false := decide_eq_false (by have := HBD.out; omega)
          have g5 : decide (mid < e) = true := decide_eq_true (by have := HBD.out; omega)
          have g6 : decide (e < ib) = false := decide_eq_false (by have := HBD.out; omega)
          have HK1 := Aside0.mk (HT.out.2.1 (by omega))
          have HK2 := Aside0.mk (HT.out.2.2.2.1 (by omega))
          have HK3 := Aside0.mk (HT.out.2.2.2.2.2.1 (by omega))
          clear HT hu1 hu2 hu3 hu4
          go_wp2_with fail
          go_end0
          exact ⟨rfl, BB.out, HK3.out _ (HK2.out _ (HK1.out _ (RR.out)))⟩
        · have g1 : decide (s < im) = true := decide_eq_true (by omega)
          have g2 : decide (im < e) = false := decide_eq_false (by have := HBD.out; omega)
          have g3 : decide (ia < s) = false := decide_eq_false (by have := HBD.out; omega)
          have g4 : decide (s < mid) = false := decide_eq_false (by have := HBD.out; omega)
          have g5 : decide (mid < e) = true := decide_eq_true (by have := HBD.out; omega)
          have g6 : decide (e < ib) = true := decide_eq_true (by have := HBD.out; omega)
          have HK1 := Aside0.mk (HT.out.2.1 (by omega))
          have HK2 := Aside0.mk (HT.out.2.2.2.1 (by omega))
          have HC3 := Aside0.mk (HT.out.2.2.2.2.1 hu1 hu4)
          clear HT hu1 hu2 hu3 hu4
          go_wp2_with (first | (go_at_call 120; with_reducible refine (HC3.out _ BB.out (HK2.out _ (HK1.out _ (RR.out)))).mono ?_; rintro e3_ w3 ⟨rfl, B3, R3⟩))
          go_end0
          exact ⟨rfl, B3, R3⟩
        · have g1 : decide (s < im) = true := decide_eq_true (by omega)
          have g2 : decide (im < e) = false := decide_eq_false (by have := HBD.out; omega)
          have g3 : decide (ia < s) = false := decide_eq_false (by have := HBD.out; omega)
          have g4 : decide (s < mid) = false := decide_eq_false (by have := HBD.out; omega)
          have g5 : decide (mid < e) = true := decide_eq_true (by have := HBD.out; omega)
          have g6 : decide (e < ib) = false := decide_eq_false (by have := HBD.out; omega)
          have HK1 := Aside0.mk (HT.out.2.1 (by omega))
          have HK2 := Aside0.mk (HT.out.2.2.2.1 (by omega))
          have HK3 := Aside0.mk (HT.out.2.2.2.2.2.1 (by omega))
          clear HT hu1 hu2 hu3 hu4
          go_wp2_with fail
          go_end0
          exact ⟨rfl, BB.out, HK3.out _ (HK2.out _ (HK1.out _ (RR.out)))⟩
        · have g1 : decide (s < im) = false := decide_eq_false (by omega)
          have g2 : decide (im < e) = true := decide_eq_true (by have := HBD.out; omega)
          have g3 : decide (ia < s) = true := decide_eq_true (by have := HBD.out; omega)
          have g4 : decide (s < mid) = true := decide_eq_true (by have := HBD.out; omega)
          have g5 : decide (mid < e) = false := decide_eq_false (by have := HBD.out; omega)
          have g6 : decide (e < ib) = true := decide_eq_true (by have := HBD.out; omega)
          have HK1 := Aside0.mk (HT.out.2.1 (by omega))
          have HC2 := Aside0.mk (HT.out.2.2.1 hu3 hu2)
          have HK3 := Aside0.mk (HT.out.2.2.2.2.2.1 (by omega))
          clear HT hu1 hu2 hu3 hu4
          go_wp2_with (first | (go_at_call 120; with_reducible refine (HC2.out _ BB.out (HK1.out _ (RR.out))).mono ?_; rintro e2_ w2 ⟨rfl, B2, R2⟩))
          go_end0
          exact ⟨rfl, B2, HK3.out _ (R2)⟩
        · have g1 : decide (s < im) = false := decide_eq_false (by omega)
          have g2 : decide (im < e) = true := decide_eq_true (by have := HBD.out; omega)
          have g3 : decide (ia < s) = true := decide_eq_true (by have := HBD.out; omega)
          have g4 : decide (s < mid) = true := decide_eq_true (by have := HBD.out; omega)
          have g5 : decide (mid < e) = false := decide_eq_false (by have := HBD.out; omega)
          have g6 : decide (e < ib) = false := decide_eq_false (by have := HBD.out; omega)
          have HK1 := Aside0.mk (HT.out.2.1 (by omega))
          have HC2 := Aside0.mk (HT.out.2.2.1 hu3 hu2)
          have HK3 := Aside0.mk (HT.out.2.2.2.2.2.1 (by omega))
          clear HT hu1 hu2 hu3 hu4
          go_wp2_with (first | (go_at_call 120; with_reducible refine (HC2.out _ BB.out (HK1.out _ (RR.out))).mono ?_; rintro e2_ w2 ⟨rfl, B2, R2⟩))
          go_end0
          exact ⟨rfl, B2, HK3.out _ (R2)⟩
        · have g1 : decide (s < im) = false := decide_eq_false (by omega)
          have g2 : decide (im < e) = true := decide_eq_true (by have := HBD.out; omega)
          have g3 : decide (ia < s) = false := decide_eq_false (by have := HBD.out; omega)
          have g4 : decide (s < mid) = true := decide_eq_true (by have := HBD.out; omega)
          have g5 : decide (mid < e) = false := decide_eq_false (by have := HBD.out; omega)
          have g6 : decide (e < ib) = true := decide_eq_true (by have := HBD.out; omega)
          have HK1 := Aside0.mk (HT.out.2.1 (by omega))
          have HK2 := Aside0.mk (HT.out.2.2.2.1 (by omega))
          have HK3 := Aside0.mk (HT.out.2.2.2.2.2.1 (by omega))
          clear HT hu1 hu2 hu3 hu4
          go_wp2_with fail
          go_end0
          exact ⟨rfl, BB.out, HK3.out _ (HK2.out _ (HK1.out _ (RR.out)))⟩
        · have g1 : decide (s < im) = false := decide_eq_false (by omega)
          have g2 : decide (im < e) = true := decide_eq_true (by have := HBD.out; omega)
          have g3 : decide (ia < s) = false := decide_eq_false (by have := HBD.out; omega)
          have g4 : decide (s < mid) = true := decide_eq_true (by have := HBD.out; omega)
          have g5 : decide (mid < e) = false := decide_eq_false (by have := HBD.out; omega)
          have g6 : decide (e < ib) = false := decide_eq_false (by have := HBD.out; omega)
          have HK1 := Aside0.mk (HT.out.2.1 (by omega))
          have HK2 := Aside0.mk (HT.out.2.2.2.1 (by omega))
          have HK3 := Aside0.mk (HT.out.2.2.2.2.2.1 (by omega))
          clear HT hu1 hu2 hu3 hu4
          go_wp2_with fail
          go_end0
          exact ⟨rfl, BB.out, HK3.out _ (HK2.out _ (HK1.out _ (RR.out)))⟩
        · have g1 : decide (s < im) = false := decide_eq_false (by omega)
          have g2 : decide (im < e) = false := decide_eq_false (by have := HBD.out; omega)
          have g3 : decide (ia < s) = true := decide_eq_true (by have := HBD.out; omega)
          have g4 : decide (s < mid) = false := decide_eq_false (by have := HBD.out; omega)
          have g5 : decide (mid < e) = false := decide_eq_false (by have := HBD.out; omega)
          have g6 : decide (e < ib) = true := decide_eq_true (by have := HBD.out; omega)
          have HK1 := Aside0.mk (HT.out.2.1 (by omega))
          have HK2 := Aside0.mk (HT.out.2.2.2.1 (by omega))
          have HK3 := Aside0.mk (HT.out.2.2.2.2.2.1 (by omega))
          clear HT hu1 hu2 hu3 hu4
          go_wp2_with fail
          go_end0
          exact ⟨rfl, BB.out, HK3.out _ (HK2.out _ (HK1.out _ (RR.out)))⟩
        · have g1 : decide (s < im) = false := decide_eq_false (by omega)
          have g2 : decide (im < e) = false := decide_eq_false (by have := HBD.out; omega)
          have g3 : decide (ia < s) = true := decide_eq_true (by have := HBD.out; omega)
          have g4 : decide (s < mid) = false := decide_eq_false (by have := HBD.out; omega)
          have g5 : decide (mid < e) = false := decide_eq_false (by have := HBD.out; omega)
          have g6 : decide (e < ib) = false := decide_eq_false (by have := HBD.out; omega)
          have HK1 := Aside0.mk (HT.out.2.1 (by omega))
          have HK2 := Aside0.mk (HT.out.2.2.2.1 (by omega))
          have HK3 := Aside0.mk (HT.out.2.2.2.2.2.1 (by omega))
          clear HT hu1 hu2 hu3 hu4
          go_wp2_with fail
          go_end0
          exact ⟨rfl, BB.out, HK3.out _ (HK2.out _ (HK1.out _ (RR.out)))⟩
        · have g1 : decide (s < im) = false := decide_eq_false (by omega)
          have g2 : decide (im < e) = false := decide_eq_false (by have := HBD.out; omega)
          have g3 : decide (ia < s) = false := decide_eq_false (by have := HBD.out; omega)
          have g4 : decide (s < mid) = false := decide_eq_false (by have := HBD.out; omega)
          have g5 : decide (mid < e) = false := decide_eq_false (by have := HBD.out; omega)
          have g6 : decide (e < ib) = true := decide_eq_true (by have := HBD.out; omega)
          have HK1 := Aside0.mk (HT.out.2.1 (by omega))
          have HK2 := Aside0.mk (HT.out.2.2.2.1 (by omega))
          have HK3 := Aside0.mk (HT.out.2.2.2.2.2.1 (by omega))
          clear HT hu1 hu2 hu3 hu4
          go_wp2_with fail
          go_end0
          exact ⟨rfl, BB.out, HK3.out _ (HK2.out _ (HK1.out _ (RR.out)))⟩
        · have g1 : decide (s < im) = false := decide_eq_false (by omega)
          have g2 : decide (im < e) = false := decide_eq_false (by have := HBD.out; omega)
          have g3 : decide (ia < s) = false := decide_eq_false (by have := HBD.out; omega)
          have g4 : decide (s < mid) = false := decide_eq_false (by have := HBD.out; omega)
          have g5 : decide (mid < e) = false := decide_eq_false (by have := HBD.out; omega)
          have g6 : decide (e < ib) = false := decide_eq_false (by have := HBD.out; omega)
          have HK1 := Aside0.mk (HT.out.2.1 (by omega))
          have HK2 := Aside0.mk (HT.out.2.2.2.1 (by omega))
          have HK3 := Aside0.mk (HT.out.2.2.2.2.2.1 (by omega))
          clear HT hu1 hu2 hu3 hu4
          go_wp2_with fail
          go_end0
          exact ⟨rfl, BB.out, HK3.out _ (HK2.out _ (HK1.out _ (RR.out)))⟩
set_option maxHeartbeats 4000000 in
theorem sym_calls (lt : Rec → Rec → Bool) (ho : Ord lt) (hc : Cmp lt) (N : Nat) (w0 : World) (g : Nat) (hg : N ≤ g) (cp : Nat) (n : Nat) (hn2 : n ≤ 1000000) : ∀ (L : Nat), ∀ (ia im ib : Nat) (P A B Q : List Rec), A.length + B.length < L + 1 → 1 ≤ A.length → 1 ≤ B.length → P.length = ia → ia + A.length = im → im + B.length = ib → Sorted lt A → Sorted lt B → (P ++ (A ++ (B ++ Q))).length = n → ∀ W, Kp g w0 W → RowB W g (P ++ (A ++ (B ++ Q))) → Calls Try.prog 120 #[.slice (some ⟨g, 0, none⟩) n cp, .int .i64 (ia : Int), .int .i64 (im : Int), .int .i64 (ib : Int), .func (.func 85) #[] #[]] W fun e w' => e = .returned (.tuple #[]) ∧ Kp g w0 w' ∧ RowB w' g (P ++ (mrg lt A B ++ Q))
  | 0 => fun ia im ib P A B Q h0 h1 h2 => absurd h0 (by omega)
  | L + 1 => by
    intro ia im ib P A B Q h0 h1 h2 hP hA hB hAs hBs hn W hW hR
    rcases Nat.lt_or_ge A.length 2 with a2 | a2
    · obtain ⟨x, rfl⟩ := List.length_eq_one_iff.1 (show A.length = 1 by omega)
      exact symL_calls lt ho hc N w0 g hg cp ia im ib n P B Q x hP (by simpa using hA) hB hBs hn hn2 W hW hR
    · rcases Nat.lt_or_ge B.length 2 with b2 | b2
      · obtain ⟨x, rfl⟩ := List.length_eq_one_iff.1 (show B.length = 1 by omega)
        exact symR_calls lt ho hc N w0 g hg cp ia im ib n P A Q x hP hA a2 (by simpa using hB) hAs hn hn2 W hW hR
      · exact symG_calls lt ho hc N w0 g hg cp ia im ib n P A B Q hP hA hB a2 b2 hAs hBs hn hn2 (fun ia' im' ib' P' A' B' Q' hlt => sym_calls lt ho hc N w0 g hg cp n hn2 L ia' im' ib' P' A' B' Q' (by omega)) W hW hR
end Go.Proofs.Ytnchdmidaigheaa.QS
namespace Go.Proofs.Ytnchdmidaigheaa.QS
set_option linter.unusedVariables false
set_option linter.unusedSimpArgs false
open Go.RowKit Go.Proofs.Ytnchdmidaigheaa.SS Go.Proofs.Ytnchdmidaigheaa.Hp Go.Proofs.YtnchdmidaigheaaW.PrintWords Go.Proofs.YtnchdmidaigheaaW.PrintLast Go.Proofs.YtnchdmidaigheaaW.PrintMore
attribute [local go_sem] max2_int min2_int max_two min_two max_three min_three max_four min_four
set_option maxHeartbeats 8000000 in
set_option maxRecDepth 100000 in
theorem stab_calls (lt : Rec → Rec → Bool) (ho : Ord lt) (hc : Cmp lt) (N : Nat) (w0 : World) (g : Nat) (hg : N ≤ g) (cp n : Nat) (d : List Rec) (hn : d.length = n) (hn2 : n ≤ 100000) (w : World) (hB : Kp g w0 w) (hR : RowB w g d) :
    Calls Try.prog 107 #[.slice (some ⟨g, 0, none⟩) n cp, .int .i64 (n : Int), .func (.func 85) #[] #[]] w fun e w' => e = .returned (.tuple #[]) ∧ Kp g w0 w' ∧ RowB w' g (ssort lt d) := by
  have HG := Aside0.mk hg
  have HO := Aside0.mk ho
  have HC := Aside0.mk hc
  have HN := Aside0.mk (And.intro hn hn2)
  have HI0 : Aside0 (∃ X r : List Rec, RowB w g (X ++ r) ∧ X.length = 0 ∧ X.length + r.length = n ∧ X ++ srt lt 20 r = srt lt 20 d) := ⟨[], d, hR, rfl, by rw [hn]; simp, rfl⟩
  replace hB := Aside0.mk hB
  clear hg ho hc hn hn2 hR
  go_enter Try.func107, Try.ntmps107
  go_wp2_with fail
  go_loopg [7, 8] (n + 1) (fun kq v7 v8 w' => ∃ a b : Nat, v7 = .int .i64 (a : Int) ∧ v8 = .int .i64 (b : Int) ∧ Aside0 (b = a + 20 ∧ a ≤ n ∧ kq = n + 1 - a) ∧ Aside0 (∃ X r : List Rec, RowB w' g (X ++ r) ∧ X.length = a ∧ X.length + r.length = n ∧ X ++ srt lt 20 r = srt lt 20 d) ∧ Aside0 (Kp g w0 w'))
  case atStart => exact ⟨0, 20, rfl, rfl, ⟨rfl, Nat.zero_le _, rfl⟩, HI0, hB⟩
  case round =>
    clear HI0 hB
    obtain ⟨a, b, rfl, rfl, HAB, HI, BB⟩ := hrel
    obtain ⟨X, r, rr, hX, hl, ht⟩ := HI.out
    clear HI
    have hab := HAB.out
    have hN := HN.out
    by_cases hb : b ≤ n
    case pos =>
      have t1 : decide (b ≤ n) = true := decide_eq_true hb
      have hsp : r.take 20 ++ r.drop 20 = r := List.take_append_drop ..
      have HCI : Aside0 (∀ W, Kp g w0 W → RowB W g (X ++ r) → Calls Try.prog 119 #[.slice (some ⟨g, 0, none⟩) n cp, .int .i64 (a : Int), .int .i64 (b : Int), .func (.func 85) #[] #[]] W fun e w' => e = .returned (.tuple #[]) ∧ Kp g w0 w' ∧ RowB w' g (X ++ (ssort lt (r.take 20) ++ r.drop 20))) := ⟨fun W hW hR => by
        rw [← hsp] at hR
        exact ins_calls lt HO.out HC.out N w0 g HG.out cp a b n X (r.take 20) (r.drop 20) hX (by rw [List.length_take]; omega) (by rw [hsp, List.length_append]; omega) (by omega) W hW hR⟩
      have HNX : Aside0 ((X ++ ssort lt (r.take 20)).length = b ∧ (X ++ ssort lt (r.take 20)).length + (r.drop 20).length = n ∧ (X ++ ssort lt (r.take 20)) ++ srt lt 20 (r.drop 20) = srt lt 20 d) := ⟨by rw [List.length_append, ssort_length, List.length_take]; omega, by rw [List.length_append, ssort_length, List.length_take, List.length_drop]; omega, by rw [← ht, srt_step lt 20 (by omega) r (by omega), List.append_assoc]⟩
      replace rr := Aside0.mk rr
      have HBN := Aside0.mk hb
      clear hsp hX hl ht hab hN hb
      go_wp2_with (go_at_call 119; refine (HCI.out _ BB.out rr.out).mono ?_; rintro e w2 ⟨rfl, b2, r2⟩)
      go_roundg (n + 1 - b)
      case measure => have := HAB.out; have := HBN.out; omega
      case rel => exact ⟨b, b + 20, rfl, by first | rfl | (simp; unfold wrap64; have := HBN.out; have := HN.out; omega), ⟨rfl, HBN.out, rfl⟩, ⟨X ++ ssort lt (r.take 20), r.drop 20, by rw [List.append_assoc]; exact r2, HNX.out.1, HNX.out.2.1, HNX.out.2.2⟩, ⟨b2⟩⟩
    case neg =>
      have t1 : decide (b ≤ n) = false := decide_eq_false hb
      have HCI : Aside0 (∀ W, Kp g w0 W → RowB W g (X ++ r) → Calls Try.prog 119 #[.slice (some ⟨g, 0, none⟩) n cp, .int .i64 (a : Int), .int .i64 (n : Int), .func (.func 85) #[] #[]] W fun e w' => e = .returned (.tuple #[]) ∧ Kp g w0 w' ∧ RowB w' g (srt lt 20 d)) := ⟨fun W hW hR => by
        rw [← List.append_nil r] at hR
        have := ins_calls lt HO.out HC.out N w0 g HG.out cp a n n X r [] hX (by omega) (by rw [List.append_nil, List.length_append]; omega) (by omega) W hW hR
        rw [List.append_nil, ← srt_short lt 20 r (by omega), ht] at this
        exact this⟩
      replace rr := Aside0.mk rr
      clear hX hl ht hab hN hb
      go_upto_region 7 with (go_at_call 119; refine (HCI.out _ BB.out rr.out).mono ?_; rintro e w2 ⟨rfl, b2, r2⟩)
      replace b2 := Aside0.mk b2
      replace r2 := Aside0.mk r2
      clear rr BB HCI t1
      go_loopg [6] (n + 1) (fun kq v6 w' => ∃ bs : Nat, v6 = .int .i64 (bs : Int) ∧ Aside0 (20 ≤ bs ∧ bs ≤ 2 * n + 20 ∧ kq = n + 21 - bs) ∧ Aside0 (RowB w' g (srt lt bs d)) ∧ Aside0 (Kp g w0 w'))
      case atStart => exact ⟨20, rfl, ⟨by omega⟩, r2, b2⟩
      case round =>
      clear b2 r2 HAB
      obtain ⟨bs, rfl, HBS, RR, BB⟩ := hrel
      by_cases hbs : bs < n
      case neg =>
        have t1 : decide (bs < n) = false := decide_eq_false hbs
        have rr := RR.out
        rw [srt_short lt bs d (by have := HN.out; omega)] at rr
        replace rr := Aside0.mk rr
        clear hbs RR
        go_wp2_with fail
        go_end0
        exact ⟨rfl, BB.out, rr.out⟩
      case pos =>
      have t1 : decide (bs < n) = true := decide_eq_true hbs
      have HBN := Aside0.mk hbs
      obtain ⟨b2, hb2⟩ : ∃ b2, b2 = 2 * bs := ⟨_, rfl⟩
      have HB2 := Aside0.mk hb2
      have HW2 : IntKind.i64.wrap (2 * (bs : Int)) = (b2 : Int) := by rw [i64_w]; unfold wrap64; have := HBS.out; have := HN.out; omega
      have HI0 : Aside0 (∃ X r : List Rec, RowB wr g (X ++ srt lt bs r) ∧ X.length = 0 ∧ X.length + r.length = n ∧ X ++ srt lt b2 r = srt lt b2 d) := ⟨[], d, RR.out, rfl, by rw [HN.out.1]; simp, rfl⟩
      clear hbs hb2 RR
      go_upto_region 9 with fail
      clear t1
      go_loopg [7, 8] (n + 1) (fun kq v7 v8 w' => ∃ a b : Nat, v7 = .int .i64 (a : Int) ∧ v8 = .int .i64 (b : Int) ∧ Aside0 (b = a + b2 ∧ a ≤ n ∧ kq = n + 1 - a) ∧ Aside0 (∃ X r : List Rec, RowB w' g (X ++ srt lt bs r) ∧ X.length = a ∧ X.length + r.length = n ∧ X ++ srt lt b2 r = srt lt b2 d) ∧ Aside0 (Kp g w0 w'))
      case atStart => exact ⟨0, b2, rfl, by first | rfl | (rw [← i64_w, HW2]), ⟨by omega, Nat.zero_le _, rfl⟩, HI0, BB⟩
      case round =>
      clear HI0 BB
      obtain ⟨a, b, rfl, rfl, HAB, HI, BB⟩ := hrel
      obtain ⟨X, r, rr, hX, hl, ht⟩ := HI.out
      clear HI
      have hab := HAB.out
      have hN := HN.out
      have hB2 := HB2.out
      have hBS := HBS.out
      obtain ⟨m, hm⟩ : ∃ m, m = a + bs := ⟨_, rfl⟩
      have HW3 : IntKind.i64.wrap ((a : Int) + (bs : Int)) = (m : Int) := by rw [i64_w]; unfold wrap64; omega
      obtain ⟨b3, hb3⟩ : ∃ b3, b3 = b + b2 := ⟨_, rfl⟩
      have HB3 := Aside0.mk hb3
      by_cases hb : b ≤ n
      case pos =>
        have t1 : decide (b ≤ n) = true := decide_eq_true hb
        have HW4 : IntKind.i64.wrap ((b : Int) + (b2 : Int)) = (b3 : Int) := by rw [i64_w]; unfold wrap64; omega
        have hsp := srt_two lt bs (by omega) r (by omega)
        have HCI : Aside0 (∀ W, Kp g w0 W → RowB W g (X ++ srt lt bs r) → Calls Try.prog 120 #[.slice (some ⟨g, 0, none⟩) n cp, .int .i64 (a : Int), .int .i64 (m : Int), .int .i64 (b : Int), .func (.func 85) #[] #[]] W fun e w' => e = .returned (.tuple #[]) ∧ Kp g w0 w' ∧ RowB w' g (X ++ (ssort lt (r.take b2) ++ srt lt bs (r.drop b2)))) := ⟨fun W hW hR => by
          rw [hsp] at hR
          have := sym_calls lt HO.out HC.out N w0 g HG.out cp n (by omega) n a m b X (ssort lt (r.take bs)) (ssort lt ((r.drop bs).take bs)) (srt lt bs (r.drop (2 * bs))) (by rw [ssort_length, ssort_length, List.length_take, List.length_take, List.length_drop]; omega) (by rw [ssort_length, List.length_take]; omega) (by rw [ssort_length, List.length_take, List.length_drop]; omega) hX (by rw [ssort_length, List.length_take]; omega) (by rw [ssort_length, List.length_take, List.length_drop]; omega) (ssort_stable HO.out _).1 (ssort_stable HO.out _).1 (by rw [← hsp, List.length_append, srt_length]; omega) W hW hR
          rw [ssort_mrg HO.out, take_two, ← hB2] at this
          exact this⟩
        have HNX : Aside0 ((X ++ ssort lt (r.take b2)).length = b ∧ (X ++ ssort lt (r.take b2)).length + (r.drop b2).length = n ∧ (X ++ ssort lt (r.take b2)) ++ srt lt b2 (r.drop b2) = srt lt b2 d) := ⟨by rw [List.length_append, ssort_length, List.length_take]; omega, by rw [List.length_append, ssort_length, List.length_take, List.length_drop]; omega, by rw [← ht, srt_step lt b2 (by omega) r (by omega), List.append_assoc]⟩
        replace rr := Aside0.mk rr
        have HBN2 := Aside0.mk hb
        clear hsp hX hl ht hab hN hb hB2 hBS hm hb3
        go_wp2_with (go_at_call 120; refine (HCI.out _ BB.out rr.out).mono ?_; rintro e w2 ⟨rfl, bb2, r2⟩)
        go_roundg (n + 1 - b)
        case measure => have := HAB.out; have := HBN2.out; have := HB2.out; have := HBS.out; omega
        case rel => exact ⟨b, b3, rfl, by first | rfl | (rw [← i64_w, HW4]) | (simp; unfold wrap64; have := HBN2.out; have := HN.out; have := HB3.out; have := HB2.out; have := HBS.out; omega), ⟨HB3.out, HBN2.out, rfl⟩, ⟨X ++ ssort lt (r.take b2), r.drop b2, by rw [List.append_assoc]; exact r2, HNX.out.1, HNX.out.2.1, HNX.out.2.2⟩, ⟨bb2⟩⟩
      case neg =>
        have t1 : decide (b ≤ n) = false := decide_eq_false hb
        have HW5 : IntKind.i64.wrap ((bs : Int) * 2) = (b2 : Int) := by rw [i64_w]; unfold wrap64; omega
        have HMB : Aside0 (20 ≤ b2 ∧ b2 ≤ 2 * n + 20 ∧ n + 21 - b2 < n + 21 - bs) := ⟨by have := HBN.out; omega⟩
        by_cases hmn : m < n
        case pos =>
          have t2 : decide (m < n) = true := decide_eq_true hmn
          have hsp : srt lt bs r = ssort lt (r.take bs) ++ ssort lt (r.drop bs) := by rw [srt_step lt bs (by omega) r (by omega), srt_short lt bs (r.drop bs) (by rw [List.length_drop]; omega)]
          have HCI : Aside0 (∀ W, Kp g w0 W → RowB W g (X ++ srt lt bs r) → Calls Try.prog 120 #[.slice (some ⟨g, 0, none⟩) n cp, .int .i64 (a : Int), .int .i64 (m : Int), .int .i64 (n : Int), .func (.func 85) #[] #[]] W fun e w' => e = .returned (.tuple #[]) ∧ Kp g w0 w' ∧ RowB w' g (srt lt b2 d)) := ⟨fun W hW hR => by
            rw [hsp, ← List.append_nil (ssort lt (r.drop bs))] at hR
            have := sym_calls lt HO.out HC.out N w0 g HG.out cp n (by omega) n a m n X (ssort lt (r.take bs)) (ssort lt (r.drop bs)) [] (by rw [ssort_length, ssort_length, List.length_take, List.length_drop]; omega) (by rw [ssort_length, List.length_take]; omega) (by rw [ssort_length, List.length_drop]; omega) hX (by rw [ssort_length, List.length_take]; omega) (by rw [ssort_length, List.length_drop]; omega) (ssort_stable HO.out _).1 (ssort_stable HO.out _).1 (by rw [List.append_nil, ← hsp, List.length_append, srt_length]; omega) W hW hR
            rw [ssort_mrg HO.out, List.take_append_drop, List.append_nil, ← srt_short lt b2 r (by omega), ht] at this
            exact this⟩
          replace rr := Aside0.mk rr
          clear hsp hX hl ht hab hN hb hB2 hBS hm hb3 hmn
          go_wp2_with (go_at_call 120; refine (HCI.out _ BB.out rr.out).mono ?_; rintro e w2 ⟨rfl, bb2, r2⟩)
          go_roundg (n + 21 - b2)
          case measure => have := HMB.out; have := HBS.out; omega
          case rel => exact ⟨b2, by first | rfl | (rw [← i64_w, HW5]) | (simp; unfold wrap64; have := HMB.out; have := HN.out; have := HB2.out; have := HBS.out; omega), ⟨HMB.out.1, HMB.out.2.1, rfl⟩, ⟨r2⟩, ⟨bb2⟩⟩
        case neg =>
          have t2 : decide (m < n) = false := decide_eq_false hmn
          have hsp : X ++ srt lt bs r = srt lt b2 d := by rw [← ht, srt_short lt bs r (by omega), srt_short lt b2 r (by omega)]
          rw [hsp] at rr
          replace rr := Aside0.mk rr
          clear hsp hX hl ht hab hN hb hB2 hBS hm hb3 hmn
          go_wp2_with fail
          go_roundg (n + 21 - b2)
          case measure => have := HMB.out; have := HBS.out; omega
          case rel => exact ⟨b2, by first | rfl | (rw [← i64_w, HW5]) | (simp; unfold wrap64; have := HMB.out; have := HN.out; have := HB2.out; have := HBS.out; omega), ⟨HMB.out.1, HMB.out.2.1, rfl⟩, rr, BB⟩
theorem sort_calls (lt : Rec → Rec → Bool) (ho : Ord lt) (hc : Cmp lt) (N : Nat) (w0 : World) (g : Nat) (hg : N ≤ g) (cp n : Nat) (d : List Rec) (hn : d.length = n) (hn2 : n ≤ 100000) (w : World) (hB : Kp g w0 w) (hR : RowB w g d) :
    Calls Try.prog 84 #[.slice (some ⟨g, 0, none⟩) n cp, .func (.func 85) #[] #[]] w fun e w' => e = .returned (.tuple #[]) ∧ Kp g w0 w' ∧ RowB w' g (ssort lt d) := by
  have HC := Aside0.mk (fun W hW hR' => stab_calls lt ho hc N w0 g hg cp n d hn hn2 W hW hR')
  replace hB := Aside0.mk hB
  replace hR := Aside0.mk hR
  clear ho hc hg hn hn2
  go_enter Try.func84, Try.ntmps84
  go_wp2_with (go_at_call 107; refine (HC.out _ hB.out hR.out).mono ?_; rintro e w2 ⟨rfl, b2, r2⟩)
  go_end0
  exact ⟨rfl, b2, r2⟩
set_option maxHeartbeats 4000000 in
theorem ins_nil (fv : Value) (cp : Nat) (w : World) : Calls Try.prog 119 #[.slice none 0 cp, .int .i64 0, .int .i64 0, fv] w fun e w' => e = .returned (.tuple #[]) ∧ Below w.heap.size w w' := by
  have hB := Aside0.mk (Below.refl w.heap.size w)
  go_enter Try.func119, Try.ntmps119
  go_wp2_with fail
  go_loopg [8] 1 (fun kq v8 w' => v8 = .int .i64 1 ∧ Aside0 (Below w.heap.size w w'))
  case atStart => exact ⟨rfl, hB⟩
  case round =>
    clear hB
    obtain ⟨rfl, BB⟩ := hrel
    go_wp2_with fail
    go_end0
    exact ⟨rfl, BB.out⟩
set_option maxHeartbeats 4000000 in
theorem stab_nil (fv : Value) (cp : Nat) (w : World) : Calls Try.prog 107 #[.slice none 0 cp, .int .i64 0, fv] w fun e w' => e = .returned (.tuple #[]) ∧ Below w.heap.size w w' := by
  have hB := Aside0.mk (Below.refl w.heap.size w)
  go_enter Try.func107, Try.ntmps107
  go_wp2_with fail
  go_loopg [7, 8] 1 (fun kq v7 v8 w' => v7 = .int .i64 0 ∧ v8 = .int .i64 20 ∧ Aside0 (Below w.heap.size w w'))
  case atStart => exact ⟨rfl, rfl, hB⟩
  case round =>
    clear hB
    obtain ⟨rfl, rfl, BB⟩ := hrel
    go_upto_region 7 with (go_at_call 119; refine (ins_nil fv cp _).mono ?_; rintro e w2 ⟨rfl, b2⟩)
    replace b2 := Aside0.mk (below_then BB.out BB.out.size b2)
    clear BB
    go_loopg [6] 1 (fun kq v6 w' => v6 = .int .i64 20 ∧ Aside0 (Below w.heap.size w w'))
    case atStart => exact ⟨rfl, b2⟩
    case round =>
    clear b2
    obtain ⟨rfl, BB⟩ := hrel
    go_wp2_with fail
    go_end0
    exact ⟨rfl, BB.out⟩
theorem sort_nil (fv : Value) (cp : Nat) (w : World) : Calls Try.prog 84 #[.slice none 0 cp, fv] w fun e w' => e = .returned (.tuple #[]) ∧ Below w.heap.size w w' := by
  go_enter Try.func84, Try.ntmps84
  go_wp2_with (go_at_call 107; refine (stab_nil fv cp _).mono ?_; rintro e w2 ⟨rfl, b2⟩)
  go_end0
  exact ⟨rfl, b2⟩
end Go.Proofs.Ytnchdmidaigheaa.QS
namespace Go.Proofs.Ytnchdmidaigheaa.QS
set_option linter.unusedVariables false
set_option linter.unusedSimpArgs false
open Go.RowKit Go.Proofs.Ytnchdmidaigheaa.SS Go.Proofs.Ytnchdmidaigheaa.Hp Go.Proofs.YtnchdmidaigheaaW.PrintWords Go.Proofs.YtnchdmidaigheaaW.PrintLast Go.Proofs.YtnchdmidaigheaaW.PrintMore
abbrev R0 := S65
theorem inf_byte : (Try.prog.info? 5).map (fun i => (i.zero, i.size, i.bytes)) = some (some (.int .u8 0), 1, 1) := by kernel_rfl
set_option maxHeartbeats 4000000 in
set_option maxRecDepth 100000 in
theorem bclone_calls (A : Option Addr) (cp : Nat) (xs : List Int) (w : World) (hn : xs.length ≤ 100000) (hC : Kd.C (Kd.int .u8) w A xs.length xs) :
    Calls Try.prog 118 #[.slice A xs.length cp] w fun e w' => ∃ v, e = .returned v ∧ Kd.R (Kd.int .u8) 5 w' w.heap.size (fun k => w.heap.size ≤ k) v xs ∧ Below w.heap.size w w' := by
  have hre := Kd.reads_of_C (d := (0 : Int)) hC
  cases A with
  | none =>
    have h0 : xs.length = 0 := by
      rcases Nat.eq_zero_or_pos xs.length with h | h
      · exact h
      · obtain ⟨ad, he, _⟩ := hre.2.2 h
        cases he
    obtain rfl := List.eq_nil_of_length_eq_zero h0
    have e1 := fun W : World => Lib.run_eql_slice_nil (P := Try.prog) W 38 5 none 0 cp 0 0 Try.underlying38
    clear hC hre h0 hn
    go_enter Try.func118, Try.ntmps118
    go_wp2_with fail
    go_ret
    exact ⟨_, rfl, Kd.R_nil _ _ _ _ _, Below.refl _ _⟩
  | some ad =>
    have e1 := fun W : World => Lib.run_eql_slice_nil (P := Try.prog) W 38 5 (some ad) xs.length cp 0 0 Try.underlying38
    have HC : Aside0 (∀ j u, (nums .u8 xs)[j]? = some u → w.cell? (ad.add j) = some u) := ⟨fun j u hu => by
      unfold nums at hu
      rw [List.getElem?_map] at hu
      obtain ⟨x, hx, rfl⟩ := Option.map_eq_some_iff.1 hu
      have hj := (List.getElem?_eq_some_iff.1 hx).1
      obtain ⟨ad', he, hc⟩ := hre.2.2 (by omega)
      obtain rfl := Option.some.inj he
      rw [hc j hj, List.getD_eq_getElem?_getD, hx]
      rfl⟩
    have HH := Aside0.mk hn
    clear hC hn hre
    obtain ⟨i0, hi0, hz⟩ := Option.map_eq_some_iff.1 inf_byte
    simp only [Prod.mk.injEq] at hz
    obtain ⟨hz0, hz1, hz2⟩ := hz
    have HI := Aside0.mk (And.intro hi0 (And.intro hz0 (And.intro hz1 hz2)))
    clear hi0 hz0 hz1 hz2
    go_enter Try.func118, Try.ntmps118
    go_wp2_with (at_builtin; refine wpList_append_own_at _ rfl _ _ 38 rfl w.heap.size 5 i0 _ 1 1 Try.underlying38 HI.out.1 HI.out.2.1 HI.out.2.2.1 HI.out.2.2.2 rfl (by decide) _ 0 [] rfl (World.ownsRow_made w #[] 0 (Nat.le_refl _) (Nat.zero_le _) rfl) ad xs.length cp (nums .u8 xs) rfl (by rw [nums_length, Nat.mul_one]) (fun j u hj => pw_cell_below (below_alloc (Below.refl _ _) _) (HC.out j u hj)) (by intro u hu; obtain ⟨x, _, rfl⟩ := List.mem_map.1 hu; rfl) (by have := HH.out; unfold maxLen; omega) (by have := HH.out; omega) (by simp) ?_; intro v w1 ho hg hnil hat; replace ho := Aside0.mk ho; replace hg := Aside0.mk hg; clear hnil hat)
    go_ret
    have hb := pw_below_grown (below_alloc (Below.refl w.heap.size w) _) _ (by simp) hg.out (fun k hk => by have e : w.heap.size = k := Option.some.inj hk; omega)
    have ho1 := ho.out
    rw [Nat.zero_add, List.nil_append] at ho1
    exact ⟨v, rfl, Kd.R_of_own (enc := Value.int .u8) ho1 (fun k hk => own_base ho1 k hk), hb⟩
abbrev Rp := R0 × (Option Addr × Nat)
def recOf (p : Rp) : Rec := ⟨p.1.f0, p.1.f1, p.2.1, p.1.f2.length, p.2.2⟩
def Rp.made (W : World) (base : Nat) (ok : Nat → Prop) (p : Rp) : Prop := (Kd.int .u8).R 5 W base ok (.slice p.2.1 p.1.f2.length p.2.2) p.1.f2
theorem encs_at (ps : List Rec) (j : Nat) (x : Rec) (h : ps[j]? = some x) (i : Nat) (hi : i < 3) : (ps.flatMap Rec.enc)[j * 3 + i]? = x.enc[i]? := by
  induction ps generalizing j with
  | nil => simp at h
  | cons a r ih =>
    rw [List.flatMap_cons]
    have ha : (Rec.enc a).length = 3 := rfl
    cases j with
    | zero =>
      obtain rfl : a = x := by simpa using h
      rw [List.getElem?_append_left (by omega)]
      simp
    | succ j =>
      rw [List.getElem?_append_right (by omega), ha, show (j + 1) * 3 + i - 3 = j * 3 + i by omega]
      exact ih j (by simpa using h)
theorem encs_len (ps : List Rec) : (ps.flatMap Rec.enc).length = ps.length * 3 := by
  induction ps with
  | nil => rfl
  | cons a r ih => rw [List.flatMap_cons, List.length_append, ih, List.length_cons]; show 3 + _ = _; omega
theorem rows_of_R {W : World} {base : Nat} {ok : Nat → Prop} {v : Value} {l : List R0} (h : Kd.R k65 65 W base ok v l) :
    ∃ ps : List Rp, ps.map (·.1) = l ∧ W.ownsRow base 65 3 v ps.length ((ps.map recOf).flatMap Rec.enc) ∧ ∀ p ∈ ps, p.made W base (fun k => ok k ∧ some k ≠ v.ownBlock) := by
  obtain ⟨h0, inner, ho, hr⟩ := h
  obtain ⟨ps, hl, hR⟩ := list_of (fun j (p : Rp) => l[j]? = some p.1 ∧ p.made W base (fun k => ok k ∧ some k ≠ v.ownBlock) ∧ (inner.drop (j * 3)).take 3 = (recOf p).enc) l.length (fun j hj => by
    obtain ⟨v7, hc, h7⟩ := k65_openM (hr.2 j l[j] (List.getElem?_eq_getElem hj))
    obtain ⟨A7, c7, rfl⟩ := Kd.R_slice h7
    exact ⟨(l[j], A7, c7), List.getElem?_eq_getElem hj, h7, hc⟩)
  have hm : ps.map (·.1) = l := by
    apply List.ext_getElem?
    intro j
    rw [List.getElem?_map]
    rcases Nat.lt_or_ge j l.length with hj | hj
    · rw [List.getElem?_eq_getElem (show j < ps.length by omega)]
      exact ((hR j _ (List.getElem?_eq_getElem (by omega))).1).symm
    · rw [List.getElem?_eq_none (by omega), List.getElem?_eq_none hj]
      rfl
  have hin : inner.length = l.length * 3 := hr.1
  have he : inner = (ps.map recOf).flatMap Rec.enc := by
    apply List.ext_getElem?
    intro j
    rcases Nat.lt_or_ge j (l.length * 3) with hj | hj
    · have hq : j / 3 < ps.length := by omega
      have hjj : j / 3 * 3 + j % 3 = j := by omega
      have e1 : (ps.map recOf)[j / 3]? = some (recOf ps[j / 3]) := by rw [List.getElem?_map, List.getElem?_eq_getElem hq]; rfl
      have e2 := encs_at (ps.map recOf) (j / 3) _ e1 (j % 3) (by omega)
      rw [hjj] at e2
      rw [e2, ← (hR (j / 3) _ (List.getElem?_eq_getElem hq)).2.2, List.getElem?_take, if_pos (by omega), List.getElem?_drop, hjj]
    · rw [List.getElem?_eq_none (by omega), List.getElem?_eq_none (by rw [encs_len, List.length_map]; omega)]
  refine ⟨ps, hm, ?_, fun p hp => ?_⟩
  · rw [← he, hl]
    exact ho
  · obtain ⟨j, hj, rfl⟩ := List.getElem_of_mem hp
    exact (hR j _ (List.getElem?_eq_getElem hj)).2.1
theorem R_of_rows {W : World} {base : Nat} {ok : Nat → Prop} {v : Value} {ps : List Rp} (h0 : ∀ k, v.ownBlock = some k → ok k) (ho : W.ownsRow base 65 3 v ps.length ((ps.map recOf).flatMap Rec.enc)) (hg : ∀ p ∈ ps, p.made W base (fun k => ok k ∧ some k ≠ v.ownBlock)) :
    Kd.R k65 65 W base ok v (ps.map (·.1)) := by
  refine ⟨h0, (ps.map recOf).flatMap Rec.enc, by rw [List.length_map]; exact ho, by rw [encs_len, List.length_map, List.length_map]; rfl, fun j x hx => ?_⟩
  rw [List.getElem?_map] at hx
  obtain ⟨p, hp, rfl⟩ := Option.map_eq_some_iff.1 hx
  have e : (((ps.map recOf).flatMap Rec.enc).drop (j * 3)).take 3 = (recOf p).enc := by
    apply List.ext_getElem?
    intro i
    rw [List.getElem?_take]
    split
    · rename_i hi
      rw [List.getElem?_drop]
      exact encs_at (ps.map recOf) j (recOf p) (by rw [List.getElem?_map, hp]; rfl) i hi
    · rename_i hi
      rw [List.getElem?_eq_none (by show 3 ≤ i; omega)]
  show k65.M W base _ p.1 ((((ps.map recOf).flatMap Rec.enc).drop (j * 3)).take 3)
  rw [e]
  exact k65_mkM W base _ p.1 (hg p (List.mem_of_getElem? hp))
theorem ssort_map {α β : Type} (f : α → β) {lt : α → α → Bool} {lt' : β → β → Bool} (h : ∀ x y, lt' (f x) (f y) = lt x y) (l : List α) : ssort lt' (l.map f) = (ssort lt l).map f := by
  have hp : ∀ (x : α) (s : List α), put lt' (f x) (s.map f) = (put lt x s).map f := by
    intro x s
    induction s with
    | nil => rfl
    | cons y r ih =>
      simp only [List.map_cons, put, h]
      split
      · rfl
      · rw [ih]; rfl
  unfold ssort
  suffices hs : ∀ (s : List α), (l.map f).foldl (fun s x => put lt' x s) (s.map f) = (l.foldl (fun s x => put lt x s) s).map f from hs []
  induction l with
  | nil => intro s; rfl
  | cons a r ih => intro s; simp only [List.map_cons, List.foldl_cons]; rw [hp]; exact ih _
theorem sort_R (lt : Rec → Rec → Bool) (ltS : R0 → R0 → Bool) (hlt : ∀ x y : Rp, lt (recOf x) (recOf y) = ltS x.1 y.1) (hord : Ord lt) (hcmp : Cmp lt) {W : World} {base : Nat} {ok : Nat → Prop} {v : Value} {l : List R0} (hn : l.length ≤ 100000) (h : Kd.R k65 65 W base ok v l) :
    Calls Try.prog 84 #[v, .func (.func 85) #[] #[]] W fun e w' => e = .returned (.tuple #[]) ∧ Kd.R k65 65 w' base ok v (ssort ltS l) ∧ W.grownBy w' v.ownBlock := by
  obtain ⟨ps, rfl, ho, hg⟩ := rows_of_R h
  have h0 := h.1
  rw [List.length_map] at hn
  have e1 : ssort lt (ps.map recOf) = (ssort (fun x y : Rp => ltS x.1 y.1) ps).map recOf := ssort_map recOf hlt ps
  have e2 : ssort ltS (ps.map (·.1)) = (ssort (fun x y : Rp => ltS x.1 y.1) ps).map (·.1) := ssort_map (·.1) (fun _ _ => rfl) ps
  have hmem : ∀ p ∈ ssort (fun x y : Rp => ltS x.1 y.1) ps, p ∈ ps := fun p hp => by
    have ho : Ord (fun x y : Rp => ltS x.1 y.1) := by
      refine ⟨fun x y h => ?_, fun x y z h1 h2 => ?_⟩
      · rw [← hlt] at h ⊢; exact hord.1 _ _ h
      · rw [← hlt] at h1 h2 ⊢; exact hord.2 _ _ _ h1 h2
    exact ((ssort_stable ho ps).2.1 p).1 hp
  obtain ⟨hl, ⟨rfl, hz⟩ | ⟨g, cap, cur, rfl, hgb, hh, h1, h2, h3, h4⟩⟩ := ho
  · obtain rfl := List.eq_nil_of_length_eq_zero hz
    refine (sort_nil _ 0 W).mono ?_
    rintro e w' ⟨rfl, hb⟩
    exact ⟨rfl, Kd.R_below h hb, grown_of_below hb _⟩
  · refine (sort_calls lt hord hcmp g W g (Nat.le_refl _) cap ps.length (ps.map recOf) (by simp) hn W (Kp.refl _ _) ⟨cur, hh, fun j x hx i hi => ?_⟩).mono ?_
    · have hj := (List.getElem?_eq_some_iff.1 hx).1
      have e := encs_at (ps.map recOf) j x hx i hi
      rw [← e, ← h4, List.getElem?_take, if_pos (by rw [List.length_map] at hj; omega)]
      simp
    · rintro e w' ⟨rfl, hk, cs, hz, hcs⟩
      rw [e1] at hcs
      obtain ⟨cs', hz', hsz⟩ := hk.same _ _ _ hh
      obtain rfl : cs = cs' := by rw [hz] at hz'; injection hz' with hz'; injection hz' with hz' _ _
      have hgr : W.grownBy w' (some g) := ⟨hk.os, hk.tape, hk.output, hk.size, fun k hk1 hk2 => hk.block k hk1 (fun h => hk2 (by rw [h]))⟩
      refine ⟨rfl, ?_, hgr⟩
      rw [e2]
      have hlen : (ssort (fun x y : Rp => ltS x.1 y.1) ps).length = ps.length := ssort_length _
      rw [show (Value.slice (some ⟨g, 0, none⟩) ps.length cap) = .slice (some ⟨g, 0, none⟩) (ssort (fun x y : Rp => ltS x.1 y.1) ps).length cap by rw [hlen]]
      refine R_of_rows h0 ⟨by rw [encs_len, List.length_map], .inr ⟨g, cap, cs, rfl, hgb, hz, by omega, h2, by rw [hsz]; exact h3, ?_⟩⟩ (fun p hp => ?_)
      · apply List.ext_getElem?
        intro j
        rw [List.getElem?_take]
        split
        · rename_i hj
          have hq : j / 3 < (ssort (fun x y : Rp => ltS x.1 y.1) ps).length := by omega
          have hjj : j / 3 * 3 + j % 3 = j := by omega
          have e3 : ((ssort (fun x y : Rp => ltS x.1 y.1) ps).map recOf)[j / 3]? = some (recOf (ssort (fun x y : Rp => ltS x.1 y.1) ps)[j / 3]) := by rw [List.getElem?_map, List.getElem?_eq_getElem hq]; rfl
          have e4 := encs_at _ (j / 3) _ e3 (j % 3) (by omega)
          have e5 := hcs (j / 3) _ e3 (j % 3) (by omega)
          rw [hjj] at e4 e5
          rw [e4, ← e5]
          simp
        · rename_i hj
          rw [List.getElem?_eq_none (by rw [encs_len, List.length_map]; omega)]
      · exact Kd.R_grown (hg p (hmem p hp)) hgr (fun k hk => hk.2)
end Go.Proofs.Ytnchdmidaigheaa.QS
namespace Go.Proofs.Ytnchdmidaigheaa.ND
set_option linter.unusedVariables false
set_option linter.unusedSimpArgs false
open Go.RowKit Go.Proofs.Ytnchdmidaigheaa.Hp Go.Proofs.YtnchdmidaigheaaW.PrintWords Go.Proofs.YtnchdmidaigheaaW.PrintLast Go.Proofs.YtnchdmidaigheaaW.PrintMore
abbrev Flt := S65
structure Dv where
  B : Int
  P : Int
  C : Int
  bad : List Int
  pages : List (List Int)
  next : List Int
  wear : List Int
  faults : List Flt
  ops : Int
  down : Bool
def Dv.there (D : Dv) (b : Int) : Bool := decide (b ≥ 0) && decide (b < D.B)
def Dv.here (D : Dv) (b p : Int) : Bool := D.there b && (decide (p ≥ 0) && decide (p < D.P))
def Dv.mark (D : Dv) (b : Int) : Bool := D.bad.any fun x => x == b
def onF (f : Flt) (n : Int) : Bool := f.f0 == n && (f.f1 == 1 || f.f1 == 2)
def Dv.fault (D : Dv) : Int × List Int := match D.faults.find? fun f => onF f D.ops with
  | some f => (f.f1, f.f2)
  | none => (0, [255])
def ended (k : Int) : Int := if k = 1 then 10 else if k = 2 then 9 else 0
def Dv.idx (D : Dv) (b p : Int) : Nat := (b * D.P + p).toNat
def Dv.progD (D : Dv) (b p : Int) (l : List Int) : Dv := { D with pages := D.pages.set (D.idx b p) (progRow (D.pages.getD (D.idx b p) []) l D.fault.2), next := D.next.set b.toNat (p + 1), ops := wrap64 (D.ops + 1), down := D.fault.1 == 2 }
def Dv.prog (D : Dv) (b p : Int) (l : List Int) : Int × Dv :=
  if D.down = true then (9, D) else if D.here b p = false ∨ l.length ≠ 256 then (3, D) else if D.mark b = true then (12, D) else if D.next.getD b.toNat 0 ≠ p then (11, D) else (ended D.fault.1, D.progD b p l)
def Dv.power (D : Dv) : Dv := { D with down := false }
structure Dv.Ok (D : Dv) : Prop where
  b1 : 8 ≤ D.B
  b2 : D.B ≤ 34
  p1 : 4 ≤ D.P
  p2 : D.P ≤ 32
  c1 : 0 ≤ D.C
  c2 : D.C ≤ 8
  pl : (D.pages.length : Int) = D.B * D.P
  pw : ∀ l ∈ D.pages, isBytes l ∧ l.length = 256
  nl : (D.next.length : Int) = D.B
  nr : ∀ n ∈ D.next, 0 ≤ n ∧ n ≤ D.P
  wl : (D.wear.length : Int) = D.B
  wr : ∀ n ∈ D.wear, -9223372036854775808 ≤ n ∧ n ≤ 9223372036854775807
  fl : D.faults.length ≤ 1000
  fm : ∀ f ∈ D.faults, isBytes f.f2 ∧ f.f2.length ≤ 1000
  bl : D.bad.length ≤ 1000
theorem here_iff {D : Dv} {b p : Int} : D.here b p = true ↔ (0 ≤ b ∧ b < D.B) ∧ 0 ≤ p ∧ p < D.P := by unfold Dv.here Dv.there; simp
theorem mul_lt_of {a b p P : Int} (ha : 0 ≤ a) (hb : a < b) (hp : 0 ≤ p) (hP : p < P) : 0 ≤ a * P + p ∧ a * P + p < b * P ∧ a * P + p < (a + 1) * P := by
  have h1 : 0 ≤ a * P := Int.mul_nonneg ha (by omega)
  have h2 : (a + 1) * P ≤ b * P := Int.mul_le_mul_of_nonneg_right (by omega) (by omega)
  rw [Int.add_mul, Int.one_mul] at h2
  rw [Int.add_mul, Int.one_mul]
  omega
theorem Dv.Ok.size {D : Dv} (h : D.Ok) : D.B * D.P ≤ 1088 ∧ 32 ≤ D.B * D.P := by
  have h1 : D.B * D.P ≤ 34 * D.P := Int.mul_le_mul_of_nonneg_right h.b2 (by have := h.p1; omega)
  have h2 : 8 * D.P ≤ D.B * D.P := Int.mul_le_mul_of_nonneg_right h.b1 (by have := h.p1; omega)
  have := h.p2
  have := h.p1
  omega
theorem Dv.Ok.idx {D : Dv} (h : D.Ok) {b p : Int} (hh : D.here b p = true) : (D.idx b p : Int) = b * D.P + p ∧ D.idx b p < D.pages.length := by
  obtain ⟨⟨h1, h2⟩, h3, h4⟩ := here_iff.1 hh
  have := mul_lt_of h1 h2 h3 h4
  have := h.pl
  unfold Dv.idx
  omega
theorem wrap_id {x : Int} (h0 : -1000000 ≤ x) (h1 : x ≤ 1000000) : IntKind.i64.wrap x = x ∧ wrap64 x = x := by
  have e : wrap64 x = x := by unfold wrap64; omega
  exact ⟨by rw [i64_w]; exact e, e⟩
def newDv (B P C : Int) (bad : List Int) (fs : List Flt) : Dv := ⟨B, P, C, bad, List.replicate (B * P).toNat (List.replicate 256 255), List.replicate B.toNat 0, List.replicate B.toNat 0, fs, 0, false⟩
def rightG (B P C : Int) : Bool := within B 8 34 && (within P 4 32 && within C 0 8)
end Go.Proofs.Ytnchdmidaigheaa.ND
namespace Go.Proofs.Ytnchdmidaigheaa.ND
set_option linter.unusedVariables false
set_option linter.unusedSimpArgs false
open Go.RowKit Go.Proofs.Ytnchdmidaigheaa.Hp Go.Proofs.YtnchdmidaigheaaW.PrintWords Go.Proofs.YtnchdmidaigheaaW.PrintLast Go.Proofs.YtnchdmidaigheaaW.PrintMore
structure Turn (w W : World) (S : Nat → Prop) : Prop where
  os : W.os = w.os
  tape : W.tape = w.tape
  output : W.output = w.output
  size : w.heap.size ≤ W.heap.size
  block : ∀ k, k < w.heap.size → ¬ S k → W.heap[k]? = w.heap[k]?
theorem Turn.refl (w : World) (S : Nat → Prop) : Turn w w S := ⟨rfl, rfl, rfl, Nat.le_refl _, fun _ _ _ => rfl⟩
theorem Turn.of_below {w W : World} (h : Below w.heap.size w W) (S : Nat → Prop) : Turn w W S := ⟨h.os, h.tape, h.output, h.size, fun k hk _ => h.block k hk⟩
theorem Turn.mono {w W : World} {S S' : Nat → Prop} (h : Turn w W S) (hs : ∀ k, S k → S' k) : Turn w W S' := ⟨h.os, h.tape, h.output, h.size, fun k hk hn => h.block k hk (fun hS => hn (hs k hS))⟩
theorem Turn.trans {w W W2 : World} {S S2 : Nat → Prop} (h : Turn w W S) (k : Turn W W2 S2) (hs : ∀ k, S2 k → S k ∨ w.heap.size ≤ k) : Turn w W2 S :=
  ⟨k.os.trans h.os, k.tape.trans h.tape, k.output.trans h.output, Nat.le_trans h.size k.size, fun i hi hn => (k.block i (Nat.lt_of_lt_of_le hi h.size) (fun hS => by rcases hs i hS with h' | h'; exact hn h'; omega)).trans (h.block i hi hn)⟩
theorem Turn.below {w W W2 : World} {S : Nat → Prop} (h : Turn w W S) (hb : Below W.heap.size W W2) : Turn w W2 S := h.trans (Turn.of_below hb (fun _ => False)) (fun _ hk => hk.elim)
theorem Turn.grown {w W W2 : World} {S : Nat → Prop} {row : Option Nat} (h : Turn w W S) (hg : W.grownBy W2 row) (hr : ∀ k, row = some k → S k ∨ w.heap.size ≤ k) : Turn w W2 S :=
  h.trans (S2 := fun k => row = some k) ⟨hg.os, hg.tape, hg.output, hg.size, fun k hk hn => hg.block k hk (fun e => hn e.symm)⟩ (fun k hk => hr k hk)
theorem Turn.alloc {w W : World} {S : Nat → Prop} (h : Turn w W S) (o : Obj) : Turn w (W.alloc o) S := h.below (below_alloc (Below.refl _ _) o)
theorem Turn.setCell {w W : World} {S : Nat → Prop} (h : Turn w W S) {p : Addr} (hp : S p.block ∨ w.heap.size ≤ p.block) (u : Value) : Turn w (W.setCell p u) S :=
  h.trans (S2 := fun k => k = p.block) ⟨rfl, rfl, rfl, by simp, fun k _ hk => Below.heap_setCell W p u k hk⟩ (fun k hk => by rw [hk]; exact hp)
theorem Turn.to_below {w W w0 : World} {S : Nat → Prop} {B : Nat} (h : Turn w W S) (h0 : Below B w0 w) (hB : B ≤ w.heap.size) (hS : ∀ k, S k → B ≤ k) : Below B w0 W :=
  ⟨h.os.trans h0.os, h.tape.trans h0.tape, h.output.trans h0.output, Nat.le_trans h0.size h.size, fun k hk => (h.block k (Nat.lt_of_lt_of_le hk hB) (fun hs => by have := hS k hs; omega)).trans (h0.block k hk)⟩
def Cells (W : World) (g T : Nat) (vs : List Value) : Prop := ∃ cs : Array Value, W.heap[g]? = some (.cells cs T (0, 0)) ∧ ∀ (j : Nat) (v : Value), vs[j]? = some v → cs[j]? = some v
section
variable {W W' : World} {g T : Nat} {vs : List Value}
theorem Cells.lt (h : Cells W g T vs) : g < W.heap.size := by obtain ⟨cs, h, _⟩ := h; exact blk_lt h
theorem Cells.cell (h : Cells W g T vs) {i : Nat} {v : Value} (hv : vs[i]? = some v) : W.cell? ⟨g, i, none⟩ = some v := by
  obtain ⟨cs, h, hc⟩ := h
  rw [blk_cell h]
  exact hc i v hv
theorem Cells.frozen (h : Cells W g T vs) (i : Nat) : W.frozen? ⟨g, i, none⟩ = false := by obtain ⟨cs, h, _⟩ := h; exact blk_frozen h i
theorem Cells.same (h : Cells W g T vs) (he : W'.heap[g]? = W.heap[g]?) : Cells W' g T vs := by obtain ⟨cs, h, hc⟩ := h; exact ⟨cs, he.trans h, hc⟩
theorem Cells.below (h : Cells W g T vs) (hb : Below W.heap.size W W') : Cells W' g T vs := h.same (hb.block g h.lt)
theorem Cells.turn {S : Nat → Prop} (h : Cells W g T vs) (ht : Turn W W' S) (hne : ¬ S g) : Cells W' g T vs := h.same (ht.block g h.lt hne)
theorem Cells.far (h : Cells W g T vs) {p : Addr} (hne : g ≠ p.block) (u : Value) : Cells (W.setCell p u) g T vs := h.same (Below.heap_setCell W p u g hne)
theorem Cells.set (h : Cells W g T vs) (i : Nat) (u : Value) : Cells (W.setCell ⟨g, i, none⟩ u) g T (vs.set i u) := by
  obtain ⟨cs, h, hc⟩ := h
  refine ⟨_, blk_set h i u, fun j v hv => ?_⟩
  rw [List.getElem?_set] at hv
  rw [Array.getElem?_setIfInBounds]
  by_cases hij : i = j
  · subst hij
    rw [if_pos rfl] at hv
    by_cases hl : i < vs.length
    · rw [if_pos hl] at hv
      have hs := hc i _ (List.getElem?_eq_getElem hl)
      rw [if_pos rfl, if_pos (Array.getElem?_eq_some_iff.1 hs).1]
      exact hv
    · rw [if_neg hl] at hv; cases hv
  · rw [if_neg hij] at hv ⊢
    exact hc j v hv
end
end Go.Proofs.Ytnchdmidaigheaa.ND
namespace Go.Proofs.Ytnchdmidaigheaa.ND
set_option linter.unusedVariables false
set_option linter.unusedSimpArgs false
open Go.RowKit Go.Proofs.Ytnchdmidaigheaa.Hp Go.Proofs.YtnchdmidaigheaaW.PrintWords Go.Proofs.YtnchdmidaigheaaW.PrintLast Go.Proofs.YtnchdmidaigheaaW.PrintMore
structure Lay where
  g : Nat
  gm : Nat
  gp : Nat
  gn : Nat
  gw : Nat
  cm : Nat
  cp : Nat
  cn : Nat
  cw : Nat
  Af : Option Addr
  cf : Nat
def Lay.S (L : Lay) (k : Nat) : Prop := k = L.g ∨ k = L.gp ∨ k = L.gn ∨ k = L.gw
def Pages (W : World) (ok : Nat → Prop) (vs : List Value) (pages : List (List Int)) : Prop := vs.length = pages.length ∧ ∀ (i : Nat) (v : Value) (l : List Int), vs[i]? = some v → pages[i]? = some l → ∃ A c, v = .slice A 256 c ∧ 256 ≤ c ∧ Kd.F (Kd.int .u8) W ok A 256 l
def marks (D : Dv) : List Value := (List.range D.B.toNat).map fun (i : Nat) => .bool (D.mark (i : Int))
def Lay.top (L : Lay) (D : Dv) : Array Value := #[.int .i64 D.B, .int .i64 D.P, .int .i64 D.C, .slice (some ⟨L.gm, 0, none⟩) (marks D).length L.cm, .slice (some ⟨L.gp, 0, none⟩) D.pages.length L.cp, .slice (some ⟨L.gn, 0, none⟩) D.next.length L.cn, .slice (some ⟨L.gw, 0, none⟩) D.wear.length L.cw, .slice L.Af D.faults.length L.cf, .int .i64 D.ops, .bool D.down]
structure DV (W : World) (ok : Nat → Prop) (L : Lay) (D : Dv) : Prop where
  top : W.heap[L.g]? = some (.cells (L.top D) 109 (0, 0))
  nx : Cells W L.gn 3 (D.next.map (Value.int .i64))
  we : Cells W L.gw 3 (D.wear.map (Value.int .i64))
  pg : ∃ vs, Cells W L.gp 38 vs ∧ Pages W ok vs D.pages
  mb : Cells W L.gm 4 (marks D)
  fl : Kd.F k65 W ok L.Af D.faults.length D.faults ∧ D.faults.length ≤ L.cf
  ne : L.gp ≠ L.g ∧ L.gn ≠ L.g ∧ L.gw ≠ L.g ∧ L.gp ≠ L.gn ∧ L.gp ≠ L.gw ∧ L.gn ≠ L.gw
  nm : ¬ L.S L.gm
  no : ∀ k, ok k → k < W.heap.size → ¬ L.S k
  ok : D.Ok
def Lay.all (L : Lay) (ok : Nat → Prop) (k : Nat) : Prop := ok k ∨ L.S k ∨ k = L.gm
theorem Pages.step {W W' : World} {ok : Nat → Prop} {vs : List Value} {pages : List (List Int)} (h : Pages W ok vs pages) (hm : ∀ k, ok k → k < W.heap.size → W'.heap[k]? = W.heap[k]?) : Pages W' ok vs pages :=
  ⟨h.1, fun i v l hv hl => by obtain ⟨A, c, h1, h2, h3⟩ := h.2 i v l hv hl; exact ⟨A, c, h1, h2, Kd.F_step h3 hm⟩⟩
theorem Pages.mono {W : World} {ok ok' : Nat → Prop} {vs : List Value} {pages : List (List Int)} (h : Pages W ok vs pages) (ho : ∀ k, ok k → ok' k) : Pages W ok' vs pages :=
  ⟨h.1, fun i v l hv hl => by obtain ⟨A, c, h1, h2, h3⟩ := h.2 i v l hv hl; exact ⟨A, c, h1, h2, Kd.F_mono h3 ho⟩⟩
theorem Pages.bound {W : World} {ok : Nat → Prop} {vs : List Value} {pages : List (List Int)} (h : Pages W ok vs pages) : Pages W (fun k => ok k ∧ k < W.heap.size) vs pages :=
  ⟨h.1, fun i v l hv hl => by obtain ⟨A, c, h1, h2, h3⟩ := h.2 i v l hv hl; exact ⟨A, c, h1, h2, Kd.F_bound h3⟩⟩
theorem Pages.set {W : World} {ok : Nat → Prop} {vs : List Value} {pages : List (List Int)} (h : Pages W ok vs pages) (i : Nat) {A : Option Addr} {c : Nat} {l : List Int} (hc : 256 ≤ c) (hF : Kd.F (Kd.int .u8) W ok A 256 l) : Pages W ok (vs.set i (.slice A 256 c)) (pages.set i l) := by
  refine ⟨by rw [List.length_set, List.length_set]; exact h.1, fun j v x hv hx => ?_⟩
  rw [List.getElem?_set] at hv hx
  by_cases hij : i = j
  · subst hij
    rw [if_pos rfl] at hv hx
    have hl : i < vs.length := by
      by_cases hl : i < vs.length
      · exact hl
      · rw [if_neg hl] at hv; cases hv
    rw [if_pos hl] at hv
    rw [if_pos (by have := h.1; omega)] at hx
    obtain rfl := Option.some.inj hv
    obtain rfl := Option.some.inj hx
    exact ⟨A, c, rfl, hc, hF⟩
  · rw [if_neg hij] at hv hx
    exact h.2 j v x hv hx
section
variable {W W' : World} {ok : Nat → Prop} {L : Lay} {D : Dv}
theorem DV.step (h : DV W ok L D) (hs : W.heap.size ≤ W'.heap.size) (hm : ∀ k, L.all ok k → k < W.heap.size → W'.heap[k]? = W.heap[k]?) (hn : ∀ k, ok k → k < W'.heap.size → ¬ L.S k) : DV W' ok L D where
  top := (hm _ (.inr (.inl (.inl rfl))) (blk_lt h.top)).trans h.top
  nx := h.nx.same (hm _ (.inr (.inl (.inr (.inr (.inl rfl))))) h.nx.lt)
  we := h.we.same (hm _ (.inr (.inl (.inr (.inr (.inr rfl))))) h.we.lt)
  pg := by
    obtain ⟨vs, h1, h2⟩ := h.pg
    exact ⟨vs, h1.same (hm _ (.inr (.inl (.inr (.inl rfl)))) h1.lt), h2.step (fun k hk hl => hm k (.inl hk) hl)⟩
  mb := h.mb.same (hm _ (.inr (.inr rfl)) h.mb.lt)
  fl := ⟨Kd.F_step h.fl.1 (fun k hk hl => hm k (.inl hk) hl), h.fl.2⟩
  ne := h.ne
  nm := h.nm
  no := hn
  ok := h.ok
theorem DV.lt (h : DV W ok L D) : ∀ k, L.S k → k < W.heap.size := by
  rintro k (rfl | rfl | rfl | rfl)
  · exact blk_lt h.top
  · obtain ⟨vs, h1, _⟩ := h.pg; exact h1.lt
  · exact h.nx.lt
  · exact h.we.lt
theorem DV.turn {S : Nat → Prop} (h : DV W ok L D) (ht : Turn W W' S) (hS : ∀ k, L.all ok k → k < W.heap.size → ¬ S k) : DV W' ok L D :=
  h.step ht.size (fun k hk hl => ht.block k hl (hS k hk hl)) (fun k hk _ hS' => h.no k hk (h.lt k hS') hS')
theorem DV.below (h : DV W ok L D) (hb : Below W.heap.size W W') : DV W' ok L D := h.turn (Turn.of_below hb (fun _ => False)) (fun _ _ _ hf => hf)
theorem DV.mono {ok' : Nat → Prop} (h : DV W ok L D) (ho : ∀ k, ok k → ok' k) (hn : ∀ k, ok' k → k < W.heap.size → ¬ L.S k) : DV W ok' L D where
  top := h.top
  nx := h.nx
  we := h.we
  pg := by obtain ⟨vs, h1, h2⟩ := h.pg; exact ⟨vs, h1, h2.mono ho⟩
  mb := h.mb
  fl := ⟨Kd.F_mono h.fl.1 ho, h.fl.2⟩
  ne := h.ne
  nm := h.nm
  no := hn
  ok := h.ok
theorem DV.bound (h : DV W ok L D) : DV W (fun k => ok k ∧ k < W.heap.size) L D where
  top := h.top
  nx := h.nx
  we := h.we
  pg := by obtain ⟨vs, h1, h2⟩ := h.pg; exact ⟨vs, h1, h2.bound⟩
  mb := h.mb
  fl := ⟨Kd.F_bound h.fl.1, h.fl.2⟩
  ne := h.ne
  nm := h.nm
  no := fun k hk hl => h.no k hk.1 hl
  ok := h.ok
end
end Go.Proofs.Ytnchdmidaigheaa.ND
namespace Go.Proofs.Ytnchdmidaigheaa.ND
set_option linter.unusedVariables false
set_option linter.unusedSimpArgs false
open Go.RowKit Go.Proofs.Ytnchdmidaigheaa.Hp Go.Proofs.YtnchdmidaigheaaW.PrintWords Go.Proofs.YtnchdmidaigheaaW.PrintLast Go.Proofs.YtnchdmidaigheaaW.PrintMore
end Go.Proofs.Ytnchdmidaigheaa.ND
namespace Go.Proofs.Ytnchdmidaigheaa.ND
set_option linter.unusedVariables false
set_option linter.unusedSimpArgs false
open Go.RowKit Go.Proofs.Ytnchdmidaigheaa.Hp Go.Proofs.YtnchdmidaigheaaW.PrintWords Go.Proofs.YtnchdmidaigheaaW.PrintLast Go.Proofs.YtnchdmidaigheaaW.PrintMore
section
variable {W : World} {ok : Nat → Prop} {L : Lay} {D : Dv}
end
end Go.Proofs.Ytnchdmidaigheaa.ND
namespace Go.Proofs.Ytnchdmidaigheaa.Hp
open Go.RowKit Go.Proofs.YtnchdmidaigheaaW.PrintWords Go.Proofs.YtnchdmidaigheaaW.PrintLast Go.Proofs.YtnchdmidaigheaaW.PrintMore
attribute [local go_sem] max2_int min2_int max_two min_two max_three min_three max_four min_four   -- for this text's walks alone
set_option linter.unusedVariables false
set_option linter.unusedSimpArgs false
def zeros_Ones.l0 : Nat → List Int → Int → Int → Option (List Int)
  | 0, _, _, _ => none
  | k + 1, x3, x5, x6 => if x6 < x5 then (if x3.length < 140737488355328 then (zeros_Ones.l0 k (x3 ++ [255]) x5 (wrap64 (x6 + 1))) else (none)) else (some x3)
def zeros_Ones.f (k : Nat) (a0 : Int) : Option (List Int) := zeros_Ones.l0 k ([] : List Int) (mn a0 1048576) 0
theorem zeros_Ones.mono_l : ∀ k, (∀ y0 y1 y2, LeO (zeros_Ones.l0 k y0 y1 y2) (zeros_Ones.l0 (k + 1) y0 y1 y2))
  | 0 => fun _ _ _ r h => by simp [zeros_Ones.l0] at h
  | k + 1 => by
    have ih0 := zeros_Ones.mono_l k
    · intro y0 y1 y2
      unfold zeros_Ones.l0
      repeat' first
      | (with_reducible exact ih0 _ _ _)
      | (with_reducible exact LeO.refl _)
      | (with_reducible exact LeO.none _)
      | (with_reducible refine LeO.ite ?_ ?_)
      | (with_reducible refine LeO.bind ?_ (fun _ => ?_))
      | exact ih0 _ _ _
      | exact LeO.none _
      | refine LeO.ite ?_ ?_
      | refine LeO.bind ?_ (fun _ => ?_)
theorem zeros_Ones.mono : ∀ a0 k, LeO (zeros_Ones.f k a0) (zeros_Ones.f (k + 1) a0) := by
  intro a0 k
  have ih0 := zeros_Ones.mono_l k
  unfold zeros_Ones.f
  repeat' first
      | (with_reducible exact ih0 _ _ _)
      | (with_reducible exact LeO.refl _)
      | (with_reducible exact LeO.none _)
      | (with_reducible refine LeO.ite ?_ ?_)
      | (with_reducible refine LeO.bind ?_ (fun _ => ?_))
      | exact ih0 _ _ _
      | exact LeO.none _
      | refine LeO.ite ?_ ?_
      | refine LeO.bind ?_ (fun _ => ?_)
set_option maxHeartbeats 8000000 in
set_option maxRecDepth 100000 in
theorem zeros_Ones.calls (k : Nat) (a0 : Int) (r : List Int) (w : World) (h : zeros_Ones.f k a0 = some r) :
    Calls Try.prog 61 #[.int .i64 a0] w fun e w' => ∃ v0_ : Value, e = .returned (v0_) ∧ Kd.R (Kd.int .u8) 5 w' w.heap.size (fun _ => True) v0_ r ∧ Below w.heap.size w w' := by
  have HB := Aside0.mk (Below.refl w.heap.size w)
  have H : (zeros_Ones.l0 k ([] : List Int) (mn a0 1048576) 0) = some r := h
  clear h
  obtain ⟨ji2, hji2⟩ : ∃ j_ : Int, (mn a0 1048576) = j_ := ⟨_, rfl⟩
  replace H : (zeros_Ones.l0 k ([] : List Int) ji2 0) = some r := by first | (rw [hji2] at H; exact H) | (simp only [hji2] at H ⊢; exact H)
  (try (have hji2h : ji2 ≤ 1048576 := by (rw [← hji2]; unfold mn; (repeat' split) <;> omega)))
  (try (have hji2g : ji2 ≤ 64 := by omega))
  have hji2_ : (if 1048576 < a0 then 1048576 else a0) = ji2 := hji2
  have H' := Aside0.mk H
  clear H
  go_enter Try.func61, Try.ntmps61
  go_wp2
  go_loopg [3, 6] k (fun kq v3 v6 w' => ∃ (x3_1 : List Int) (x6_1 : Int), v6 = .int .i64 x6_1 ∧ Aside0 (zeros_Ones.l0 kq x3_1 ji2 x6_1 = some r) ∧ Aside0 (kq ≤ k) ∧ Aside0 (Kd.R (Kd.int .u8) 5 w' w.heap.size (fun _ => True) v3 x3_1) ∧ Aside0 (Below w.heap.size w w'))
  case atStart => exact ⟨(([] : List Int)), (0), (by first | rfl | (simp; done) | (simp [*]; done)), H', ⟨Nat.le_refl _⟩, ⟨by first | exact Kd.R_nil _ _ _ _ _ | exact Kd.N_nil _ _ _ _ _ | exact Kd.V_nil _ _ _ _ _ | exact Kd.Q_nil _ _ _ _ _ | exact Kd.S_nil _ _ _ _ _⟩, ⟨by repeat (first | (with_reducible first | exact HB.out | apply below_alloc | apply pw_below_drewN | apply below_drew1) | exact HB.out)⟩⟩
  case round =>
    clear H'
    try clear p2
    obtain ⟨x3_1, x6_1, rfl, HA, HK1, HO_3, HB⟩ := hrel
    cases gk with
    | zero => exact absurd HA.out (by simp [zeros_Ones.l0])
    | succ k1 =>
      have H := HA.out
      clear HA
      simp only [zeros_Ones.l0] at H
      by_cases c3 : x6_1 < ji2
      · rw [if_pos c3] at H
        have c3b0 : decide (x6_1 < ji2) = true := decide_eq_true c3
        clear c3
        by_cases c4 : x3_1.length < 140737488355328
        · rw [if_pos c4] at H
          have LMc4 := Aside0.mk c4
          clear c4
          obtain ⟨y104, hy104⟩ : ∃ y_ : List Int, y_ = (x3_1 ++ [255]) := ⟨_, rfl⟩
          replace H : (zeros_Ones.l0 k1 y104 ji2 (wrap64 (x6_1 + 1))) = some r := by first | (rw [hy104]; with_reducible exact H) | (have H2_ := (Option.bind_some _ _).symm.trans H; rw [hy104]; with_reducible exact H2_) | (have H2_ := (Option.bind_some _ _).symm.trans H; with_reducible exact H2_) | with_reducible exact H | (rw [hy104]; exact H) | exact H
          have Ny104 := Aside0.mk hy104
          clear hy104
          have H' := Aside0.mk H
          clear H
          go_wp2_with (first | ((with_reducible refine gate_builtin (b := .append) (xs := #[.tmp 8, .tmp 9]) rfl ?_); at_builtin; refine Kd.R_append (Kd.int .u8) (w0 := w) w.heap.size rfl (.tmp 8) (.tmp 9) 38 5 (.int .u8 0) 1 rfl Try.underlying38 info5 rfl (by decide) (by omega) u3 x3_1 255 [.int .u8 255] (fun _ => True) (fun _ => False) rfl rfl ?aP (fun _ hk => hk.elim) ?aF ?aO ?aB ?aS ?aL ?_; (case aP => exact rfl); (case aB => exact (by repeat (first | (with_reducible first | exact HB.out | apply below_alloc | apply pw_below_drewN | apply below_drew1) | exact HB.out))); (case aF => exact (fun _ _ => trivial)); (case aO => exact (by (with_reducible repeat (first | apply Kd.R_alloc | apply Kd.R_drewN | apply Kd.R_drew)); exact HO_3.out)); (case aS => exact (below_size (by repeat (first | (with_reducible first | exact HB.out | apply below_alloc | apply pw_below_drewN | apply below_drew1) | exact HB.out)))); (case aL => have := LMc4.out; omega); intro v105 w5 ho hb hg hat; rw [← Ny104.out] at ho; have n0_ := Aside0.mk (hb); have n1_ := Aside0.mk (ho); clear HB; clear HO_3; have HB := n0_; have HO106 := n1_; clear n0_ n1_; clear ho hb hg hat))
          go_roundg k1
          case measure => have := HK1.out; omega
          case rel => exact ⟨(y104), (wrap64 (x6_1 + 1)), (by first | rfl | (simp; done) | (simp [*]; done)), H', ⟨by have := HK1.out; omega⟩, ⟨by (with_reducible repeat (first | apply Kd.R_alloc | apply Kd.R_drewN | apply Kd.R_drew)); exact HO106.out⟩, ⟨by repeat (first | (with_reducible first | exact HB.out | apply below_alloc | apply pw_below_drewN | apply below_drew1) | exact HB.out)⟩⟩
        · rw [if_neg c4] at H
          exact absurd H (by simp)
      · rw [if_neg c3] at H
        have c3b0 : decide (x6_1 < ji2) = false := decide_eq_false c3
        clear c3
        obtain rfl := Option.some.inj H
        go_wp2
        go_ret
        exact ⟨_, by first | rfl | (simp [errW_none, errW_some] <;> rfl) | (simp only [← hji2]; first | rfl | (simp [errW_none, errW_some] <;> rfl)) | (simp [*, errW_none, errW_some] <;> rfl), by (with_reducible repeat (first | apply Kd.R_alloc | apply Kd.R_drewN | apply Kd.R_drew)); exact HO_3.out, by repeat (first | (with_reducible first | exact HB.out | apply below_alloc | apply pw_below_drewN | apply below_drew1) | exact HB.out)⟩
def zeros_Mask.f (l0 : List Int) (a1 : Int) : Option (Int) := if a1 < 0 then (some 0) else (if (l0.length : Int) = 0 then (some 0) else (if 0 ≤ (Int.tmod a1 (l0.length : Int)) then (if (Int.tmod a1 (l0.length : Int)) < (l0.length : Int) then (some (rd l0 (Int.tmod a1 (l0.length : Int)))) else (none)) else (none)))
set_option maxHeartbeats 8000000 in
set_option maxRecDepth 100000 in
theorem zeros_Mask.calls (A0 : Option Addr) (c0 : Nat) (l0 : List Int) (a1 : Int) (r : Int) (w : World) (hr0 : Kd.C (Kd.int .u8) w A0 l0.length l0) (hc0 : l0.length ≤ c0) (h : zeros_Mask.f l0 a1 = some r) :
    Calls Try.prog 104 #[.slice A0 l0.length c0, .int .i64 a1] w fun e w' => e = .returned (.int .u8 r) ∧ Drawn0 w w' := by
  have HR0 := Aside0.mk hr0
  have HC0 := Aside0.mk hc0
  clear hr0 hc0
  have H : (if a1 < 0 then (some 0) else (if (l0.length : Int) = 0 then (some 0) else (if 0 ≤ (Int.tmod a1 (l0.length : Int)) then (if (Int.tmod a1 (l0.length : Int)) < (l0.length : Int) then (some (rd l0 (Int.tmod a1 (l0.length : Int)))) else (none)) else (none)))) = some r := h
  clear h
  by_cases c3 : a1 < 0
  · rw [if_pos c3] at H
    have c3b0 : decide (a1 < 0) = true := decide_eq_true c3
    clear c3
    obtain rfl := Option.some.inj H
    go_enter Try.func104, Try.ntmps104
    go_wp2
    go_ret
    exact ⟨by first | rfl | (simp; done) | (simp [*]; done), by repeat (first | exact Drawn0.refl _ | apply Drawn0.step)⟩
  · rw [if_neg c3] at H
    have c3b0 : decide (a1 < 0) = false := decide_eq_false c3
    clear c3
    by_cases c4 : (l0.length : Int) = 0
    · rw [if_pos c4] at H
      have c4b0 : ((l0.length : Int) == 0) = true := beq_iff_eq.mpr c4
      have c4b1 : ((l0.length : Int) != 0) = false := bne_eq_false_iff_eq.mpr c4
      clear c4
      obtain rfl := Option.some.inj H
      go_enter Try.func104, Try.ntmps104
      go_wp2
      go_ret
      exact ⟨by first | rfl | (simp; done) | (simp [*]; done), by repeat (first | exact Drawn0.refl _ | apply Drawn0.step)⟩
    · rw [if_neg c4] at H
      have c4b0 : ((l0.length : Int) == 0) = false := beq_eq_false_iff_ne.mpr c4
      have c4b1 : ((l0.length : Int) != 0) = true := bne_iff_ne.mpr c4
      have c4b2 : ¬ (l0 = []) := fun h_ => c4 (by rw [h_]; rfl)
      obtain ⟨ji5, hji5⟩ : ∃ j_ : Int, (Int.tmod a1 (l0.length : Int)) = j_ := ⟨_, rfl⟩
      replace H : (if 0 ≤ (ji5) then (if (ji5) < (l0.length : Int) then (some (rd l0 (ji5))) else (none)) else (none)) = some r := by first | (rw [hji5] at H; exact H) | (simp only [hji5] at H ⊢; exact H)
      by_cases c6 : 0 ≤ (ji5)
      · rw [if_pos c6] at H
        have c6b0 : decide (0 ≤ (ji5)) = true := decide_eq_true c6
        clear c6
        by_cases c7 : (ji5) < (l0.length : Int)
        · rw [if_pos c7] at H
          have c7b0 : decide ((ji5) < (l0.length : Int)) = true := decide_eq_true c7
          clear c7
          obtain rfl := Option.some.inj H
          have p112 : 0 ≤ ((ji5) : Int) := of_decide_eq_true (by first | (with_reducible assumption) | assumption)
          have q112 : (ji5) < (l0.length : Int) := of_decide_eq_true (by first | (with_reducible assumption) | assumption)
          obtain ⟨ad112, e112, hx112_0⟩ := Kd.at_int HR0.out (ji5) p112 q112
          cases e112
          replace p112 := eq_true p112
          replace q112 := eq_true q112
          go_enter Try.func104, Try.ntmps104
          go_wp2
          go_ret
          exact ⟨by first | rfl | (simp; done) | (simp only [← hji5] <;> (first | rfl | simp)) | (simp [*]; done), by repeat (first | exact Drawn0.refl _ | apply Drawn0.step)⟩
        · rw [if_neg c7] at H
          exact absurd H (by simp)
      · rw [if_neg c6] at H
        exact absurd H (by simp)
end Go.Proofs.Ytnchdmidaigheaa.Hp
namespace Go.Proofs.Ytnchdmidaigheaa.ND
set_option linter.unusedVariables false
set_option linter.unusedSimpArgs false
open Go.RowKit Go.Proofs.Ytnchdmidaigheaa.Hp Go.Proofs.YtnchdmidaigheaaW.PrintWords Go.Proofs.YtnchdmidaigheaaW.PrintLast Go.Proofs.YtnchdmidaigheaaW.PrintMore
def begin7.T7 : Bool × List (List Nat × List Nat) := (true, [([], []), ([0], [0]), ([], []), ([2], [2]), ([1, 0, 1], [1]), ([3, 4, 0, 1, 2, 3, 4], [3])])
def begin7.B7 : List Nat := [0, 1, 0, 4, 3, 31]
end Go.Proofs.Ytnchdmidaigheaa.ND
namespace Go.Proofs.Ytnchdmidaigheaa.ND
set_option linter.unusedVariables false
set_option linter.unusedSimpArgs false
open Go.RowKit Go.Proofs.Ytnchdmidaigheaa.Hp Go.Proofs.YtnchdmidaigheaaW.PrintWords Go.Proofs.YtnchdmidaigheaaW.PrintLast Go.Proofs.YtnchdmidaigheaaW.PrintMore
section
variable {P : Program} {ops : Array Oper} {Q : Exit → Act → World → Prop}
theorem goesv_ {oi : Oper} {N : Option Tmp} {a : Act} {w : World} {K : Act → World → Prop} {f : FuncId} {fn : Func} {as_ : Array Operand} {ts : Array TypeId} {tc : Tmp} {caps : Array Value} (hf : P.funcs[f]? = some fn) (hname : (fn.name == "runtime.NumGoroutine") = false) (hb : fn.body.isSome = true) (args : Array Value)
    (hw : Region.wanted oi (yielded ops a.tmps) = true) (hN : oi.dst = N) (hop : oi.op = .call { callee := .value (.tmp tc), args := as_, argTypes := ts }) (hc : a.tmps[tc]? = some (.func (.func f) #[] caps)) (hargs : as_.map a.eval = args)
    (h : Calls P f (args ++ caps) w fun e w' => ∃ v, e = .returned v ∧ K (a.put N v) w') : if Region.wanted oi (yielded ops a.tmps) = true then Oper.wp P oi a w K Q else K (a.put N undef) w := by
  refine call_ f (args ++ caps) hw hN ?_ h
  have he := enters_ hf hname hb (args ++ caps) w
  have hc' : a.tmps.getD tc undef = .func (.func f) #[] caps := by simp [Array.getD_eq_getD_getElem?, hc]
  unfold execOp
  simp [hop, resolve, Deferred.ofValue, invoke, Act.eval, hargs, he, hc']
end
def change0.B0 : List Nat := [0, 1, 3, 7, 0, 0, 0, 64, 192, 448, 0, 1984, 4032, 8160, 16383, 32767]
end Go.Proofs.Ytnchdmidaigheaa.ND
namespace Go.Proofs.Ytnchdmidaigheaa.Hp
open Go.RowKit Go.Proofs.YtnchdmidaigheaaW.PrintWords Go.Proofs.YtnchdmidaigheaaW.PrintLast Go.Proofs.YtnchdmidaigheaaW.PrintMore
attribute [local go_sem] max2_int min2_int max_two min_two max_three min_three max_four min_four   -- for this text's walks alone
set_option linter.unusedVariables false
set_option linter.unusedSimpArgs false
def zeros_Program.f (old b m : List Int) : Option (List Int) := if isBytes old ∧ isBytes b ∧ isBytes m ∧ old.length ≤ 1000000 then some (progRow old b m) else none
set_option maxHeartbeats 1000000 in
theorem each_calls (cap : Array Value) (g : Nat → Int) (A0 : Option Addr) (c0 : Nat) (l0 : List Int) (w : World) (hr0 : Kd.C (Kd.int .u8) w A0 l0.length l0) (hlen : l0.length ≤ 1000000)
    (hf : ∀ (i : Nat) (W : World), i < l0.length → Below w.heap.size w W → Calls Try.prog 105 (#[.int .i64 (i : Int), .int .u8 (rd l0 (i : Int))] ++ cap) W fun e w' => e = .returned (.int .u8 (g i)) ∧ Drawn0 W w') :
    Calls Try.prog 102 #[.slice A0 l0.length c0, .func (.func 105) #[] cap] w fun e w' => ∃ v0_ : Value, e = .returned (v0_) ∧ Kd.R (Kd.int .u8) 5 w' w.heap.size (fun _ => True) v0_ ((List.range l0.length).map g) ∧ Below w.heap.size w w' := by
  have HR0 := Aside0.mk hr0
  have HL := Aside0.mk hlen
  have HF := Aside0.mk hf
  clear hr0 hlen hf
  have HB := Aside0.mk (Below.refl w.heap.size w)
  go_enter Try.func102, Try.ntmps102
  go_wp2
  go_loopg [5, 10] (l0.length + 1) (fun kq v5 v10 w' => ∃ (j : Nat), v10 = .int .i64 j ∧ Aside0 (j ≤ l0.length) ∧ Aside0 (kq + j = l0.length + 1) ∧ Aside0 (Kd.R (Kd.int .u8) 5 w' w.heap.size (fun _ => True) v5 ((List.range j).map g)) ∧ Aside0 (Below w.heap.size w w'))
  case atStart => exact ⟨0, rfl, ⟨by omega⟩, ⟨by omega⟩, ⟨Kd.R_nil _ _ _ _ _⟩, ⟨by repeat (first | (with_reducible first | exact HB.out | apply below_alloc | apply pw_below_drewN | apply below_drew1) | exact HB.out)⟩⟩
  case round =>
    obtain ⟨j, rfl, HJ, HQ, HO_5, HB⟩ := hrel
    by_cases hj : j < l0.length
    · have c3b0 : decide ((j : Int) < (l0.length : Int)) = true := decide_eq_true (by omega)
      have c3b1 : decide (j < l0.length) = true := decide_eq_true (by omega)
      have p395 : 0 ≤ (j : Int) := by omega
      have q395 : (j : Int) < (l0.length : Int) := by omega
      obtain ⟨ad395, e395, hx395_0⟩ := Kd.at_int HR0.out j p395 q395
      cases e395
      replace hx395_0 := (HB.out.cell (World.block_lt_of_cell? w _ hx395_0)).trans hx395_0
      rw [Int.toNat_natCast] at hx395_0
      replace p395 := eq_true p395
      replace q395 := eq_true q395
      go_wp2_with (first | ((go_at_call 105); (with_reducible refine (HF.out j _ hj ?side1).mono ?_); (case side1 => exact (by repeat (first | (with_reducible first | exact HB.out | apply below_alloc | apply pw_below_drewN | apply below_drew1) | exact HB.out))); rintro e w' ⟨rfl, ⟨nd, rfl⟩⟩) | ((with_reducible refine gate_builtin (b := .append) (xs := #[.tmp 15, .tmp 20]) rfl ?_); at_builtin; refine Kd.R_append (Kd.int .u8) (w0 := w) w.heap.size rfl (.tmp 15) (.tmp 20) 38 5 (.int .u8 0) 1 rfl Try.underlying38 info5 rfl (by decide) (by omega) u5 ((List.range j).map g) (g j) [.int .u8 (g j)] (fun _ => True) (fun _ => False) rfl rfl ?aP (fun _ hk => hk.elim) ?aF ?aO ?aB ?aS ?aL ?_; (case aP => exact rfl); (case aB => exact (by repeat (first | (with_reducible first | exact HB.out | apply below_alloc | apply pw_below_drewN | apply below_drew1) | exact HB.out))); (case aF => exact (fun _ _ => trivial)); (case aO => exact (by (with_reducible repeat (first | apply Kd.R_alloc | apply Kd.R_drewN | apply Kd.R_drew)); exact HO_5.out)); (case aS => exact (below_size (by repeat (first | (with_reducible first | exact HB.out | apply below_alloc | apply pw_below_drewN | apply below_drew1) | exact HB.out)))); (case aL => have := HL.out; simp only [List.length_map, List.length_range]; omega); intro v397 w11 ho hb hg hat; rw [← range_map_snoc] at ho; have n0_ := Aside0.mk (hb); have n1_ := Aside0.mk (ho); clear HB; clear HO_5; have HB := n0_; have HO398 := n1_; clear n0_ n1_; clear ho hb hg hat))
      go_roundg (l0.length - j)
      case measure => have := HQ.out; omega
      case rel => exact ⟨j + 1, by congr 1; have := HL.out; unfold wrap64; omega, ⟨by omega⟩, ⟨by omega⟩, ⟨by (with_reducible repeat (first | apply Kd.R_alloc | apply Kd.R_drewN | apply Kd.R_drew)); exact HO398.out⟩, ⟨by repeat (first | (with_reducible first | exact HB.out | apply below_alloc | apply pw_below_drewN | apply below_drew1) | exact HB.out)⟩⟩
    · have hje : j = l0.length := by have := HJ.out; omega
      subst hje
      go_wp2
      go_ret
      exact ⟨_, rfl, by (with_reducible repeat (first | apply Kd.R_alloc | apply Kd.R_drewN | apply Kd.R_drew)); exact HO_5.out, by repeat (first | (with_reducible first | exact HB.out | apply below_alloc | apply pw_below_drewN | apply below_drew1) | exact HB.out)⟩
theorem mask_at (m : List Int) (i : Nat) (hm : isBytes m) : zeros_Mask.f m (i : Int) = some (maskAt m i) := by
  unfold zeros_Mask.f maskAt
  rw [if_neg (by omega)]
  by_cases h0 : m.length = 0
  · rw [if_pos (by omega), if_pos h0]
  · rw [if_neg (by omega), if_neg h0]
    have e : Int.tmod (i : Int) (m.length : Int) = ((i % m.length : Nat) : Int) := by
      rw [Int.tmod_eq_emod_of_nonneg (by omega)]; rfl
    have hlt := Nat.mod_lt i (show m.length > 0 by omega)
    rw [e, if_pos (by omega), if_pos (by omega)]
    show some (m.getD (((i % m.length : Nat) : Int)).toNat 0) = _
    rw [Int.toNat_natCast]
set_option maxHeartbeats 1000000 in
theorem prog_clo (i : Nat) (c : Int) (A1 A2 : Option Addr) (c1 c2 : Nat) (l1 l2 : List Int) (p q : Addr) (w : World) (hcr : 0 ≤ c ∧ c ≤ 255)
    (hp : w.cell? p = some (.slice A1 l1.length c1)) (hq : w.cell? q = some (.slice A2 l2.length c2))
    (hr1 : Kd.C (Kd.int .u8) w A1 l1.length l1) (hb1 : isBytes l1) (hr2 : Kd.C (Kd.int .u8) w A2 l2.length l2) (hc2 : l2.length ≤ c2) (hb2 : isBytes l2) :
    Calls Try.prog 105 #[.int .i64 (i : Int), .int .u8 c, .pointer (some p), .pointer (some q)] w fun e w' => e = .returned (.int .u8 (if i < l1.length then progByte c (rd l1 i) (maskAt l2 i) else c)) ∧ Drawn0 w w' := by
  have HE := Aside0.mk (prog_bits c (rd l1 i) (maskAt l2 i) hcr (rd_range l1 hb1 i) (maskAt_range l2 hb2 i))
  have HR1 := Aside0.mk hr1
  have HR2 := Aside0.mk hr2
  have HC2 := Aside0.mk hc2
  have HM := Aside0.mk (mask_at l2 i hb2)
  clear hr1 hr2 hc2 hb2 hb1 hcr
  by_cases hj : i < l1.length
  · rw [if_pos hj]
    have c3b0 : decide ((l1.length : Int) ≤ (i : Int)) = false := decide_eq_false (by omega)
    have c3b1 : decide (l1.length ≤ i) = false := decide_eq_false (by omega)
    have p395 : 0 ≤ (i : Int) := by omega
    have q395 : (i : Int) < (l1.length : Int) := by omega
    obtain ⟨ad395, e395, hx395_0⟩ := Kd.at_int HR1.out i p395 q395
    cases e395
    rw [Int.toNat_natCast] at hx395_0
    go_enter Try.func105, Try.ntmps105
    go_wp2
    go_quiet ((go_at_call 104; exact (Calls.quiet_of ((zeros_Mask.calls _ _ l2 i (maskAt l2 i) _ (Kd.C_drewN HR2.out _) HC2.out HM.out).mono fun _ _ h => ⟨h.1, h.2.out⟩))))
    rw [HE.out]
    go_wp2
    go_ret
    exact ⟨rfl, ⟨⟨_, rfl⟩⟩⟩
  · rw [if_neg hj]
    have c3b0 : decide ((l1.length : Int) ≤ (i : Int)) = true := decide_eq_true (by omega)
    have c3b1 : decide (l1.length ≤ i) = true := decide_eq_true (by omega)
    go_enter Try.func105, Try.ntmps105
    go_wp2
    go_ret
    exact ⟨rfl, Drawn0.refl _⟩
set_option maxHeartbeats 8000000 in
set_option maxRecDepth 100000 in
theorem zeros_Program.calls (A0 : Option Addr) (c0 : Nat) (l0 : List Int) (A1 : Option Addr) (c1 : Nat) (l1 : List Int) (A2 : Option Addr) (c2 : Nat) (l2 : List Int) (r : List Int) (w : World) (hr0 : Kd.C (Kd.int .u8) w A0 l0.length l0) (hc0 : l0.length ≤ c0) (hr1 : Kd.C (Kd.int .u8) w A1 l1.length l1) (hc1 : l1.length ≤ c1) (hr2 : Kd.C (Kd.int .u8) w A2 l2.length l2) (hc2 : l2.length ≤ c2) (h : zeros_Program.f l0 l1 l2 = some r) :
    Calls Try.prog 71 #[.slice A0 l0.length c0, .slice A1 l1.length c1, .slice A2 l2.length c2] w fun e w' => ∃ v0_ : Value, e = .returned (v0_) ∧ Kd.R (Kd.int .u8) 5 w' w.heap.size (fun _ => True) v0_ r ∧ Below w.heap.size w w' := by
  unfold zeros_Program.f at h
  by_cases hb : isBytes l0 ∧ isBytes l1 ∧ isBytes l2 ∧ l0.length ≤ 1000000
  · rw [if_pos hb] at h
    obtain rfl := Option.some.inj h
    clear h
    obtain ⟨hb0, hb1, hb2, hl⟩ := hb
    have HF := fun (W : World) (hB : Below w.heap.size w W) (p q : Addr) (hp : W.cell? p = some (.slice A1 l1.length c1)) (hq : W.cell? q = some (.slice A2 l2.length c2)) =>
      each_calls #[.pointer (some p), .pointer (some q)] (fun i => if i < l1.length then progByte (rd l0 i) (rd l1 i) (maskAt l2 i) else rd l0 i) A0 c0 l0 W (Kd.C_below hr0 hB) hl
        (fun i W' hi hB' => prog_clo i (rd l0 i) A1 A2 c1 c2 l1 l2 p q W' (rd_range l0 hb0 i) (pw_cell_below hB' hp) (pw_cell_below hB' hq) (Kd.C_below (Kd.C_below hr1 hB) hB') hb1 (Kd.C_below (Kd.C_below hr2 hB) hB') hc2 hb2)
    have HF := Aside0.mk HF
    clear hr0 hr1 hr2 hc0 hc1 hc2 hb0 hb1 hb2 hl
    have hmf : ∀ (fn : Fn) (first cap : Array Value) (w : World), (Instr.makeFunc fn first cap).run Try.prog w = .ok (.func fn first cap) w := fun _ _ _ _ => rfl
    go_enter Try.func71, Try.ntmps71
    go_wp2_with fail
    have HBw : Below w.heap.size w ((w.alloc (Obj.cells #[Value.slice A1 l1.length c1] 38)).alloc (Obj.cells #[Value.slice A2 l2.length c2] 38)) := (by repeat (first | exact Below.refl _ _ | apply below_alloc | apply pw_below_drewN | apply below_drew1))
    refine (HF.out _ HBw ⟨w.heap.size, 0, none⟩ ⟨w.heap.size + 1, 0, none⟩ (by simp) (by simp)).mono ?_
    rintro e w' ⟨v, rfl, hR, hB⟩
    have HR := Aside0.mk (Kd.R_lower hR (show w.heap.size ≤ _ by simp; omega))
    have HB := Aside0.mk (below_step HBw hB)
    clear hR hB HBw HF
    go_wp2
    go_ret
    exact ⟨_, rfl, HR.out, HB.out⟩
  · rw [if_neg hb] at h
    cases h
end Go.Proofs.Ytnchdmidaigheaa.Hp
namespace Go.Proofs.Ytnchdmidaigheaa.Hp
open Go.RowKit Go.Proofs.YtnchdmidaigheaaW.PrintWords Go.Proofs.YtnchdmidaigheaaW.PrintLast Go.Proofs.YtnchdmidaigheaaW.PrintMore
attribute [local go_sem] max2_int min2_int max_two min_two max_three min_three max_four min_four   -- for this text's walks alone
set_option linter.unusedVariables false
set_option linter.unusedSimpArgs false
def zeros_Erase.f (old m : List Int) : Option (List Int) := if isBytes old ∧ isBytes m ∧ old.length ≤ 1000000 then some (wipeRow old m) else none
set_option maxHeartbeats 1000000 in
theorem each_calls2 (cap : Array Value) (g : Nat → Int) (A0 : Option Addr) (c0 : Nat) (l0 : List Int) (w : World) (hr0 : Kd.C (Kd.int .u8) w A0 l0.length l0) (hlen : l0.length ≤ 1000000)
    (hf : ∀ (i : Nat) (W : World), i < l0.length → Below w.heap.size w W → Calls Try.prog 103 (#[.int .i64 (i : Int), .int .u8 (rd l0 (i : Int))] ++ cap) W fun e w' => e = .returned (.int .u8 (g i)) ∧ Drawn0 W w') :
    Calls Try.prog 102 #[.slice A0 l0.length c0, .func (.func 103) #[] cap] w fun e w' => ∃ v0_ : Value, e = .returned (v0_) ∧ Kd.R (Kd.int .u8) 5 w' w.heap.size (fun _ => True) v0_ ((List.range l0.length).map g) ∧ Below w.heap.size w w' := by
  have HR0 := Aside0.mk hr0
  have HL := Aside0.mk hlen
  have HF := Aside0.mk hf
  clear hr0 hlen hf
  have HB := Aside0.mk (Below.refl w.heap.size w)
  go_enter Try.func102, Try.ntmps102
  go_wp2
  go_loopg [5, 10] (l0.length + 1) (fun kq v5 v10 w' => ∃ (j : Nat), v10 = .int .i64 j ∧ Aside0 (j ≤ l0.length) ∧ Aside0 (kq + j = l0.length + 1) ∧ Aside0 (Kd.R (Kd.int .u8) 5 w' w.heap.size (fun _ => True) v5 ((List.range j).map g)) ∧ Aside0 (Below w.heap.size w w'))
  case atStart => exact ⟨0, rfl, ⟨by omega⟩, ⟨by omega⟩, ⟨Kd.R_nil _ _ _ _ _⟩, ⟨by repeat (first | (with_reducible first | exact HB.out | apply below_alloc | apply pw_below_drewN | apply below_drew1) | exact HB.out)⟩⟩
  case round =>
    obtain ⟨j, rfl, HJ, HQ, HO_5, HB⟩ := hrel
    by_cases hj : j < l0.length
    · have c3b0 : decide ((j : Int) < (l0.length : Int)) = true := decide_eq_true (by omega)
      have c3b1 : decide (j < l0.length) = true := decide_eq_true (by omega)
      have p395 : 0 ≤ (j : Int) := by omega
      have q395 : (j : Int) < (l0.length : Int) := by omega
      obtain ⟨ad395, e395, hx395_0⟩ := Kd.at_int HR0.out j p395 q395
      cases e395
      replace hx395_0 := (HB.out.cell (World.block_lt_of_cell? w _ hx395_0)).trans hx395_0
      rw [Int.toNat_natCast] at hx395_0
      replace p395 := eq_true p395
      replace q395 := eq_true q395
      go_wp2_with (first | ((go_at_call 103); (with_reducible refine (HF.out j _ hj ?side1).mono ?_); (case side1 => exact (by repeat (first | (with_reducible first | exact HB.out | apply below_alloc | apply pw_below_drewN | apply below_drew1) | exact HB.out))); rintro e w' ⟨rfl, ⟨nd, rfl⟩⟩) | ((with_reducible refine gate_builtin (b := .append) (xs := #[.tmp 15, .tmp 20]) rfl ?_); at_builtin; refine Kd.R_append (Kd.int .u8) (w0 := w) w.heap.size rfl (.tmp 15) (.tmp 20) 38 5 (.int .u8 0) 1 rfl Try.underlying38 info5 rfl (by decide) (by omega) u5 ((List.range j).map g) (g j) [.int .u8 (g j)] (fun _ => True) (fun _ => False) rfl rfl ?aP (fun _ hk => hk.elim) ?aF ?aO ?aB ?aS ?aL ?_; (case aP => exact rfl); (case aB => exact (by repeat (first | (with_reducible first | exact HB.out | apply below_alloc | apply pw_below_drewN | apply below_drew1) | exact HB.out))); (case aF => exact (fun _ _ => trivial)); (case aO => exact (by (with_reducible repeat (first | apply Kd.R_alloc | apply Kd.R_drewN | apply Kd.R_drew)); exact HO_5.out)); (case aS => exact (below_size (by repeat (first | (with_reducible first | exact HB.out | apply below_alloc | apply pw_below_drewN | apply below_drew1) | exact HB.out)))); (case aL => have := HL.out; simp only [List.length_map, List.length_range]; omega); intro v397 w11 ho hb hg hat; rw [← range_map_snoc] at ho; have n0_ := Aside0.mk (hb); have n1_ := Aside0.mk (ho); clear HB; clear HO_5; have HB := n0_; have HO398 := n1_; clear n0_ n1_; clear ho hb hg hat))
      go_roundg (l0.length - j)
      case measure => have := HQ.out; omega
      case rel => exact ⟨j + 1, by congr 1; have := HL.out; unfold wrap64; omega, ⟨by omega⟩, ⟨by omega⟩, ⟨by (with_reducible repeat (first | apply Kd.R_alloc | apply Kd.R_drewN | apply Kd.R_drew)); exact HO398.out⟩, ⟨by repeat (first | (with_reducible first | exact HB.out | apply below_alloc | apply pw_below_drewN | apply below_drew1) | exact HB.out)⟩⟩
    · have hje : j = l0.length := by have := HJ.out; omega
      subst hje
      go_wp2
      go_ret
      exact ⟨_, rfl, by (with_reducible repeat (first | apply Kd.R_alloc | apply Kd.R_drewN | apply Kd.R_drew)); exact HO_5.out, by repeat (first | (with_reducible first | exact HB.out | apply below_alloc | apply pw_below_drewN | apply below_drew1) | exact HB.out)⟩
set_option maxHeartbeats 1000000 in
theorem erase_clo (i : Nat) (c : Int) (A2 : Option Addr) (c2 : Nat) (l2 : List Int) (q : Addr) (w : World) (hcr : 0 ≤ c ∧ c ≤ 255)
    (hq : w.cell? q = some (.slice A2 l2.length c2)) (hr2 : Kd.C (Kd.int .u8) w A2 l2.length l2) (hc2 : l2.length ≤ c2) (hb2 : isBytes l2) :
    Calls Try.prog 103 #[.int .i64 (i : Int), .int .u8 c, .pointer (some q)] w fun e w' => e = .returned (.int .u8 ((c.toNat ||| (maskAt l2 i).toNat : Nat) : Int)) ∧ Drawn0 w w' := by
  have HE := Aside0.mk (wipe_bits c (maskAt l2 i) hcr (maskAt_range l2 hb2 i))
  have HR2 := Aside0.mk hr2
  have HC2 := Aside0.mk hc2
  have HM := Aside0.mk (mask_at l2 i hb2)
  clear hr2 hc2 hb2 hcr
  go_enter Try.func103, Try.ntmps103
  go_wp2_with ((go_at_call 104); (with_reducible refine (zeros_Mask.calls _ _ l2 i (maskAt l2 i) _ HR2.out HC2.out HM.out).mono ?_); rintro e w' ⟨rfl, ⟨nd, rfl⟩⟩)
  rw [HE.out]
  go_ret
  exact ⟨rfl, ⟨⟨_, rfl⟩⟩⟩
set_option maxHeartbeats 8000000 in
set_option maxRecDepth 100000 in
theorem zeros_Erase.calls (A0 : Option Addr) (c0 : Nat) (l0 : List Int) (A1 : Option Addr) (c1 : Nat) (l1 : List Int) (r : List Int) (w : World) (hr0 : Kd.C (Kd.int .u8) w A0 l0.length l0) (hc0 : l0.length ≤ c0) (hr1 : Kd.C (Kd.int .u8) w A1 l1.length l1) (hc1 : l1.length ≤ c1) (h : zeros_Erase.f l0 l1 = some r) :
    Calls Try.prog 67 #[.slice A0 l0.length c0, .slice A1 l1.length c1] w fun e w' => ∃ v0_ : Value, e = .returned (v0_) ∧ Kd.R (Kd.int .u8) 5 w' w.heap.size (fun _ => True) v0_ r ∧ Below w.heap.size w w' := by
  unfold zeros_Erase.f at h
  by_cases hb : isBytes l0 ∧ isBytes l1 ∧ l0.length ≤ 1000000
  · rw [if_pos hb] at h
    obtain rfl := Option.some.inj h
    clear h
    obtain ⟨hb0, hb1, hl⟩ := hb
    have HF := fun (W : World) (hB : Below w.heap.size w W) (q : Addr) (hq : W.cell? q = some (.slice A1 l1.length c1)) =>
      each_calls2 #[.pointer (some q)] (fun i => (((rd l0 i).toNat ||| (maskAt l1 i).toNat : Nat) : Int)) A0 c0 l0 W (Kd.C_below hr0 hB) hl
        (fun i W' hi hB' => erase_clo i (rd l0 i) A1 c1 l1 q W' (rd_range l0 hb0 i) (pw_cell_below hB' hq) (Kd.C_below (Kd.C_below hr1 hB) hB') hc1 hb1)
    have HF := Aside0.mk HF
    clear hr0 hr1 hc0 hc1 hb0 hb1 hl
    have hmf : ∀ (fn : Fn) (first cap : Array Value) (w : World), (Instr.makeFunc fn first cap).run Try.prog w = .ok (.func fn first cap) w := fun _ _ _ _ => rfl
    go_enter Try.func67, Try.ntmps67
    go_wp2_with fail
    have HBw : Below w.heap.size w (w.alloc (Obj.cells #[Value.slice A1 l1.length c1] 38)) := (by repeat (first | exact Below.refl _ _ | apply below_alloc | apply pw_below_drewN | apply below_drew1))
    refine (HF.out _ HBw ⟨w.heap.size, 0, none⟩ (by simp)).mono ?_
    rintro e w' ⟨v, rfl, hR, hB⟩
    have HR := Aside0.mk (Kd.R_lower hR (show w.heap.size ≤ _ by simp))
    have HB := Aside0.mk (below_step HBw hB)
    clear hR hB HBw HF
    go_wp2
    go_ret
    exact ⟨_, rfl, HR.out, HB.out⟩
  · rw [if_neg hb] at h
    cases h
end Go.Proofs.Ytnchdmidaigheaa.Hp
namespace Go.Proofs.Ytnchdmidaigheaa.ND
set_option linter.unusedVariables false
set_option linter.unusedSimpArgs false
open Go.RowKit Go.Proofs.Ytnchdmidaigheaa.Hp Go.Proofs.YtnchdmidaigheaaW.PrintWords Go.Proofs.YtnchdmidaigheaaW.PrintLast Go.Proofs.YtnchdmidaigheaaW.PrintMore
end Go.Proofs.Ytnchdmidaigheaa.ND
namespace Go.Proofs.Ytnchdmidaigheaa.Hp
open Go.RowKit Go.Proofs.YtnchdmidaigheaaW.PrintWords Go.Proofs.YtnchdmidaigheaaW.PrintLast Go.Proofs.YtnchdmidaigheaaW.PrintMore
attribute [local go_sem] max2_int min2_int max_two min_two max_three min_three max_four min_four   -- for this text's walks alone
set_option linter.unusedVariables false
set_option linter.unusedSimpArgs false
def geom_Check.f (a b c : Int) : Option Int := some (if within a 8 34 && (within b 4 32 && within c 0 8) then 0 else 3)
theorem geom_Check.within_calls (n a b : Int) (r : Bool) (w : World) (h : within n a b = r) : Calls Try.prog 101 #[.int .i64 n, .int .i64 a, .int .i64 b] w fun e w' => e = .returned (.bool r) ∧ Drawn0 w w' := by
  unfold within at h
  subst h
  by_cases h1 : a ≤ n <;> by_cases h2 : n ≤ b
  all_goals
    go_enter Try.func101, Try.ntmps101
    go_wp2
    go_ret
    exact ⟨by simp [h1, h2], Drawn0.refl _⟩
set_option maxHeartbeats 8000000 in
set_option maxRecDepth 100000 in
theorem geom_Check.calls (a0_0 : Int) (a0_1 : Int) (a0_2 : Int) (r : Int) (w : World) (h : geom_Check.f a0_0 a0_1 a0_2 = some r) :
    Calls Try.prog 60 #[.agg #[.int .i64 a0_0, .int .i64 a0_1, .int .i64 a0_2]] w fun e w' => e = .returned (.int .i64 r) ∧ Below w.heap.size w w' := by
  have h := Option.some.inj h
  obtain ⟨b1, h1⟩ : ∃ b, within a0_0 8 34 = b := ⟨_, rfl⟩
  obtain ⟨b2, h2⟩ : ∃ b, within a0_1 4 32 = b := ⟨_, rfl⟩
  obtain ⟨b3, h3⟩ : ∃ b, within a0_2 0 8 = b := ⟨_, rfl⟩
  rw [h1, h2, h3] at h
  have H1 := Aside0.mk h1
  have H2 := Aside0.mk h2
  have H3 := Aside0.mk h3
  clear h1 h2 h3
  cases b1 <;> cases b2 <;> cases b3 <;> simp only [Bool.false_and, Bool.true_and, Bool.and_false, Bool.and_true, if_true, Bool.false_eq_true, if_false] at h <;> subst h
  all_goals
    go_enter Try.func60, Try.ntmps60
    go_wp2_with ((go_at_call 101); (first | (with_reducible refine (geom_Check.within_calls a0_0 8 34 _ _ H1.out).mono ?_) | (with_reducible refine (geom_Check.within_calls a0_1 4 32 _ _ H2.out).mono ?_) | (with_reducible refine (geom_Check.within_calls a0_2 0 8 _ _ H3.out).mono ?_)); rintro e w' ⟨rfl, ⟨n, rfl⟩⟩)
    go_ret
    exact ⟨rfl, by repeat (first | exact Below.refl _ _ | apply below_alloc | apply pw_below_drewN | apply below_drew1)⟩
end Go.Proofs.Ytnchdmidaigheaa.Hp
