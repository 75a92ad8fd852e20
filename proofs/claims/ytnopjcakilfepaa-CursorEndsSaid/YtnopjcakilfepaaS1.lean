import Derived.Test.YtnopjcakilfepaaQS
import Derived.Test.YtnopjcakilfepaaSS
namespace Go.Proofs.Ytnopjcakilfepaa.QS
set_option linter.unusedVariables false
set_option linter.unusedSimpArgs false
open Go.RowKit Go.Proofs.Ytnopjcakilfepaa.SS Go.Proofs.Ytnopjcakilfepaa.Hp Go.Proofs.YtnopjcakilfepaaW.PrintWords Go.Proofs.YtnopjcakilfepaaW.PrintLast Go.Proofs.YtnopjcakilfepaaW.PrintMore
attribute [local go_sem] max2_int min2_int max_two min_two max_three min_three max_four min_four
def swap.T3 : Bool × List (List Nat × List Nat) := (true, [([], []), ([], []), ([], []), ([1, 2], [1, 2]), ([], []), ([], []), ([], []), ([5, 6], [5, 6]), ([], []), ([], []), ([], []), ([9, 10], [9, 10]), ([8, 11], [8, 11]), ([12], [12]), ([], []), ([], []), ([], []), ([15, 16], [15, 16]), ([14, 17], [14, 17]), ([18], [18]), ([0, 3, 0, 1, 2, 3, 8, 9, 10, 11, 12, 13, 19], [0, 3]), ([20, 13, 0, 1, 2, 3, 8, 9, 10, 11, 12, 13, 19], [13, 20]), ([4, 7, 0, 1, 2, 3, 4, 5, 6, 7, 8, 9, 10, 11, 12, 13, 14, 15, 16, 17, 18, 19, 20, 21], [4, 7]), ([22, 19, 21, 0, 1, 2, 3, 4, 5, 6, 7, 8, 9, 10, 11, 12, 13, 14, 15, 16, 17, 18, 19, 20, 21], [19, 22])])
def swap.B3 : List Nat := [0, 0, 0, 6, 0, 0, 0, 96, 0, 0, 0, 1536, 3840, 7936, 0, 0, 0, 98304, 245760, 507904, 1048335, 2096911, 4194303, 8388607]
theorem swap.tab3 : rtab .any (opsOf Try.f84 3) = swap.T3 := by kernel_rfl
theorem swap.bits3 : waitsOk swap.T3.2 swap.B3 = true := by kernel_rfl
set_option maxHeartbeats 4000000 in
set_option maxRecDepth 100000 in
theorem swap_calls (N : Nat) (w0 : World) (g : Nat) (hg : N ≤ g) (cp : Nat) (fv : Value) (ia ib m n : Nat) (d : List Rec) (hn : d.length = n) (hn2 : n ≤ 1000000) (hm : ia + m ≤ ib) (hb : ib + m ≤ n) (w : World) (hB : Kp g w0 w) (hR : RowB w g d) :
    Calls Try.prog 84 #[.slice (some ⟨g, 0, none⟩) n cp, .int .i64 (ia : Int), .int .i64 (ib : Int), .int .i64 (m : Int), fv] w fun e w' => e = .returned (.tuple #[]) ∧ Kp g w0 w' ∧ RowB w' g (swp d ia ib m) := by
  have HG := Aside0.mk hg
  have HN := Aside0.mk hn
  have HM := Aside0.mk (And.intro hn2 (And.intro hm hb))
  replace hB := Aside0.mk hB
  replace hR := Aside0.mk hR
  clear hg hn hn2 hm hb
  go_enter Try.func84, Try.ntmps84
  go_wp2_with fail
  go_loopg [10] (m + 1) (fun kq v10 w' => ∃ i : Nat, v10 = .int .i64 (i : Int) ∧ Aside0 (RowB w' g (swp d ia ib i)) ∧ Aside0 (Kp g w0 w') ∧ Aside0 (i ≤ m) ∧ Aside0 (kq + i = m + 1))
  case atStart => exact ⟨0, rfl, hR, hB, ⟨by omega⟩, ⟨by omega⟩⟩
  case round =>
    clear hR hB
    obtain ⟨i, rfl, RR, BB, HI, HQ⟩ := hrel
    by_cases hi : i < m
    case neg =>
      have hie : i = m := by have := HI.out; omega
      subst hie
      have t1 : decide ((i : Int) < (i : Int)) = false := decide_eq_false (by omega)
      clear hi
      go_wp2_with fail
      go_end0
      exact ⟨rfl, BB.out, RR.out⟩
    case pos =>
      have t1 : decide (i < m) = true := decide_eq_true hi
      have HI2 := Aside0.mk hi
      clear hi
      go_upto_region 3 with fail
      obtain ⟨dd, hdd⟩ : ∃ dd, dd = swp d ia ib i := ⟨_, rfl⟩
      obtain ⟨p, hp⟩ : ∃ p, p = ia + i := ⟨_, rfl⟩
      obtain ⟨q, hq⟩ : ∃ q, q = ib + i := ⟨_, rfl⟩
      have hl : dd.length = n := by rw [hdd, swp_length]; exact HN.out
      have hpq : p < q ∧ q < n := by have := HM.out; have := HI2.out; omega
      obtain ⟨x, hx⟩ : ∃ x, dd[p]? = some x := ⟨_, List.getElem?_eq_getElem (by omega)⟩
      obtain ⟨y, hy⟩ : ∃ y, dd[q]? = some y := ⟨_, List.getElem?_eq_getElem (by omega)⟩
      have HX_p := Aside0.mk hx
      have HX_q := Aside0.mk hy
      have HX2 : Aside0 ((dd.set p y)[q]? = some y) := ⟨by rw [List.getElem?_set_ne (by omega)]; exact hy⟩
      have LO_p := Aside0.mk (eq_true (show (0 : Int) ≤ (p : Int) by omega))
      have LO_q := Aside0.mk (eq_true (show (0 : Int) ≤ (q : Int) by omega))
      have HI_p := Aside0.mk (eq_true (show (p : Int) < (n : Int) by omega))
      have HI_q := Aside0.mk (eq_true (show (q : Int) < (n : Int) by omega))
      have HWp : Aside0 (IntKind.i64.wrap ((ia : Int) + (i : Int)) = (p : Int)) := ⟨by rw [i64_w]; unfold wrap64; have := HM.out; omega⟩
      have HWq : Aside0 (IntKind.i64.wrap ((ib : Int) + (i : Int)) = (q : Int)) := ⟨by rw [i64_w]; unfold wrap64; have := HM.out; omega⟩
      have HF : Aside0 ((dd.set p y).set q x = swp d ia ib (i + 1)) := ⟨by rw [swp, swp1, ← hdd, ← hp, ← hq, hx, hy]⟩
      have B0 := Aside0.mk (kp_drew BB.out)
      have R0 := Aside0.mk (RowB.below RR.out (below_drew1 (Below.refl wr.heap.size wr)))
      rw [← hdd] at R0
      clear hx hy hl hp hq hpq hdd t1 RR BB
      refine start_ (n := 24) (S := fun w' => True) (ds := []) #[false, false, false, false, false, false, false, false, false, false, false, false, false, false, false, false, false, false, false, false, false, false, false, false] (by kernel_rfl) rfl rfl trivial (fun hHeld => ?_)
      refine with_tabW swap.tab3 swap.bits3 (fun HT_ HW_ => ?_)
      generalize wr.drew = wq at B0 R0 hHeld ⊢
      refine inv_at [0, 1, 2, 3, 4, 5, 6, 7, 8, 9, 10, 11, 12, 13, 14, 15, 16, 17, 18, 19, 20, 21, 22, 23] (fun a0_ b a w' => a = putSel a0_ b [(0, 16, .slice (some ⟨g, 0, none⟩) n cp), (1, 17, .int .i64 (ia : Int)), (2, 18, .int .i64 (i : Int)), (3, 19, .int .i64 (p : Int)), (4, 20, .slice (some ⟨g, 0, none⟩) n cp), (5, 21, .int .i64 (ib : Int)), (6, 22, .int .i64 (i : Int)), (7, 23, .int .i64 (q : Int)), (8, 24, .slice (some ⟨g, 0, none⟩) n cp), (9, 25, .int .i64 (ib : Int)), (10, 26, .int .i64 (i : Int)), (11, 27, .int .i64 (q : Int)), (12, 28, .pointer (some ⟨g, q * 8, none⟩)), (13, 29, .agg #[.int .u64 y.id, .int .u64 y.first, .int .i64 y.prio, .int .i64 y.len, .int .u64 y.en, .bool y.played, .int .i64 y.lpn, .slice y.A y.n y.c]), (14, 30, .slice (some ⟨g, 0, none⟩) n cp), (15, 31, .int .i64 (ia : Int)), (16, 32, .int .i64 (i : Int)), (17, 33, .int .i64 (p : Int)), (18, 34, .pointer (some ⟨g, p * 8, none⟩)), (19, 35, .agg #[.int .u64 x.id, .int .u64 x.first, .int .i64 x.prio, .int .i64 x.len, .int .u64 x.en, .bool x.played, .int .i64 x.lpn, .slice x.A x.n x.c]), (20, 36, .pointer (some ⟨g, p * 8, none⟩)), (22, 37, .pointer (some ⟨g, q * 8, none⟩))] ∧ (Kp g w0 w') ∧ (b 21 = false → RowB w' g dd) ∧ (b 21 = true → b 23 = false → RowB w' g (dd.set p y)) ∧ (b 23 = true → RowB w' g ((dd.set p y).set q x))) HT_.out HW_.out (by kernel_rfl) (by kernel_rfl) ?_ ?_ ?_
      · exact ⟨by simp only [putSel, Bool.false_eq_true, if_false], B0.out, fun _ => R0.out, fun h_ => absurd h_ (by decide), fun h_ => absurd h_ (by decide)⟩
      · skip
        clear B0 R0
        refine steps_cons ?_ ?_
        · rintro b a w' ⟨ha, Q_B0, Q_R0, Q_R1, Q_R2⟩ hb_ hon hoff
          refine ⟨_, rfl, fun K hK => ?_⟩
          have e0 : a.tmps[0]? = some (.slice (some ⟨g, 0, none⟩) n cp) := by rw [ha]; exact (putSel_off rfl).trans rfl
          replace ha := Aside0.mk ha
          have B0 := Aside0.mk Q_B0
          have R0 := Aside0.mk (Q_R0 (hoff 21 (by kernel_rfl)))
          refine value_ (w1 := w') (v := .slice (some ⟨g, 0, none⟩) n cp) (by rfl) rfl ?_ ?_
          · go_simp
            (try simp only [i64_w])
            try rfl
          refine hK.out _ _ ⟨(by rw [ha.out]; exact putSel_upk 0 hb_ rfl rfl rfl), Q_B0, Q_R0, fun h0_ _ => absurd ((hoff 21 (by kernel_rfl)).symm.trans h0_) (by decide), fun h0_ => absurd ((hoff 23 (by kernel_rfl)).symm.trans h0_) (by decide)⟩
        refine steps_cons ?_ ?_
        · rintro b a w' ⟨ha, Q_B0, Q_R0, Q_R1, Q_R2⟩ hb_ hon hoff
          refine ⟨_, rfl, fun K hK => ?_⟩
          have e1 : a.tmps[1]? = some (.int .i64 (ia : Int)) := by rw [ha]; exact (putSel_off rfl).trans rfl
          replace ha := Aside0.mk ha
          have B0 := Aside0.mk Q_B0
          have R0 := Aside0.mk (Q_R0 (hoff 21 (by kernel_rfl)))
          refine value_ (w1 := w') (v := .int .i64 (ia : Int)) (by rfl) rfl ?_ ?_
          · go_simp
            (try simp only [i64_w])
            try rfl
          refine hK.out _ _ ⟨(by rw [ha.out]; exact putSel_upk 1 hb_ rfl rfl rfl), Q_B0, Q_R0, fun h0_ _ => absurd ((hoff 21 (by kernel_rfl)).symm.trans h0_) (by decide), fun h0_ => absurd ((hoff 23 (by kernel_rfl)).symm.trans h0_) (by decide)⟩
        refine steps_cons ?_ ?_
        · rintro b a w' ⟨ha, Q_B0, Q_R0, Q_R1, Q_R2⟩ hb_ hon hoff
          refine ⟨_, rfl, fun K hK => ?_⟩
          have e10 : a.tmps[10]? = some (.int .i64 (i : Int)) := by rw [ha]; exact (putSel_off rfl).trans rfl
          replace ha := Aside0.mk ha
          have B0 := Aside0.mk Q_B0
          have R0 := Aside0.mk (Q_R0 (hoff 21 (by kernel_rfl)))
          refine value_ (w1 := w') (v := .int .i64 (i : Int)) (by rfl) rfl ?_ ?_
          · go_simp
            (try simp only [i64_w])
            try rfl
          refine hK.out _ _ ⟨(by rw [ha.out]; exact putSel_upk 2 hb_ rfl rfl rfl), Q_B0, Q_R0, fun h0_ _ => absurd ((hoff 21 (by kernel_rfl)).symm.trans h0_) (by decide), fun h0_ => absurd ((hoff 23 (by kernel_rfl)).symm.trans h0_) (by decide)⟩
        refine steps_cons ?_ ?_
        · rintro b a w' ⟨ha, Q_B0, Q_R0, Q_R1, Q_R2⟩ hb_ hon hoff
          refine ⟨_, rfl, fun K hK => ?_⟩
          have e17 : a.tmps[17]? = some (.int .i64 (ia : Int)) := by rw [ha]; exact putSel_on (e := (1, 17, .int .i64 (ia : Int))) 1 rfl rfl (hon 1 (by kernel_rfl)) rfl
          have e18 : a.tmps[18]? = some (.int .i64 (i : Int)) := by rw [ha]; exact putSel_on (e := (2, 18, .int .i64 (i : Int))) 2 rfl rfl (hon 2 (by kernel_rfl)) rfl
          replace ha := Aside0.mk ha
          have B0 := Aside0.mk Q_B0
          have R0 := Aside0.mk (Q_R0 (hoff 21 (by kernel_rfl)))
          have hw0_ := HWp.out
          refine value_ (w1 := w') (v := .int .i64 (p : Int)) (by rfl) rfl ?_ ?_
          · go_simp
            (try simp only [i64_w])
            try rfl
          refine hK.out _ _ ⟨(by rw [ha.out]; exact putSel_upk 3 hb_ rfl rfl rfl), Q_B0, Q_R0, fun h0_ _ => absurd ((hoff 21 (by kernel_rfl)).symm.trans h0_) (by decide), fun h0_ => absurd ((hoff 23 (by kernel_rfl)).symm.trans h0_) (by decide)⟩
        refine steps_cons ?_ ?_
        · rintro b a w' ⟨ha, Q_B0, Q_R0, Q_R1, Q_R2⟩ hb_ hon hoff
          refine ⟨_, rfl, fun K hK => ?_⟩
          have e0 : a.tmps[0]? = some (.slice (some ⟨g, 0, none⟩) n cp) := by rw [ha]; exact (putSel_off rfl).trans rfl
          replace ha := Aside0.mk ha
          have B0 := Aside0.mk Q_B0
          refine value_ (w1 := w') (v := .slice (some ⟨g, 0, none⟩) n cp) (by rfl) rfl ?_ ?_
          · go_simp
            (try simp only [i64_w])
            try rfl
          refine hK.out _ _ ⟨(by rw [ha.out]; exact putSel_upk 4 hb_ rfl rfl rfl), Q_B0, Q_R0, Q_R1, fun h0_ => absurd ((hoff 23 (by kernel_rfl)).symm.trans h0_) (by decide)⟩
        refine steps_cons ?_ ?_
        · rintro b a w' ⟨ha, Q_B0, Q_R0, Q_R1, Q_R2⟩ hb_ hon hoff
          refine ⟨_, rfl, fun K hK => ?_⟩
          have e2 : a.tmps[2]? = some (.int .i64 (ib : Int)) := by rw [ha]; exact (putSel_off rfl).trans rfl
          replace ha := Aside0.mk ha
          have B0 := Aside0.mk Q_B0
          refine value_ (w1 := w') (v := .int .i64 (ib : Int)) (by rfl) rfl ?_ ?_
          · go_simp
            (try simp only [i64_w])
            try rfl
          refine hK.out _ _ ⟨(by rw [ha.out]; exact putSel_upk 5 hb_ rfl rfl rfl), Q_B0, Q_R0, Q_R1, fun h0_ => absurd ((hoff 23 (by kernel_rfl)).symm.trans h0_) (by decide)⟩
        refine steps_cons ?_ ?_
        · rintro b a w' ⟨ha, Q_B0, Q_R0, Q_R1, Q_R2⟩ hb_ hon hoff
          refine ⟨_, rfl, fun K hK => ?_⟩
          have e10 : a.tmps[10]? = some (.int .i64 (i : Int)) := by rw [ha]; exact (putSel_off rfl).trans rfl
          replace ha := Aside0.mk ha
          have B0 := Aside0.mk Q_B0
          refine value_ (w1 := w') (v := .int .i64 (i : Int)) (by rfl) rfl ?_ ?_
          · go_simp
            (try simp only [i64_w])
            try rfl
          refine hK.out _ _ ⟨(by rw [ha.out]; exact putSel_upk 6 hb_ rfl rfl rfl), Q_B0, Q_R0, Q_R1, fun h0_ => absurd ((hoff 23 (by kernel_rfl)).symm.trans h0_) (by decide)⟩
        refine steps_cons ?_ ?_
        · rintro b a w' ⟨ha, Q_B0, Q_R0, Q_R1, Q_R2⟩ hb_ hon hoff
          refine ⟨_, rfl, fun K hK => ?_⟩
          have e21 : a.tmps[21]? = some (.int .i64 (ib : Int)) := by rw [ha]; exact putSel_on (e := (5, 21, .int .i64 (ib : Int))) 5 rfl rfl (hon 5 (by kernel_rfl)) rfl
          have e22 : a.tmps[22]? = some (.int .i64 (i : Int)) := by rw [ha]; exact putSel_on (e := (6, 22, .int .i64 (i : Int))) 6 rfl rfl (hon 6 (by kernel_rfl)) rfl
          replace ha := Aside0.mk ha
          have B0 := Aside0.mk Q_B0
          have hw0_ := HWq.out
          refine value_ (w1 := w') (v := .int .i64 (q : Int)) (by rfl) rfl ?_ ?_
          · go_simp
            (try simp only [i64_w])
            try rfl
          refine hK.out _ _ ⟨(by rw [ha.out]; exact putSel_upk 7 hb_ rfl rfl rfl), Q_B0, Q_R0, Q_R1, fun h0_ => absurd ((hoff 23 (by kernel_rfl)).symm.trans h0_) (by decide)⟩
        refine steps_cons ?_ ?_
        · rintro b a w' ⟨ha, Q_B0, Q_R0, Q_R1, Q_R2⟩ hb_ hon hoff
          refine ⟨_, rfl, fun K hK => ?_⟩
          have e0 : a.tmps[0]? = some (.slice (some ⟨g, 0, none⟩) n cp) := by rw [ha]; exact (putSel_off rfl).trans rfl
          replace ha := Aside0.mk ha
          have B0 := Aside0.mk Q_B0
          have R0 := Aside0.mk (Q_R0 (hoff 21 (by kernel_rfl)))
          refine value_ (w1 := w') (v := .slice (some ⟨g, 0, none⟩) n cp) (by rfl) rfl ?_ ?_
          · go_simp
            (try simp only [i64_w])
            try rfl
          refine hK.out _ _ ⟨(by rw [ha.out]; exact putSel_upk 8 hb_ rfl rfl rfl), Q_B0, Q_R0, fun h0_ _ => absurd ((hoff 21 (by kernel_rfl)).symm.trans h0_) (by decide), fun h0_ => absurd ((hoff 23 (by kernel_rfl)).symm.trans h0_) (by decide)⟩
        refine steps_cons ?_ ?_
        · rintro b a w' ⟨ha, Q_B0, Q_R0, Q_R1, Q_R2⟩ hb_ hon hoff
          refine ⟨_, rfl, fun K hK => ?_⟩
          have e2 : a.tmps[2]? = some (.int .i64 (ib : Int)) := by rw [ha]; exact (putSel_off rfl).trans rfl
          replace ha := Aside0.mk ha
          have B0 := Aside0.mk Q_B0
          have R0 := Aside0.mk (Q_R0 (hoff 21 (by kernel_rfl)))
          refine value_ (w1 := w') (v := .int .i64 (ib : Int)) (by rfl) rfl ?_ ?_
          · go_simp
            (try simp only [i64_w])
            try rfl
          refine hK.out _ _ ⟨(by rw [ha.out]; exact putSel_upk 9 hb_ rfl rfl rfl), Q_B0, Q_R0, fun h0_ _ => absurd ((hoff 21 (by kernel_rfl)).symm.trans h0_) (by decide), fun h0_ => absurd ((hoff 23 (by kernel_rfl)).symm.trans h0_) (by decide)⟩
        refine steps_cons ?_ ?_
        · rintro b a w' ⟨ha, Q_B0, Q_R0, Q_R1, Q_R2⟩ hb_ hon hoff
          refine ⟨_, rfl, fun K hK => ?_⟩
          have e10 : a.tmps[10]? = some (.int .i64 (i : Int)) := by rw [ha]; exact (putSel_off rfl).trans rfl
          replace ha := Aside0.mk ha
          have B0 := Aside0.mk Q_B0
          have R0 := Aside0.mk (Q_R0 (hoff 21 (by kernel_rfl)))
          refine value_ (w1 := w') (v := .int .i64 (i : Int)) (by rfl) rfl ?_ ?_
          · go_simp
            (try simp only [i64_w])
            try rfl
          refine hK.out _ _ ⟨(by rw [ha.out]; exact putSel_upk 10 hb_ rfl rfl rfl), Q_B0, Q_R0, fun h0_ _ => absurd ((hoff 21 (by kernel_rfl)).symm.trans h0_) (by decide), fun h0_ => absurd ((hoff 23 (by kernel_rfl)).symm.trans h0_) (by decide)⟩
        refine steps_cons ?_ ?_
        · rintro b a w' ⟨ha, Q_B0, Q_R0, Q_R1, Q_R2⟩ hb_ hon hoff
          refine ⟨_, rfl, fun K hK => ?_⟩
          have e25 : a.tmps[25]? = some (.int .i64 (ib : Int)) := by rw [ha]; exact putSel_on (e := (9, 25, .int .i64 (ib : Int))) 9 rfl rfl (hon 9 (by kernel_rfl)) rfl
          have e26 : a.tmps[26]? = some (.int .i64 (i : Int)) := by rw [ha]; exact putSel_on (e := (10, 26, .int .i64 (i : Int))) 10 rfl rfl (hon 10 (by kernel_rfl)) rfl
          replace ha := Aside0.mk ha
          have B0 := Aside0.mk Q_B0
          have R0 := Aside0.mk (Q_R0 (hoff 21 (by kernel_rfl)))
          have hw0_ := HWq.out
          refine value_ (w1 := w') (v := .int .i64 (q : Int)) (by rfl) rfl ?_ ?_
          · go_simp
            (try simp only [i64_w])
            try rfl
          refine hK.out _ _ ⟨(by rw [ha.out]; exact putSel_upk 11 hb_ rfl rfl rfl), Q_B0, Q_R0, fun h0_ _ => absurd ((hoff 21 (by kernel_rfl)).symm.trans h0_) (by decide), fun h0_ => absurd ((hoff 23 (by kernel_rfl)).symm.trans h0_) (by decide)⟩
        refine steps_cons ?_ ?_
        · rintro b a w' ⟨ha, Q_B0, Q_R0, Q_R1, Q_R2⟩ hb_ hon hoff
          refine ⟨_, rfl, fun K hK => ?_⟩
          have e24 : a.tmps[24]? = some (.slice (some ⟨g, 0, none⟩) n cp) := by rw [ha]; exact putSel_on (e := (8, 24, .slice (some ⟨g, 0, none⟩) n cp)) 8 rfl rfl (hon 8 (by kernel_rfl)) rfl
          have e27 : a.tmps[27]? = some (.int .i64 (q : Int)) := by rw [ha]; exact putSel_on (e := (11, 27, .int .i64 (q : Int))) 11 rfl rfl (hon 11 (by kernel_rfl)) rfl
          replace ha := Aside0.mk ha
          have B0 := Aside0.mk Q_B0
          have R0 := Aside0.mk (Q_R0 (hoff 21 (by kernel_rfl)))
          have p1_ := LO_q.out
          have q1_ := HI_q.out
          refine value_ (w1 := w') (v := .pointer (some ⟨g, q * 8, none⟩)) (by rfl) rfl ?_ ?_
          · go_simp
            (try simp only [i64_w])
            try rfl
          refine hK.out _ _ ⟨(by rw [ha.out]; exact putSel_upk 12 hb_ rfl rfl rfl), Q_B0, Q_R0, fun h0_ _ => absurd ((hoff 21 (by kernel_rfl)).symm.trans h0_) (by decide), fun h0_ => absurd ((hoff 23 (by kernel_rfl)).symm.trans h0_) (by decide)⟩
        refine steps_cons ?_ ?_
        · rintro b a w' ⟨ha, Q_B0, Q_R0, Q_R1, Q_R2⟩ hb_ hon hoff
          refine ⟨_, rfl, fun K hK => ?_⟩
          have e28 : a.tmps[28]? = some (.pointer (some ⟨g, q * 8, none⟩)) := by rw [ha]; exact putSel_on (e := (12, 28, .pointer (some ⟨g, q * 8, none⟩))) 12 rfl rfl (hon 12 (by kernel_rfl)) rfl
          replace ha := Aside0.mk ha
          have B0 := Aside0.mk Q_B0
          have R0 := Aside0.mk (Q_R0 (hoff 21 (by kernel_rfl)))
          have cs_ := R0.out.cells HX_q.out
          refine value_ (w1 := w') (v := .agg #[.int .u64 y.id, .int .u64 y.first, .int .i64 y.prio, .int .i64 y.len, .int .u64 y.en, .bool y.played, .int .i64 y.lpn, .slice y.A y.n y.c]) (by rfl) rfl ?_ ?_
          · go_simp
            (try simp only [i64_w])
            try rfl
          refine hK.out _ _ ⟨(by rw [ha.out]; exact putSel_upk 13 hb_ rfl rfl rfl), Q_B0, Q_R0, fun h0_ _ => absurd ((hoff 21 (by kernel_rfl)).symm.trans h0_) (by decide), fun h0_ => absurd ((hoff 23 (by kernel_rfl)).symm.trans h0_) (by decide)⟩
        refine steps_cons ?_ ?_
        · rintro b a w' ⟨ha, Q_B0, Q_R0, Q_R1, Q_R2⟩ hb_ hon hoff
          refine ⟨_, rfl, fun K hK => ?_⟩
          have e0 : a.tmps[0]? = some (.slice (some ⟨g, 0, none⟩) n cp) := by rw [ha]; exact (putSel_off rfl).trans rfl
          replace ha := Aside0.mk ha
          have B0 := Aside0.mk Q_B0
          have R0 := Aside0.mk (Q_R0 (hoff 21 (by kernel_rfl)))
          refine value_ (w1 := w') (v := .slice (some ⟨g, 0, none⟩) n cp) (by rfl) rfl ?_ ?_
          · go_simp
            (try simp only [i64_w])
            try rfl
          refine hK.out _ _ ⟨(by rw [ha.out]; exact putSel_upk 14 hb_ rfl rfl rfl), Q_B0, Q_R0, fun h0_ _ => absurd ((hoff 21 (by kernel_rfl)).symm.trans h0_) (by decide), fun h0_ => absurd ((hoff 23 (by kernel_rfl)).symm.trans h0_) (by decide)⟩
        refine steps_cons ?_ ?_
        · rintro b a w' ⟨ha, Q_B0, Q_R0, Q_R1, Q_R2⟩ hb_ hon hoff
          refine ⟨_, rfl, fun K hK => ?_⟩
          have e1 : a.tmps[1]? = some (.int .i64 (ia : Int)) := by rw [ha]; exact (putSel_off rfl).trans rfl
          replace ha := Aside0.mk ha
          have B0 := Aside0.mk Q_B0
          have R0 := Aside0.mk (Q_R0 (hoff 21 (by kernel_rfl)))
          refine value_ (w1 := w') (v := .int .i64 (ia : Int)) (by rfl) rfl ?_ ?_
          · go_simp
            (try simp only [i64_w])
            try rfl
          refine hK.out _ _ ⟨(by rw [ha.out]; exact putSel_upk 15 hb_ rfl rfl rfl), Q_B0, Q_R0, fun h0_ _ => absurd ((hoff 21 (by kernel_rfl)).symm.trans h0_) (by decide), fun h0_ => absurd ((hoff 23 (by kernel_rfl)).symm.trans h0_) (by decide)⟩
        refine steps_cons ?_ ?_
        · rintro b a w' ⟨ha, Q_B0, Q_R0, Q_R1, Q_R2⟩ hb_ hon hoff
          refine ⟨_, rfl, fun K hK => ?_⟩
          have e10 : a.tmps[10]? = some (.int .i64 (i : Int)) := by rw [ha]; exact (putSel_off rfl).trans rfl
          replace ha := Aside0.mk ha
          have B0 := Aside0.mk Q_B0
          have R0 := Aside0.mk (Q_R0 (hoff 21 (by kernel_rfl)))
          refine value_ (w1 := w') (v := .int .i64 (i : Int)) (by rfl) rfl ?_ ?_
          · go_simp
            (try simp only [i64_w])
            try rfl
          refine hK.out _ _ ⟨(by rw [ha.out]; exact putSel_upk 16 hb_ rfl rfl rfl), Q_B0, Q_R0, fun h0_ _ => absurd ((hoff 21 (by kernel_rfl)).symm.trans h0_) (by decide), fun h0_ => absurd ((hoff 23 (by kernel_rfl)).symm.trans h0_) (by decide)⟩
        refine steps_cons ?_ ?_
        · rintro b a w' ⟨ha, Q_B0, Q_R0, Q_R1, Q_R2⟩ hb_ hon hoff
          refine ⟨_, rfl, fun K hK => ?_⟩
          have e31 : a.tmps[31]? = some (.int .i64 (ia : Int)) := by rw [ha]; exact putSel_on (e := (15, 31, .int .i64 (ia : Int))) 15 rfl rfl (hon 15 (by kernel_rfl)) rfl
          have e32 : a.tmps[32]? = some (.int .i64 (i : Int)) := by rw [ha]; exact putSel_on (e := (16, 32, .int .i64 (i : Int))) 16 rfl rfl (hon 16 (by kernel_rfl)) rfl
          replace ha := Aside0.mk ha
          have B0 := Aside0.mk Q_B0
          have R0 := Aside0.mk (Q_R0 (hoff 21 (by kernel_rfl)))
          have hw0_ := HWp.out
          refine value_ (w1 := w') (v := .int .i64 (p : Int)) (by rfl) rfl ?_ ?_
          · go_simp
            (try simp only [i64_w])
            try rfl
          refine hK.out _ _ ⟨(by rw [ha.out]; exact putSel_upk 17 hb_ rfl rfl rfl), Q_B0, Q_R0, fun h0_ _ => absurd ((hoff 21 (by kernel_rfl)).symm.trans h0_) (by decide), fun h0_ => absurd ((hoff 23 (by kernel_rfl)).symm.trans h0_) (by decide)⟩
        refine steps_cons ?_ ?_
        · rintro b a w' ⟨ha, Q_B0, Q_R0, Q_R1, Q_R2⟩ hb_ hon hoff
          refine ⟨_, rfl, fun K hK => ?_⟩
          have e30 : a.tmps[30]? = some (.slice (some ⟨g, 0, none⟩) n cp) := by rw [ha]; exact putSel_on (e := (14, 30, .slice (some ⟨g, 0, none⟩) n cp)) 14 rfl rfl (hon 14 (by kernel_rfl)) rfl
          have e33 : a.tmps[33]? = some (.int .i64 (p : Int)) := by rw [ha]; exact putSel_on (e := (17, 33, .int .i64 (p : Int))) 17 rfl rfl (hon 17 (by kernel_rfl)) rfl
          replace ha := Aside0.mk ha
          have B0 := Aside0.mk Q_B0
          have R0 := Aside0.mk (Q_R0 (hoff 21 (by kernel_rfl)))
          have p1_ := LO_p.out
          have q1_ := HI_p.out
          refine value_ (w1 := w') (v := .pointer (some ⟨g, p * 8, none⟩)) (by rfl) rfl ?_ ?_
          · go_simp
            (try simp only [i64_w])
            try rfl
          refine hK.out _ _ ⟨(by rw [ha.out]; exact putSel_upk 18 hb_ rfl rfl rfl), Q_B0, Q_R0, fun h0_ _ => absurd ((hoff 21 (by kernel_rfl)).symm.trans h0_) (by decide), fun h0_ => absurd ((hoff 23 (by kernel_rfl)).symm.trans h0_) (by decide)⟩
        refine steps_cons ?_ ?_
        · rintro b a w' ⟨ha, Q_B0, Q_R0, Q_R1, Q_R2⟩ hb_ hon hoff
          refine ⟨_, rfl, fun K hK => ?_⟩
          have e34 : a.tmps[34]? = some (.pointer (some ⟨g, p * 8, none⟩)) := by rw [ha]; exact putSel_on (e := (18, 34, .pointer (some ⟨g, p * 8, none⟩))) 18 rfl rfl (hon 18 (by kernel_rfl)) rfl
          replace ha := Aside0.mk ha
          have B0 := Aside0.mk Q_B0
          have R0 := Aside0.mk (Q_R0 (hoff 21 (by kernel_rfl)))
          have cs_ := R0.out.cells HX_p.out
          refine value_ (w1 := w') (v := .agg #[.int .u64 x.id, .int .u64 x.first, .int .i64 x.prio, .int .i64 x.len, .int .u64 x.en, .bool x.played, .int .i64 x.lpn, .slice x.A x.n x.c]) (by rfl) rfl ?_ ?_
          · go_simp
            (try simp only [i64_w])
            try rfl
          refine hK.out _ _ ⟨(by rw [ha.out]; exact putSel_upk 19 hb_ rfl rfl rfl), Q_B0, Q_R0, fun h0_ _ => absurd ((hoff 21 (by kernel_rfl)).symm.trans h0_) (by decide), fun h0_ => absurd ((hoff 23 (by kernel_rfl)).symm.trans h0_) (by decide)⟩
        refine steps_cons ?_ ?_
        · rintro b a w' ⟨ha, Q_B0, Q_R0, Q_R1, Q_R2⟩ hb_ hon hoff
          refine ⟨_, rfl, fun K hK => ?_⟩
          have e16 : a.tmps[16]? = some (.slice (some ⟨g, 0, none⟩) n cp) := by rw [ha]; exact putSel_on (e := (0, 16, .slice (some ⟨g, 0, none⟩) n cp)) 0 rfl rfl (hon 0 (by kernel_rfl)) rfl
          have e19 : a.tmps[19]? = some (.int .i64 (p : Int)) := by rw [ha]; exact putSel_on (e := (3, 19, .int .i64 (p : Int))) 3 rfl rfl (hon 3 (by kernel_rfl)) rfl
          replace ha := Aside0.mk ha
          have B0 := Aside0.mk Q_B0
          have R0 := Aside0.mk (Q_R0 (hoff 21 (by kernel_rfl)))
          have p1_ := LO_p.out
          have q1_ := HI_p.out
          refine value_ (w1 := w') (v := .pointer (some ⟨g, p * 8, none⟩)) (by rfl) rfl ?_ ?_
          · go_simp
            (try simp only [i64_w])
            try rfl
          refine hK.out _ _ ⟨(by rw [ha.out]; exact putSel_upk 20 hb_ rfl rfl rfl), Q_B0, Q_R0, fun h0_ _ => absurd ((hoff 21 (by kernel_rfl)).symm.trans h0_) (by decide), fun h0_ => absurd ((hoff 23 (by kernel_rfl)).symm.trans h0_) (by decide)⟩
        refine steps_cons ?_ ?_
        · rintro b a w' ⟨ha, Q_B0, Q_R0, Q_R1, Q_R2⟩ hb_ hon hoff
          refine ⟨_, rfl, fun K hK => ?_⟩
          have e36 : a.tmps[36]? = some (.pointer (some ⟨g, p * 8, none⟩)) := by rw [ha]; exact putSel_on (e := (20, 36, .pointer (some ⟨g, p * 8, none⟩))) 20 rfl rfl (hon 20 (by kernel_rfl)) rfl
          have e29 : a.tmps[29]? = some (.agg #[.int .u64 y.id, .int .u64 y.first, .int .i64 y.prio, .int .i64 y.len, .int .u64 y.en, .bool y.played, .int .i64 y.lpn, .slice y.A y.n y.c]) := by rw [ha]; exact putSel_on (e := (13, 29, .agg #[.int .u64 y.id, .int .u64 y.first, .int .i64 y.prio, .int .i64 y.len, .int .u64 y.en, .bool y.played, .int .i64 y.lpn, .slice y.A y.n y.c])) 13 rfl rfl (hon 13 (by kernel_rfl)) rfl
          replace ha := Aside0.mk ha
          have B0 := Aside0.mk Q_B0
          have R0 := Aside0.mk (Q_R0 hb_)
          have cs_ := R0.out.cells HX_p.out
          have f0_ := R0.out.frozen (p * 8)
          have f1_ := R0.out.frozen (p * 8 + 1)
          have f2_ := R0.out.frozen (p * 8 + 2)
          have f3_ := R0.out.frozen (p * 8 + 3)
          have f4_ := R0.out.frozen (p * 8 + 4)
          have f5_ := R0.out.frozen (p * 8 + 5)
          have f6_ := R0.out.frozen (p * 8 + 6)
          have f7_ := R0.out.frozen (p * 8 + 7)
          refine skip_ (w1 := ?_) (by rfl) rfl ?_ ?_
          rotate_left
          · go_simp
            rfl
          refine hK.out _ _ ⟨(by rw [ha.out]; exact putSel_none (v := undef) rfl), setRec_below (j := p) (x := y) B0.out HG.out, fun h0_ => absurd ((up_self b 21).symm.trans h0_) (by decide), fun _ _ => R0.out.set p y, fun h0_ => absurd ((hoff 23 (by kernel_rfl)).symm.trans h0_) (by decide)⟩
        refine steps_cons ?_ ?_
        · rintro b a w' ⟨ha, Q_B0, Q_R0, Q_R1, Q_R2⟩ hb_ hon hoff
          refine ⟨_, rfl, fun K hK => ?_⟩
          have e20 : a.tmps[20]? = some (.slice (some ⟨g, 0, none⟩) n cp) := by rw [ha]; exact putSel_on (e := (4, 20, .slice (some ⟨g, 0, none⟩) n cp)) 4 rfl rfl (hon 4 (by kernel_rfl)) rfl
          have e23 : a.tmps[23]? = some (.int .i64 (q : Int)) := by rw [ha]; exact putSel_on (e := (7, 23, .int .i64 (q : Int))) 7 rfl rfl (hon 7 (by kernel_rfl)) rfl
          replace ha := Aside0.mk ha
          have B0 := Aside0.mk Q_B0
          have R1 := Aside0.mk (Q_R1 (hon 21 (by kernel_rfl)) (hoff 23 (by kernel_rfl)))
          have p1_ := LO_q.out
          have q1_ := HI_q.out
          refine value_ (w1 := w') (v := .pointer (some ⟨g, q * 8, none⟩)) (by rfl) rfl ?_ ?_
          · go_simp
            (try simp only [i64_w])
            try rfl
          refine hK.out _ _ ⟨(by rw [ha.out]; exact putSel_upk 21 hb_ rfl rfl rfl), Q_B0, fun h0_ => absurd ((hon 21 (by kernel_rfl)).symm.trans h0_) (by decide), Q_R1, fun h0_ => absurd ((hoff 23 (by kernel_rfl)).symm.trans h0_) (by decide)⟩
        refine steps_cons ?_ ?_
        · rintro b a w' ⟨ha, Q_B0, Q_R0, Q_R1, Q_R2⟩ hb_ hon hoff
          refine ⟨_, rfl, fun K hK => ?_⟩
          have e37 : a.tmps[37]? = some (.pointer (some ⟨g, q * 8, none⟩)) := by rw [ha]; exact putSel_on (e := (22, 37, .pointer (some ⟨g, q * 8, none⟩))) 21 rfl rfl (hon 22 (by kernel_rfl)) rfl
          have e35 : a.tmps[35]? = some (.agg #[.int .u64 x.id, .int .u64 x.first, .int .i64 x.prio, .int .i64 x.len, .int .u64 x.en, .bool x.played, .int .i64 x.lpn, .slice x.A x.n x.c]) := by rw [ha]; exact putSel_on (e := (19, 35, .agg #[.int .u64 x.id, .int .u64 x.first, .int .i64 x.prio, .int .i64 x.len, .int .u64 x.en, .bool x.played, .int .i64 x.lpn, .slice x.A x.n x.c])) 19 rfl rfl (hon 19 (by kernel_rfl)) rfl
          replace ha := Aside0.mk ha
          have B0 := Aside0.mk Q_B0
          have R1 := Aside0.mk (Q_R1 (hon 21 (by kernel_rfl)) hb_)
          have cs_ := R1.out.cells HX2.out
          have f0_ := R1.out.frozen (q * 8)
          have f1_ := R1.out.frozen (q * 8 + 1)
          have f2_ := R1.out.frozen (q * 8 + 2)
          have f3_ := R1.out.frozen (q * 8 + 3)
          have f4_ := R1.out.frozen (q * 8 + 4)
          have f5_ := R1.out.frozen (q * 8 + 5)
          have f6_ := R1.out.frozen (q * 8 + 6)
          have f7_ := R1.out.frozen (q * 8 + 7)
          refine skip_ (w1 := ?_) (by rfl) rfl ?_ ?_
          rotate_left
          · go_simp
            rfl
          refine hK.out _ _ ⟨(by rw [ha.out]; exact putSel_none (v := undef) rfl), setRec_below (j := q) (x := x) B0.out HG.out, fun h0_ => absurd ((hon 21 (by kernel_rfl)).symm.trans h0_) (by decide), fun _ h1_ => absurd ((up_self b 23).symm.trans h1_) (by decide), fun _ => R1.out.set q x⟩
        exact steps_nil
      rintro b a wl hall ⟨ha, Q_B0, Q_R0, Q_R1, Q_R2⟩
      clear B0 R0
      have hb0_ := hall 0 (by kernel_rfl)
      have hb1_ := hall 1 (by kernel_rfl)
      have hb2_ := hall 2 (by kernel_rfl)
      have hb3_ := hall 3 (by kernel_rfl)
      have hb4_ := hall 4 (by kernel_rfl)
      have hb5_ := hall 5 (by kernel_rfl)
      have hb6_ := hall 6 (by kernel_rfl)
      have hb7_ := hall 7 (by kernel_rfl)
      have hb8_ := hall 8 (by kernel_rfl)
      have hb9_ := hall 9 (by kernel_rfl)
      have hb10_ := hall 10 (by kernel_rfl)
      have hb11_ := hall 11 (by kernel_rfl)
      have hb12_ := hall 12 (by kernel_rfl)
      have hb13_ := hall 13 (by kernel_rfl)
      have hb14_ := hall 14 (by kernel_rfl)
      have hb15_ := hall 15 (by kernel_rfl)
      have hb16_ := hall 16 (by kernel_rfl)
      have hb17_ := hall 17 (by kernel_rfl)
      have hb18_ := hall 18 (by kernel_rfl)
      have hb19_ := hall 19 (by kernel_rfl)
      have hb20_ := hall 20 (by kernel_rfl)
      have hb21_ := hall 21 (by kernel_rfl)
      have hb22_ := hall 22 (by kernel_rfl)
      have hb23_ := hall 23 (by kernel_rfl)
      subst ha
      simp only [putSel, hb0_, hb1_, hb2_, hb3_, hb4_, hb5_, hb6_, hb7_, hb8_, hb9_, hb10_, hb11_, hb12_, hb13_, hb14_, hb15_, hb16_, hb17_, hb18_, hb19_, hb20_, hb21_, hb22_, hb23_, if_true, Act.put, List.setIfInBounds_toArray, List.set_cons_zero, List.set_cons_succ]
      have B0 := Aside0.mk Q_B0
      clear Q_B0
      clear Q_R0
      clear Q_R1
      have R2 := Aside0.mk (Q_R2 hb23_)
      clear Q_R2
      clear hall hb0_ hb1_ hb2_ hb3_ hb4_ hb5_ hb6_ hb7_ hb8_ hb9_ hb10_ hb11_ hb12_ hb13_ hb14_ hb15_ hb16_ hb17_ hb18_ hb19_ hb20_ hb21_ hb22_ hb23_
      go_wp2_with fail
      go_roundg (m - i)
      case measure => have := HQ.out; have := HI2.out; omega
      case rel => exact ⟨i + 1, by first | rfl | (simp; unfold wrap64; have := HI2.out; have := HM.out; omega), ⟨by rw [← HF.out]; exact R2.out⟩, B0, ⟨by have := HI2.out; omega⟩, ⟨by have := HQ.out; have := HI2.out; omega⟩⟩
end Go.Proofs.Ytnopjcakilfepaa.QS
