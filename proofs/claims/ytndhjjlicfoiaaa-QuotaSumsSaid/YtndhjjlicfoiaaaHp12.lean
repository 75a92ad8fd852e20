-- Laid by this workplace's own program hprint.py (functions marked by hand are ours; the others are printed out of the translation). Not trusted: Lean checks it.
import Derived.Test.YtndhjjlicfoiaaaHp0
import Derived.Test.YtndhjjlicfoiaaaHp9
import Derived.Test.YtndhjjlicfoiaaaHp11
namespace Go.Proofs.Ytndhjjlicfoiaaa.Hp
open Go.RowKit Go.Proofs.YtndhjjlicfoiaaaW.PrintWords Go.Proofs.YtndhjjlicfoiaaaW.PrintLast Go.Proofs.YtndhjjlicfoiaaaW.PrintMore
attribute [local go_sem] max2_int min2_int max_two min_two max_three min_three max_four min_four   -- for this text's walks alone
set_option linter.unusedVariables false
set_option linter.unusedSimpArgs false

/-! ### wagtailref28_Needed: function 16 -/
mutual
def wagtailref28_Needed.l0 : Nat → Int → Int → List Int → List (S38) → Option (List Int)
  | 0, _, _, _, _ => none
  | k + 1, x1, x2, x7, x8 => (wagtailref28_Fits.f k x8 x1 x2).bind fun t147 => (if t147 = true then (some x7) else (if (x8.length : Int) = 0 then (some ([] : List Int)) else (wagtailref28_Needed.l1 k x1 x2 x7 x8 0 0)))
def wagtailref28_Needed.l1 : Nat → Int → Int → List Int → List (S38) → Int → Int → Option (List Int)
  | 0, _, _, _, _, _, _ => none
  | k + 1, x1, x2, x7, x8, x9, x10 => if x10 < (x8.length : Int) then (if 0 ≤ x10 then (if 0 ≤ x9 then (if x9 < (x8.length : Int) then ((wagtailref28_Less.f ((rd_T38 x8 x10).f0) ((rd_T38 x8 x10).f1) ((rd_T38 x8 x10).f2) ((rd_T38 x8 x10).f3) ((rd_T38 x8 x10).f4) ((rd_T38 x8 x10).f5) ((rd_T38 x8 x10).f6) ((rd_T38 x8 x10).f7) ((rd_T38 x8 x9).f0) ((rd_T38 x8 x9).f1) ((rd_T38 x8 x9).f2) ((rd_T38 x8 x9).f3) ((rd_T38 x8 x9).f4) ((rd_T38 x8 x9).f5) ((rd_T38 x8 x9).f6) ((rd_T38 x8 x9).f7)).bind fun t150 => (if t150 = true then (wagtailref28_Needed.l1 k x1 x2 x7 x8 x10 (wrap64 (x10 + 1))) else (wagtailref28_Needed.l1 k x1 x2 x7 x8 x9 (wrap64 (x10 + 1))))) else (none)) else (none)) else (none)) else (if 0 ≤ x9 then (if x9 < (x8.length : Int) then (if x7.length < 17592186044416 then ((some (([] : List (S38)) : List (S38))).bind fun y155 => (if x9 ≤ (x8.length : Int) then ((some (x8.take (x9 : Int).toNat : List (S38))).bind fun y158 => (if y155.length + y158.length < 1759218604441 then ((some (y155 ++ y158 : List (S38))).bind fun y163 => (if 0 ≤ (wrap64 (x9 + 1)) then (if (wrap64 (x9 + 1)) ≤ (x8.length : Int) then ((some (x8.drop ((wrap64 (x9 + 1)) : Int).toNat : List (S38))).bind fun y166 => (if y163.length + y166.length < 1759218604441 then (wagtailref28_Needed.l0 k x1 x2 (x7 ++ [(rd_T38 x8 x9).f0]) (y163 ++ y166)) else (none))) else (none)) else (none))) else (none))) else (none))) else (none)) else (none)) else (none))
end
def wagtailref28_Needed.f (k : Nat) (l0 : List (S38)) (a1 : Int) (a2 : Int) : Option (List Int) := wagtailref28_Needed.l0 k a1 a2 ([] : List Int) l0
theorem wagtailref28_Needed.mono_l : ∀ k, (∀ y0 y1 y2 y3, LeO (wagtailref28_Needed.l0 k y0 y1 y2 y3) (wagtailref28_Needed.l0 (k + 1) y0 y1 y2 y3)) ∧ (∀ y0 y1 y2 y3 y4 y5, LeO (wagtailref28_Needed.l1 k y0 y1 y2 y3 y4 y5) (wagtailref28_Needed.l1 (k + 1) y0 y1 y2 y3 y4 y5))
  | 0 => ⟨fun _ _ _ _ r h => by simp [wagtailref28_Needed.l0] at h, fun _ _ _ _ _ _ r h => by simp [wagtailref28_Needed.l1] at h⟩
  | k + 1 => by
    obtain ⟨ih0, ih1⟩ := wagtailref28_Needed.mono_l k
    refine ⟨?_, ?_⟩
    · intro y0 y1 y2 y3
      unfold wagtailref28_Needed.l0
      repeat' first
      | (with_reducible exact ih0 _ _ _ _)
      | (with_reducible exact ih1 _ _ _ _ _ _)
      | (with_reducible exact wagtailref28_Fits.mono _ _ _ _)
      | (with_reducible exact LeO.refl _)
      | (with_reducible exact LeO.none _)
      | (with_reducible refine LeO.ite ?_ ?_)
      | (with_reducible refine LeO.bind ?_ (fun _ => ?_))
      | exact ih0 _ _ _ _
      | exact ih1 _ _ _ _ _ _
      | exact wagtailref28_Fits.mono _ _ _ _
      | exact LeO.none _
      | refine LeO.ite ?_ ?_
      | refine LeO.bind ?_ (fun _ => ?_)
    · intro y0 y1 y2 y3 y4 y5
      unfold wagtailref28_Needed.l1
      repeat' first
      | (with_reducible exact ih0 _ _ _ _)
      | (with_reducible exact ih1 _ _ _ _ _ _)
      | (with_reducible exact wagtailref28_Fits.mono _ _ _ _)
      | (with_reducible exact LeO.refl _)
      | (with_reducible exact LeO.none _)
      | (with_reducible refine LeO.ite ?_ ?_)
      | (with_reducible refine LeO.bind ?_ (fun _ => ?_))
      | exact ih0 _ _ _ _
      | exact ih1 _ _ _ _ _ _
      | exact wagtailref28_Fits.mono _ _ _ _
      | exact LeO.none _
      | refine LeO.ite ?_ ?_
      | refine LeO.bind ?_ (fun _ => ?_)
theorem wagtailref28_Needed.mono : ∀ a0 a1 a2 k, LeO (wagtailref28_Needed.f k a0 a1 a2) (wagtailref28_Needed.f (k + 1) a0 a1 a2) := by
  intro a0 a1 a2 k
  obtain ⟨ih0, ih1⟩ := wagtailref28_Needed.mono_l k
  unfold wagtailref28_Needed.f
  repeat' first
      | (with_reducible exact ih0 _ _ _ _)
      | (with_reducible exact ih1 _ _ _ _ _ _)
      | (with_reducible exact wagtailref28_Fits.mono _ _ _ _)
      | (with_reducible exact LeO.refl _)
      | (with_reducible exact LeO.none _)
      | (with_reducible refine LeO.ite ?_ ?_)
      | (with_reducible refine LeO.bind ?_ (fun _ => ?_))
      | exact ih0 _ _ _ _
      | exact ih1 _ _ _ _ _ _
      | exact wagtailref28_Fits.mono _ _ _ _
      | exact LeO.none _
      | refine LeO.ite ?_ ?_
      | refine LeO.bind ?_ (fun _ => ?_)
def wagtailref28_Needed.T10 : Bool × List (List Nat × List Nat) := (true, [([], []), ([], []), ([0, 1], [0, 1]), ([2], [2]), ([], []), ([], []), ([4, 5], [4, 5]), ([6], [6]), ([3, 7], [3, 7])])
def wagtailref28_Needed.B10 : List Nat := [0, 0, 3, 7, 0, 0, 48, 112, 255]
theorem wagtailref28_Needed.tab10 : rtab .any (opsOf Try.f16 10) = wagtailref28_Needed.T10 := by kernel_rfl
theorem wagtailref28_Needed.bits10 : waitsOk wagtailref28_Needed.T10.2 wagtailref28_Needed.B10 = true := by kernel_rfl
def wagtailref28_Needed.T13 : Bool × List (List Nat × List Nat) := (true, [([], []), ([], []), ([], []), ([1, 2], [1, 2]), ([0, 3], [0, 3]), ([], []), ([], []), ([6], [6]), ([5, 7], [5, 7]), ([4, 8, 4], [4, 8]), ([9, 9, 0, 1, 2, 3, 4, 5, 6, 7, 8, 9], [1, 5, 9])])
def wagtailref28_Needed.B13 : List Nat := [0, 0, 0, 6, 15, 0, 0, 64, 224, 511, 1023]
theorem wagtailref28_Needed.tab13 : rtab .any (opsOf Try.f16 13) = wagtailref28_Needed.T13 := by kernel_rfl
theorem wagtailref28_Needed.bits13 : waitsOk wagtailref28_Needed.T13.2 wagtailref28_Needed.B13 = true := by kernel_rfl
set_option maxHeartbeats 8000000 in
set_option maxRecDepth 100000 in
theorem wagtailref28_Needed.calls (k : Nat) (P0_ : Nat → Prop) (A0 : Option Addr) (c0 : Nat) (l0 : List (S38)) (a1 : Int) (a2 : Int) (r : List Int) (w : World) (hs0 : Kd.V k38 38 w w.heap.size (fun k_ => P0_ k_) (.slice A0 l0.length c0) l0) (h : wagtailref28_Needed.f k l0 a1 a2 = some r) :
    Calls Try.prog 16 #[.slice A0 l0.length c0, .int .i64 a1, .int .i64 a2] w fun e w' => ∃ v0_ : Value, e = .returned (v0_) ∧ Kd.R (Kd.int .u64) 35 w' w.heap.size (fun k_ => (w.heap.size ≤ k_)) v0_ r ∧ Below w.heap.size w w' := by
  have hu38 := Try.underlying38
  have HO0 := Aside0.mk (show Kd.V k38 38 w w.heap.size (fun k_ => (P0_ k_ ∨ w.heap.size ≤ k_)) (.slice A0 l0.length c0) l0 from Kd.V_mono hs0 (fun k_ hk => .inl hk))
  have HB := Aside0.mk (Below.refl w.heap.size w)
  have H : (wagtailref28_Needed.l0 k a1 a2 ([] : List Int) l0) = some r := h
  clear h
  have H' := Aside0.mk H
  clear H
  go_enter Try.func16, Try.ntmps16
  go_wp2
  go_loopg [7, 8] k (fun kq v7 v8 w' => ∃ (x7_1 : List Int) (x8_1 : List (S38)), Aside0 (wagtailref28_Needed.l0 kq a1 a2 x7_1 x8_1 = some r) ∧ Aside0 (kq ≤ k) ∧ Aside0 (Kd.R (Kd.int .u64) 35 w' w.heap.size (fun k_ => (w.heap.size ≤ k_)) v7 x7_1) ∧ Aside0 (Kd.V k38 38 w' w.heap.size (fun k_ => (P0_ k_ ∨ w.heap.size ≤ k_) ∧ some k_ ≠ (v7 : Value).ownBlock) v8 x8_1) ∧ Aside0 (Below w.heap.size w w'))
  case atStart => exact ⟨(([] : List Int)), (l0), H', ⟨Nat.le_refl _⟩, ⟨by first | exact Kd.R_nil _ _ _ _ _ | exact Kd.N_nil _ _ _ _ _ | exact Kd.V_nil _ _ _ _ _ | exact Kd.Q_nil _ _ _ _ _ | exact Kd.S_nil _ _ _ _ _⟩, ⟨by (with_reducible repeat (first | apply Kd.V_alloc | apply Kd.V_drewN | apply Kd.V_drew)); exact Kd.V_mono HO0.out (fun _ hk => ⟨hk, (by simp [Value.ownBlock])⟩)⟩, ⟨by repeat (first | (with_reducible first | exact HB.out | apply below_alloc | apply pw_below_drewN | apply below_drew1) | exact HB.out)⟩⟩
  case round =>
    clear H'
    try clear c1
    try clear p2
    obtain ⟨x7_1, x8_1, HA, HK1, HO_7, HO_8, HB⟩ := hrel
    cases gk with
    | zero => exact absurd HA.out (by simp [wagtailref28_Needed.l0])
    | succ k1 =>
      have H := HA.out
      clear HA
      simp only [wagtailref28_Needed.l0] at H
      replace H := Option.bind_eq_some_iff.mp H
      obtain ⟨t147, A40, H⟩ := H
      replace H : (if t147 = true then (some x7_1) else (if (x8_1.length : Int) = 0 then (some ([] : List Int)) else (wagtailref28_Needed.l1 k1 a1 a2 x7_1 x8_1 0 0))) = some r := H
      have A4 := Aside0.mk A40
      clear A40
      by_cases c5 : t147 = true
      · subst c5
        have H1 : (some x7_1) = some r := by rw [if_pos rfl] at H; exact H
        clear H
        have H := H1
        clear H1
        obtain rfl := Option.some.inj H
        obtain ⟨Ao6, co6, eo6⟩ := Kd.V_slice HO_8.out
        subst eo6
        go_wp2_with (first | ((with_reducible refine gate_callee (f := 13) rfl ?_); refine goesL_ (some 15) rfl rfl Try.func13 (by kernel_rfl) rfl #[.slice Ao6 x8_1.length co6, .int .i64 a1, .int .i64 a2] rfl (by (try simp only [List.map_toArray, List.map_cons, List.map_nil]); first | done | rfl | (simp only [List.length_drop, List.length_take]; rfl)) ?_; (with_reducible refine (wagtailref28_Fits.calls k1 _ _ x8_1 a1 a2 true _ ?side1 ?side2 A4.out).mono ?_); (case side1 => repeat (first | exact (Kd.V_reads' HO_8.out).2.2 | (with_reducible refine Kd.C_alloc ?_ _) | (with_reducible refine Kd.C_drewN ?_ _) | (with_reducible refine Kd.C_drew ?_))); (case side2 => exact (Kd.V_reads' HO_8.out).2.1); rintro e w' ⟨rfl, ⟨nd, rfl⟩⟩; refine ⟨_, rfl, ?_⟩))
        go_ret
        exact ⟨_, by first | rfl | (simp [errW_none, errW_some] <;> rfl) | (simp [*, errW_none, errW_some] <;> rfl), by (with_reducible repeat (first | apply Kd.R_alloc | apply Kd.R_drewN | apply Kd.R_drew)); exact HO_7.out, by repeat (first | (with_reducible first | exact HB.out | apply below_alloc | apply pw_below_drewN | apply below_drew1) | exact HB.out)⟩
      · replace c5 := Bool.eq_false_iff.mpr c5
        subst c5
        have H1 : (if (x8_1.length : Int) = 0 then (some ([] : List Int)) else (wagtailref28_Needed.l1 k1 a1 a2 x7_1 x8_1 0 0)) = some r := by rw [if_neg (show ¬ (false = true) by decide)] at H; exact H
        clear H
        have H := H1
        clear H1
        by_cases c7 : (x8_1.length : Int) = 0
        · rw [if_pos c7] at H
          have c7b0 : ((x8_1.length : Int) == 0) = true := beq_iff_eq.mpr c7
          have c7b1 : ((x8_1.length : Int) != 0) = false := bne_eq_false_iff_eq.mpr c7
          clear c7
          obtain rfl := Option.some.inj H
          obtain ⟨Ao8, co8, eo8⟩ := Kd.V_slice HO_8.out
          subst eo8
          go_wp2_with (first | ((with_reducible refine gate_callee (f := 13) rfl ?_); refine goesL_ (some 15) rfl rfl Try.func13 (by kernel_rfl) rfl #[.slice Ao8 x8_1.length co8, .int .i64 a1, .int .i64 a2] rfl (by (try simp only [List.map_toArray, List.map_cons, List.map_nil]); first | done | rfl | (simp only [List.length_drop, List.length_take]; rfl)) ?_; (with_reducible refine (wagtailref28_Fits.calls k1 _ _ x8_1 a1 a2 false _ ?side1 ?side2 A4.out).mono ?_); (case side1 => repeat (first | exact (Kd.V_reads' HO_8.out).2.2 | (with_reducible refine Kd.C_alloc ?_ _) | (with_reducible refine Kd.C_drewN ?_ _) | (with_reducible refine Kd.C_drew ?_))); (case side2 => exact (Kd.V_reads' HO_8.out).2.1); rintro e w' ⟨rfl, ⟨nd, rfl⟩⟩; refine ⟨_, rfl, ?_⟩))
          go_ret
          exact ⟨_, by first | rfl | (simp [errW_none, errW_some] <;> rfl) | (simp [*, errW_none, errW_some] <;> rfl), by first | exact Kd.R_nil _ _ _ _ _ | exact Kd.N_nil _ _ _ _ _ | exact Kd.V_nil _ _ _ _ _ | exact Kd.Q_nil _ _ _ _ _ | exact Kd.S_nil _ _ _ _ _, by repeat (first | (with_reducible first | exact HB.out | apply below_alloc | apply pw_below_drewN | apply below_drew1) | exact HB.out)⟩
        · rw [if_neg c7] at H
          have c7b0 : ((x8_1.length : Int) == 0) = false := beq_eq_false_iff_ne.mpr c7
          have c7b1 : ((x8_1.length : Int) != 0) = true := bne_iff_ne.mpr c7
          have c7b2 : ¬ (x8_1 = []) := fun h_ => c7 (by rw [h_]; rfl)
          have H' := Aside0.mk H
          clear H
          obtain ⟨Ao9, co9, eo9⟩ := Kd.V_slice HO_8.out
          subst eo9
          go_wp2_with (first | ((with_reducible refine gate_callee (f := 13) rfl ?_); refine goesL_ (some 15) rfl rfl Try.func13 (by kernel_rfl) rfl #[.slice Ao9 x8_1.length co9, .int .i64 a1, .int .i64 a2] rfl (by (try simp only [List.map_toArray, List.map_cons, List.map_nil]); first | done | rfl | (simp only [List.length_drop, List.length_take]; rfl)) ?_; (with_reducible refine (wagtailref28_Fits.calls k1 _ _ x8_1 a1 a2 false _ ?side1 ?side2 A4.out).mono ?_); (case side1 => repeat (first | exact (Kd.V_reads' HO_8.out).2.2 | (with_reducible refine Kd.C_alloc ?_ _) | (with_reducible refine Kd.C_drewN ?_ _) | (with_reducible refine Kd.C_drew ?_))); (case side2 => exact (Kd.V_reads' HO_8.out).2.1); rintro e w' ⟨rfl, ⟨nd, rfl⟩⟩; refine ⟨_, rfl, ?_⟩))
          go_loopg [9, 10] k1 (fun kq v9 v10 w' => ∃ (x9_2 : Int) (x10_2 : Int), v9 = .int .i64 x9_2 ∧ v10 = .int .i64 x10_2 ∧ Aside0 (wagtailref28_Needed.l1 kq a1 a2 x7_1 x8_1 x9_2 x10_2 = some r) ∧ Aside0 (kq ≤ k1) ∧ Aside0 (Kd.R (Kd.int .u64) 35 w' w.heap.size (fun k_ => (w.heap.size ≤ k_)) u7 x7_1) ∧ Aside0 (Kd.V k38 38 w' w.heap.size (fun k_ => (P0_ k_ ∨ w.heap.size ≤ k_) ∧ some k_ ≠ (u7 : Value).ownBlock) (.slice Ao9 x8_1.length co9) x8_1) ∧ Aside0 (Below w.heap.size w w'))
          case atStart => exact ⟨(0), (0), (by first | rfl | (simp; done) | (simp [*]; done)), (by first | rfl | (simp; done) | (simp [*]; done)), H', ⟨Nat.le_refl _⟩, ⟨by (with_reducible repeat (first | apply Kd.R_alloc | apply Kd.R_drewN | apply Kd.R_drew)); exact HO_7.out⟩, ⟨by (with_reducible repeat (first | apply Kd.V_alloc | apply Kd.V_drewN | apply Kd.V_drew)); exact HO_8.out⟩, ⟨by repeat (first | (with_reducible first | exact HB.out | apply below_alloc | apply pw_below_drewN | apply below_drew1) | exact HB.out)⟩⟩
          case round =>
            clear H'
            try clear c1
            try clear p2
            try clear c5
            try clear c7
            try clear c7b0
            try clear c7b1
            try clear c7b2
            try clear p2
            obtain ⟨x9_2, x10_2, rfl, rfl, HA, HK2, HO_7, HO_8, HB⟩ := hrel
            cases gk with
            | zero => exact absurd HA.out (by simp [wagtailref28_Needed.l1])
            | succ k2 =>
              have H := HA.out
              clear HA
              simp only [wagtailref28_Needed.l1] at H
              by_cases c10 : x10_2 < (x8_1.length : Int)
              · rw [if_pos c10] at H
                have c10b0 : decide (x10_2 < (x8_1.length : Int)) = true := decide_eq_true c10
                clear c10
                by_cases c11 : 0 ≤ x10_2
                · rw [if_pos c11] at H
                  have c11b0 : decide (0 ≤ x10_2) = true := decide_eq_true c11
                  clear c11
                  by_cases c12 : 0 ≤ x9_2
                  · rw [if_pos c12] at H
                    have c12b0 : decide (0 ≤ x9_2) = true := decide_eq_true c12
                    clear c12
                    by_cases c13 : x9_2 < (x8_1.length : Int)
                    · rw [if_pos c13] at H
                      have c13b0 : decide (x9_2 < (x8_1.length : Int)) = true := decide_eq_true c13
                      clear c13
                      replace H := Option.bind_eq_some_iff.mp H
                      obtain ⟨t150, A140, H⟩ := H
                      replace H : (if t150 = true then (wagtailref28_Needed.l1 k2 a1 a2 x7_1 x8_1 x10_2 (wrap64 (x10_2 + 1))) else (wagtailref28_Needed.l1 k2 a1 a2 x7_1 x8_1 x9_2 (wrap64 (x10_2 + 1)))) = some r := H
                      have A14 := Aside0.mk A140
                      clear A140
                      by_cases c15 : t150 = true
                      · subst c15
                        have H1 : (wagtailref28_Needed.l1 k2 a1 a2 x7_1 x8_1 x10_2 (wrap64 (x10_2 + 1))) = some r := by rw [if_pos rfl] at H; exact H
                        clear H
                        have H := H1
                        clear H1
                        have H' := Aside0.mk H
                        clear H
                        try go_wp2
                        have n0_ := Aside0.mk (Kd.R_drew HO_7.out)
                        have n1_ := Aside0.mk (Kd.V_drew HO_8.out)
                        have n2_ := Aside0.mk (below_drew1 HB.out)
                        clear HO_7
                        clear HO_8
                        clear HB
                        have HO_7 := n0_
                        have HO_8 := n1_
                        have HB := n2_
                        clear n0_ n1_ n2_
                        have p148 : 0 ≤ (x10_2 : Int) := of_decide_eq_true (by first | (with_reducible assumption) | assumption)
                        have q148 : x10_2 < (x8_1.length : Int) := of_decide_eq_true (by first | (with_reducible assumption) | assumption)
                        obtain ⟨ad148, A148_7, c148_7, e148, hx148_0, hx148_1, hx148_2, hx148_3, hx148_4, hx148_5, hx148_6, hx148_7, hl148_7, hi148_7⟩ := at_T38 (Kd.V_reads' HO_8.out).2.2 x10_2 p148 q148
                        cases e148
                        obtain ⟨ce148, hce148, hMe148, hcc148⟩ := Kd.V_get HO_8.out z38 x10_2 p148 (by first | exact q148 | exact of_decide_eq_true (by first | (with_reducible assumption) | assumption) | (have e_ := (Kd.V_reads' HO_8.out).1; omega))
                        obtain ⟨ua148_7, uc148_7, rfl, ul148_7, ge148_7⟩ := k38_openF hMe148
                        have hv148_7 := hcc148 7 _ rfl
                        rw [add_field _ _ 7 (by omega)] at hv148_7
                        replace hv148_7 := Option.some.inj (hv148_7.symm.trans hx148_7)
                        injection hv148_7 with hva_ hvn_ hvc_
                        rw [hva_] at ge148_7
                        rw [hvc_] at ul148_7
                        have HL148_7 := Aside0.mk (show Kd.V (Kd.int .i64) 3 _ w.heap.size _ _ ((rd_T38 x8_1 x10_2).f7) from Kd.V_mk ul148_7 ge148_7)
                        clear hva_ hvn_ hvc_ ge148_7 ul148_7
                        clear hcc148 hce148
                        have HR148_7 := Aside0.mk hi148_7
                        have HC148_7 := Aside0.mk hl148_7
                        clear hi148_7 hl148_7
                        replace p148 := eq_true p148
                        replace q148 := eq_true q148
                        have p149 : 0 ≤ (x9_2 : Int) := of_decide_eq_true (by first | (with_reducible assumption) | assumption)
                        have q149 : x9_2 < (x8_1.length : Int) := of_decide_eq_true (by first | (with_reducible assumption) | assumption)
                        obtain ⟨ad149, A149_7, c149_7, e149, hx149_0, hx149_1, hx149_2, hx149_3, hx149_4, hx149_5, hx149_6, hx149_7, hl149_7, hi149_7⟩ := at_T38 (Kd.V_reads' HO_8.out).2.2 x9_2 p149 q149
                        obtain rfl : ad148 = ad149 := (by injection e149)
                        obtain ⟨ce149, hce149, hMe149, hcc149⟩ := Kd.V_get HO_8.out z38 x9_2 p149 (by first | exact q149 | exact of_decide_eq_true (by first | (with_reducible assumption) | assumption) | (have e_ := (Kd.V_reads' HO_8.out).1; omega))
                        obtain ⟨ua149_7, uc149_7, rfl, ul149_7, ge149_7⟩ := k38_openF hMe149
                        have hv149_7 := hcc149 7 _ rfl
                        rw [add_field _ _ 7 (by omega)] at hv149_7
                        replace hv149_7 := Option.some.inj (hv149_7.symm.trans hx149_7)
                        injection hv149_7 with hva_ hvn_ hvc_
                        rw [hva_] at ge149_7
                        rw [hvc_] at ul149_7
                        have HL149_7 := Aside0.mk (show Kd.V (Kd.int .i64) 3 _ w.heap.size _ _ ((rd_T38 x8_1 x9_2).f7) from Kd.V_mk ul149_7 ge149_7)
                        clear hva_ hvn_ hvc_ ge149_7 ul149_7
                        clear hcc149 hce149
                        have HR149_7 := Aside0.mk hi149_7
                        have HC149_7 := Aside0.mk hl149_7
                        clear hi149_7 hl149_7
                        replace p149 := eq_true p149
                        replace q149 := eq_true q149
                        refine start_ (n := 9) (S := fun w' => w'.cell? (ad148.add ((x10_2).toNat * 8)) = some (.int .u64 ((rd_T38 x8_1 x10_2).f0)) ∧ w'.cell? ⟨(ad148.add ((x10_2).toNat * 8)).block, (ad148.add ((x10_2).toNat * 8)).off + 1, none⟩ = some (.int .u64 ((rd_T38 x8_1 x10_2).f1)) ∧ w'.cell? ⟨(ad148.add ((x10_2).toNat * 8)).block, (ad148.add ((x10_2).toNat * 8)).off + 2, none⟩ = some (.int .i64 ((rd_T38 x8_1 x10_2).f2)) ∧ w'.cell? ⟨(ad148.add ((x10_2).toNat * 8)).block, (ad148.add ((x10_2).toNat * 8)).off + 3, none⟩ = some (.int .i64 ((rd_T38 x8_1 x10_2).f3)) ∧ w'.cell? ⟨(ad148.add ((x10_2).toNat * 8)).block, (ad148.add ((x10_2).toNat * 8)).off + 4, none⟩ = some (.int .u64 ((rd_T38 x8_1 x10_2).f4)) ∧ w'.cell? ⟨(ad148.add ((x10_2).toNat * 8)).block, (ad148.add ((x10_2).toNat * 8)).off + 5, none⟩ = some (.bool ((rd_T38 x8_1 x10_2).f5)) ∧ w'.cell? ⟨(ad148.add ((x10_2).toNat * 8)).block, (ad148.add ((x10_2).toNat * 8)).off + 6, none⟩ = some (.int .i64 ((rd_T38 x8_1 x10_2).f6)) ∧ w'.cell? ⟨(ad148.add ((x10_2).toNat * 8)).block, (ad148.add ((x10_2).toNat * 8)).off + 7, none⟩ = some (.slice A148_7 ((rd_T38 x8_1 x10_2).f7).length c148_7) ∧ w'.cell? (ad148.add ((x9_2).toNat * 8)) = some (.int .u64 ((rd_T38 x8_1 x9_2).f0)) ∧ w'.cell? ⟨(ad148.add ((x9_2).toNat * 8)).block, (ad148.add ((x9_2).toNat * 8)).off + 1, none⟩ = some (.int .u64 ((rd_T38 x8_1 x9_2).f1)) ∧ w'.cell? ⟨(ad148.add ((x9_2).toNat * 8)).block, (ad148.add ((x9_2).toNat * 8)).off + 2, none⟩ = some (.int .i64 ((rd_T38 x8_1 x9_2).f2)) ∧ w'.cell? ⟨(ad148.add ((x9_2).toNat * 8)).block, (ad148.add ((x9_2).toNat * 8)).off + 3, none⟩ = some (.int .i64 ((rd_T38 x8_1 x9_2).f3)) ∧ w'.cell? ⟨(ad148.add ((x9_2).toNat * 8)).block, (ad148.add ((x9_2).toNat * 8)).off + 4, none⟩ = some (.int .u64 ((rd_T38 x8_1 x9_2).f4)) ∧ w'.cell? ⟨(ad148.add ((x9_2).toNat * 8)).block, (ad148.add ((x9_2).toNat * 8)).off + 5, none⟩ = some (.bool ((rd_T38 x8_1 x9_2).f5)) ∧ w'.cell? ⟨(ad148.add ((x9_2).toNat * 8)).block, (ad148.add ((x9_2).toNat * 8)).off + 6, none⟩ = some (.int .i64 ((rd_T38 x8_1 x9_2).f6)) ∧ w'.cell? ⟨(ad148.add ((x9_2).toNat * 8)).block, (ad148.add ((x9_2).toNat * 8)).off + 7, none⟩ = some (.slice A149_7 ((rd_T38 x8_1 x9_2).f7).length c149_7)) (ds := []) #[false, false, false, false, false, false, false, false, false] (by kernel_rfl) rfl rfl ⟨hx148_0, hx148_1, hx148_2, hx148_3, hx148_4, hx148_5, hx148_6, hx148_7, hx149_0, hx149_1, hx149_2, hx149_3, hx149_4, hx149_5, hx149_6, hx149_7⟩ (fun hHeld => ?_); refine with_tabW wagtailref28_Needed.tab10 wagtailref28_Needed.bits10 (fun HT_ HW_ => ?_)
                        generalize wr.drew = w16 at HO_7 HO_8 HB HL148_7 HL149_7 HR148_7 HR149_7 hx148_0 hx148_1 hx148_2 hx148_3 hx148_4 hx148_5 hx148_6 hx148_7 hx149_0 hx149_1 hx149_2 hx149_3 hx149_4 hx149_5 hx149_6 hx149_7 hHeld ⊢
                        refine pure_ (i := 0) (N := some 26) (v := ?_) (a' := ?_) #[true, false, false, false, false, false, false, false, false] rfl rfl (any_of HT_.out (by kernel_rfl)) (fun _ _ _ h => h) (Or.inl ⟨by rfl, ?_⟩) ?_ ?_
                        rotate_left
                        · intro w'
                          go_simp
                          with_reducible rfl
                        rotate_left
                        · simp only [Act.put, List.setIfInBounds_toArray, List.set_cons_zero, List.set_cons_succ, i64_w, i32_w]
                          rfl
                        refine pure_ (i := 1) (N := some 27) (v := ?_) (a' := ?_) #[true, true, false, false, false, false, false, false, false] rfl rfl (any_of HT_.out (by kernel_rfl)) (fun _ _ _ h => h) (Or.inl ⟨by rfl, ?_⟩) ?_ ?_
                        rotate_left
                        · intro w'
                          go_simp
                          with_reducible rfl
                        rotate_left
                        · simp only [Act.put, List.setIfInBounds_toArray, List.set_cons_zero, List.set_cons_succ, i64_w, i32_w]
                          rfl
                        refine pure_ (i := 2) (N := some 28) (v := ?_) (a' := ?_) #[true, true, true, false, false, false, false, false, false] rfl rfl (any_of HT_.out (by kernel_rfl)) (fun _ _ _ h => h) (Or.inl ⟨by rfl, ?_⟩) ?_ ?_
                        rotate_left
                        · intro w'
                          go_simp
                          with_reducible rfl
                        rotate_left
                        · simp only [Act.put, List.setIfInBounds_toArray, List.set_cons_zero, List.set_cons_succ, i64_w, i32_w]
                          rfl
                        refine pure_ (i := 4) (N := some 30) (v := ?_) (a' := ?_) #[true, true, true, false, true, false, false, false, false] rfl rfl (any_of HT_.out (by kernel_rfl)) (fun _ _ _ h => h) (Or.inl ⟨by rfl, ?_⟩) ?_ ?_
                        rotate_left
                        · intro w'
                          go_simp
                          with_reducible rfl
                        rotate_left
                        · simp only [Act.put, List.setIfInBounds_toArray, List.set_cons_zero, List.set_cons_succ, i64_w, i32_w]
                          rfl
                        refine pure_ (i := 5) (N := some 31) (v := ?_) (a' := ?_) #[true, true, true, false, true, true, false, false, false] rfl rfl (any_of HT_.out (by kernel_rfl)) (fun _ _ _ h => h) (Or.inl ⟨by rfl, ?_⟩) ?_ ?_
                        rotate_left
                        · intro w'
                          go_simp
                          with_reducible rfl
                        rotate_left
                        · simp only [Act.put, List.setIfInBounds_toArray, List.set_cons_zero, List.set_cons_succ, i64_w, i32_w]
                          rfl
                        refine pure_ (i := 6) (N := some 32) (v := ?_) (a' := ?_) #[true, true, true, false, true, true, true, false, false] rfl rfl (any_of HT_.out (by kernel_rfl)) (fun _ _ _ h => h) (Or.inl ⟨by rfl, ?_⟩) ?_ ?_
                        rotate_left
                        · intro w'
                          go_simp
                          with_reducible rfl
                        rotate_left
                        · simp only [Act.put, List.setIfInBounds_toArray, List.set_cons_zero, List.set_cons_succ, i64_w, i32_w]
                          rfl
                        refine take_ (i := 3) (N := some 29) (v := ?_) (a' := ?_) #[true, true, true, true, true, true, true, false, false] rfl rfl (take_ofW HT_.out HW_.out (by kernel_rfl)) (fun _ _ _ h => h) (Or.inl ⟨by rfl, ?_⟩) hHeld ?_ ?_
                        rotate_left
                        · rintro w' ⟨s0, s1, s2, s3, s4, s5, s6, s7, s8, s9, s10, s11, s12, s13, s14, s15⟩
                          go_simp
                          with_reducible rfl
                        rotate_left
                        · simp only [Act.put, List.setIfInBounds_toArray, List.set_cons_zero, List.set_cons_succ, i64_w, i32_w]
                          rfl
                        refine take_ (i := 7) (N := some 33) (v := ?_) (a' := ?_) #[true, true, true, true, true, true, true, true, false] rfl rfl (take_ofW HT_.out HW_.out (by kernel_rfl)) (fun _ _ _ h => h) (Or.inl ⟨by rfl, ?_⟩) hHeld ?_ ?_
                        rotate_left
                        · rintro w' ⟨s0, s1, s2, s3, s4, s5, s6, s7, s8, s9, s10, s11, s12, s13, s14, s15⟩
                          go_simp
                          with_reducible rfl
                        rotate_left
                        · simp only [Act.put, List.setIfInBounds_toArray, List.set_cons_zero, List.set_cons_succ, i64_w, i32_w]
                          rfl
                        refine one_ (i := 8) (N := some 34) #[true, true, true, true, true, true, true, true, true] rfl rfl (one_of HT_.out (by kernel_rfl)) (by decide) (fun K hK => ?_)
                        refine goes_ Try.func26 (by kernel_rfl) rfl #[.agg #[.int .u64 ((rd_T38 x8_1 x10_2).f0), .int .u64 ((rd_T38 x8_1 x10_2).f1), .int .i64 ((rd_T38 x8_1 x10_2).f2), .int .i64 ((rd_T38 x8_1 x10_2).f3), .int .u64 ((rd_T38 x8_1 x10_2).f4), .bool ((rd_T38 x8_1 x10_2).f5), .int .i64 ((rd_T38 x8_1 x10_2).f6), .slice A148_7 ((rd_T38 x8_1 x10_2).f7).length c148_7], .agg #[.int .u64 ((rd_T38 x8_1 x9_2).f0), .int .u64 ((rd_T38 x8_1 x9_2).f1), .int .i64 ((rd_T38 x8_1 x9_2).f2), .int .i64 ((rd_T38 x8_1 x9_2).f3), .int .u64 ((rd_T38 x8_1 x9_2).f4), .bool ((rd_T38 x8_1 x9_2).f5), .int .i64 ((rd_T38 x8_1 x9_2).f6), .slice A149_7 ((rd_T38 x8_1 x9_2).f7).length c149_7]] (by rfl) rfl rfl (by (try simp only [List.map_toArray, List.map_cons, List.map_nil]); first | done | rfl | (simp only [List.length_drop, List.length_take]; rfl)) ?_
                        with_reducible refine (wagtailref28_Less.calls ((rd_T38 x8_1 x10_2).f0) ((rd_T38 x8_1 x10_2).f1) ((rd_T38 x8_1 x10_2).f2) ((rd_T38 x8_1 x10_2).f3) ((rd_T38 x8_1 x10_2).f4) ((rd_T38 x8_1 x10_2).f5) ((rd_T38 x8_1 x10_2).f6) _ _ ((rd_T38 x8_1 x10_2).f7) ((rd_T38 x8_1 x9_2).f0) ((rd_T38 x8_1 x9_2).f1) ((rd_T38 x8_1 x9_2).f2) ((rd_T38 x8_1 x9_2).f3) ((rd_T38 x8_1 x9_2).f4) ((rd_T38 x8_1 x9_2).f5) ((rd_T38 x8_1 x9_2).f6) _ _ ((rd_T38 x8_1 x9_2).f7) true _ ?side1 ?side2 ?side3 ?side4 A14.out).mono ?_
                        (case side1 => repeat (first | exact (by repeat (first | (with_reducible exact HR148_7.out) | (with_reducible refine Kd.C_alloc ?_ _) | (with_reducible refine Kd.C_drewN ?_ _) | (with_reducible refine Kd.C_drew ?_) | exact HR148_7.out)) | (with_reducible refine Kd.C_alloc ?_ _) | (with_reducible refine Kd.C_drewN ?_ _) | (with_reducible refine Kd.C_drew ?_)))
                        (case side2 => exact HC148_7.out)
                        (case side3 => repeat (first | exact (by repeat (first | (with_reducible exact HR149_7.out) | (with_reducible refine Kd.C_alloc ?_ _) | (with_reducible refine Kd.C_drewN ?_ _) | (with_reducible refine Kd.C_drew ?_) | exact HR149_7.out)) | (with_reducible refine Kd.C_alloc ?_ _) | (with_reducible refine Kd.C_drewN ?_ _) | (with_reducible refine Kd.C_drew ?_)))
                        (case side4 => exact HC149_7.out)
                        rintro e w17 ⟨rfl, hb⟩
                        have HS0_ := (hb.cell (World.block_lt_of_cell? _ _ (hHeld.1))).trans (hHeld.1)
                        have HS1_ := (hb.cell (World.block_lt_of_cell? _ _ (hHeld.2.1))).trans (hHeld.2.1)
                        have HS2_ := (hb.cell (World.block_lt_of_cell? _ _ (hHeld.2.2.1))).trans (hHeld.2.2.1)
                        have HS3_ := (hb.cell (World.block_lt_of_cell? _ _ (hHeld.2.2.2.1))).trans (hHeld.2.2.2.1)
                        have HS4_ := (hb.cell (World.block_lt_of_cell? _ _ (hHeld.2.2.2.2.1))).trans (hHeld.2.2.2.2.1)
                        have HS5_ := (hb.cell (World.block_lt_of_cell? _ _ (hHeld.2.2.2.2.2.1))).trans (hHeld.2.2.2.2.2.1)
                        have HS6_ := (hb.cell (World.block_lt_of_cell? _ _ (hHeld.2.2.2.2.2.2.1))).trans (hHeld.2.2.2.2.2.2.1)
                        have HS7_ := (hb.cell (World.block_lt_of_cell? _ _ (hHeld.2.2.2.2.2.2.2.1))).trans (hHeld.2.2.2.2.2.2.2.1)
                        have HS8_ := (hb.cell (World.block_lt_of_cell? _ _ (hHeld.2.2.2.2.2.2.2.2.1))).trans (hHeld.2.2.2.2.2.2.2.2.1)
                        have HS9_ := (hb.cell (World.block_lt_of_cell? _ _ (hHeld.2.2.2.2.2.2.2.2.2.1))).trans (hHeld.2.2.2.2.2.2.2.2.2.1)
                        have HS10_ := (hb.cell (World.block_lt_of_cell? _ _ (hHeld.2.2.2.2.2.2.2.2.2.2.1))).trans (hHeld.2.2.2.2.2.2.2.2.2.2.1)
                        have HS11_ := (hb.cell (World.block_lt_of_cell? _ _ (hHeld.2.2.2.2.2.2.2.2.2.2.2.1))).trans (hHeld.2.2.2.2.2.2.2.2.2.2.2.1)
                        have HS12_ := (hb.cell (World.block_lt_of_cell? _ _ (hHeld.2.2.2.2.2.2.2.2.2.2.2.2.1))).trans (hHeld.2.2.2.2.2.2.2.2.2.2.2.2.1)
                        have HS13_ := (hb.cell (World.block_lt_of_cell? _ _ (hHeld.2.2.2.2.2.2.2.2.2.2.2.2.2.1))).trans (hHeld.2.2.2.2.2.2.2.2.2.2.2.2.2.1)
                        have HS14_ := (hb.cell (World.block_lt_of_cell? _ _ (hHeld.2.2.2.2.2.2.2.2.2.2.2.2.2.2.1))).trans (hHeld.2.2.2.2.2.2.2.2.2.2.2.2.2.2.1)
                        have HS15_ := (hb.cell (World.block_lt_of_cell? _ _ (hHeld.2.2.2.2.2.2.2.2.2.2.2.2.2.2.2))).trans (hHeld.2.2.2.2.2.2.2.2.2.2.2.2.2.2.2)
                        refine ⟨_, rfl, ?_⟩
                        have n0_ := Aside0.mk (Kd.R_below (by (with_reducible repeat (first | apply Kd.R_alloc | apply Kd.R_drewN | apply Kd.R_drew)); exact HO_7.out) hb)
                        have n1_ := Aside0.mk (Kd.V_below (by (with_reducible repeat (first | apply Kd.V_alloc | apply Kd.V_drewN | apply Kd.V_drew)); exact HO_8.out) hb)
                        have n2_ := Aside0.mk (Kd.V_below (by (with_reducible repeat (first | apply Kd.V_alloc | apply Kd.V_drewN | apply Kd.V_drew)); exact HL148_7.out) hb)
                        have n3_ := Aside0.mk (Kd.V_below (by (with_reducible repeat (first | apply Kd.V_alloc | apply Kd.V_drewN | apply Kd.V_drew)); exact HL149_7.out) hb)
                        have n4_ := Aside0.mk (Kd.C_below (by repeat (first | (with_reducible exact HR148_7.out) | (with_reducible refine Kd.C_alloc ?_ _) | (with_reducible refine Kd.C_drewN ?_ _) | (with_reducible refine Kd.C_drew ?_) | exact HR148_7.out)) hb)
                        have n5_ := Aside0.mk (Kd.C_below (by repeat (first | (with_reducible exact HR149_7.out) | (with_reducible refine Kd.C_alloc ?_ _) | (with_reducible refine Kd.C_drewN ?_ _) | (with_reducible refine Kd.C_drew ?_) | exact HR149_7.out)) hb)
                        have n6_ := Aside0.mk (below_step (by repeat (first | (with_reducible first | exact HB.out | apply below_alloc | apply pw_below_drewN | apply below_drew1) | exact HB.out)) hb)
                        clear HO_7
                        clear HO_8
                        clear HL148_7
                        clear HL149_7
                        clear HR148_7
                        clear HR149_7
                        clear HB
                        have HO_7 := n0_
                        have HO_8 := n1_
                        have HL148_7 := n2_
                        have HL149_7 := n3_
                        have HR148_7 := n4_
                        have HR149_7 := n5_
                        have HB := n6_
                        clear n0_ n1_ n2_ n3_ n4_ n5_ n6_
                        (try clear hb)
                        (try clear hb2)
                        (try clear hk)
                        (try clear hi)
                        refine hK.out _ _ ⟨HS0_, HS1_, HS2_, HS3_, HS4_, HS5_, HS6_, HS7_, HS8_, HS9_, HS10_, HS11_, HS12_, HS13_, HS14_, HS15_⟩ (fun hHeld => ?_)
                        clear hK K
                        refine norm_ (a' := ?_) ?_ ?_
                        rotate_left
                        · show Act.put _ (some 34) _ = _
                          simp only [Act.put, List.setIfInBounds_toArray, List.set_cons_zero, List.set_cons_succ, i64_w, i32_w]
                          rfl
                        refine done_ (done_of HT_.out (by kernel_rfl)) ?_
                        try go_wp2
                        go_roundg k2
                        case measure => have := HK1.out; have := HK2.out; omega
                        case rel => exact ⟨(x10_2), (wrap64 (x10_2 + 1)), (by first | rfl | (simp; done) | (simp [*]; done)), (by first | rfl | (simp; done) | (simp [*]; done)), H', ⟨by have := HK1.out; have := HK2.out; omega⟩, ⟨by (with_reducible repeat (first | apply Kd.R_alloc | apply Kd.R_drewN | apply Kd.R_drew)); exact HO_7.out⟩, ⟨by (with_reducible repeat (first | apply Kd.V_alloc | apply Kd.V_drewN | apply Kd.V_drew)); exact HO_8.out⟩, ⟨by repeat (first | (with_reducible first | exact HB.out | apply below_alloc | apply pw_below_drewN | apply below_drew1) | exact HB.out)⟩⟩
                      · replace c15 := Bool.eq_false_iff.mpr c15
                        subst c15
                        have H1 : (wagtailref28_Needed.l1 k2 a1 a2 x7_1 x8_1 x9_2 (wrap64 (x10_2 + 1))) = some r := by rw [if_neg (show ¬ (false = true) by decide)] at H; exact H
                        clear H
                        have H := H1
                        clear H1
                        have H' := Aside0.mk H
                        clear H
                        try go_wp2
                        have n0_ := Aside0.mk (Kd.R_drew HO_7.out)
                        have n1_ := Aside0.mk (Kd.V_drew HO_8.out)
                        have n2_ := Aside0.mk (below_drew1 HB.out)
                        clear HO_7
                        clear HO_8
                        clear HB
                        have HO_7 := n0_
                        have HO_8 := n1_
                        have HB := n2_
                        clear n0_ n1_ n2_
                        have p148 : 0 ≤ (x10_2 : Int) := of_decide_eq_true (by first | (with_reducible assumption) | assumption)
                        have q148 : x10_2 < (x8_1.length : Int) := of_decide_eq_true (by first | (with_reducible assumption) | assumption)
                        obtain ⟨ad148, A148_7, c148_7, e148, hx148_0, hx148_1, hx148_2, hx148_3, hx148_4, hx148_5, hx148_6, hx148_7, hl148_7, hi148_7⟩ := at_T38 (Kd.V_reads' HO_8.out).2.2 x10_2 p148 q148
                        cases e148
                        obtain ⟨ce148, hce148, hMe148, hcc148⟩ := Kd.V_get HO_8.out z38 x10_2 p148 (by first | exact q148 | exact of_decide_eq_true (by first | (with_reducible assumption) | assumption) | (have e_ := (Kd.V_reads' HO_8.out).1; omega))
                        obtain ⟨ua148_7, uc148_7, rfl, ul148_7, ge148_7⟩ := k38_openF hMe148
                        have hv148_7 := hcc148 7 _ rfl
                        rw [add_field _ _ 7 (by omega)] at hv148_7
                        replace hv148_7 := Option.some.inj (hv148_7.symm.trans hx148_7)
                        injection hv148_7 with hva_ hvn_ hvc_
                        rw [hva_] at ge148_7
                        rw [hvc_] at ul148_7
                        have HL148_7 := Aside0.mk (show Kd.V (Kd.int .i64) 3 _ w.heap.size _ _ ((rd_T38 x8_1 x10_2).f7) from Kd.V_mk ul148_7 ge148_7)
                        clear hva_ hvn_ hvc_ ge148_7 ul148_7
                        clear hcc148 hce148
                        have HR148_7 := Aside0.mk hi148_7
                        have HC148_7 := Aside0.mk hl148_7
                        clear hi148_7 hl148_7
                        replace p148 := eq_true p148
                        replace q148 := eq_true q148
                        have p149 : 0 ≤ (x9_2 : Int) := of_decide_eq_true (by first | (with_reducible assumption) | assumption)
                        have q149 : x9_2 < (x8_1.length : Int) := of_decide_eq_true (by first | (with_reducible assumption) | assumption)
                        obtain ⟨ad149, A149_7, c149_7, e149, hx149_0, hx149_1, hx149_2, hx149_3, hx149_4, hx149_5, hx149_6, hx149_7, hl149_7, hi149_7⟩ := at_T38 (Kd.V_reads' HO_8.out).2.2 x9_2 p149 q149
                        obtain rfl : ad148 = ad149 := (by injection e149)
                        obtain ⟨ce149, hce149, hMe149, hcc149⟩ := Kd.V_get HO_8.out z38 x9_2 p149 (by first | exact q149 | exact of_decide_eq_true (by first | (with_reducible assumption) | assumption) | (have e_ := (Kd.V_reads' HO_8.out).1; omega))
                        obtain ⟨ua149_7, uc149_7, rfl, ul149_7, ge149_7⟩ := k38_openF hMe149
                        have hv149_7 := hcc149 7 _ rfl
                        rw [add_field _ _ 7 (by omega)] at hv149_7
                        replace hv149_7 := Option.some.inj (hv149_7.symm.trans hx149_7)
                        injection hv149_7 with hva_ hvn_ hvc_
                        rw [hva_] at ge149_7
                        rw [hvc_] at ul149_7
                        have HL149_7 := Aside0.mk (show Kd.V (Kd.int .i64) 3 _ w.heap.size _ _ ((rd_T38 x8_1 x9_2).f7) from Kd.V_mk ul149_7 ge149_7)
                        clear hva_ hvn_ hvc_ ge149_7 ul149_7
                        clear hcc149 hce149
                        have HR149_7 := Aside0.mk hi149_7
                        have HC149_7 := Aside0.mk hl149_7
                        clear hi149_7 hl149_7
                        replace p149 := eq_true p149
                        replace q149 := eq_true q149
                        refine start_ (n := 9) (S := fun w' => w'.cell? (ad148.add ((x10_2).toNat * 8)) = some (.int .u64 ((rd_T38 x8_1 x10_2).f0)) ∧ w'.cell? ⟨(ad148.add ((x10_2).toNat * 8)).block, (ad148.add ((x10_2).toNat * 8)).off + 1, none⟩ = some (.int .u64 ((rd_T38 x8_1 x10_2).f1)) ∧ w'.cell? ⟨(ad148.add ((x10_2).toNat * 8)).block, (ad148.add ((x10_2).toNat * 8)).off + 2, none⟩ = some (.int .i64 ((rd_T38 x8_1 x10_2).f2)) ∧ w'.cell? ⟨(ad148.add ((x10_2).toNat * 8)).block, (ad148.add ((x10_2).toNat * 8)).off + 3, none⟩ = some (.int .i64 ((rd_T38 x8_1 x10_2).f3)) ∧ w'.cell? ⟨(ad148.add ((x10_2).toNat * 8)).block, (ad148.add ((x10_2).toNat * 8)).off + 4, none⟩ = some (.int .u64 ((rd_T38 x8_1 x10_2).f4)) ∧ w'.cell? ⟨(ad148.add ((x10_2).toNat * 8)).block, (ad148.add ((x10_2).toNat * 8)).off + 5, none⟩ = some (.bool ((rd_T38 x8_1 x10_2).f5)) ∧ w'.cell? ⟨(ad148.add ((x10_2).toNat * 8)).block, (ad148.add ((x10_2).toNat * 8)).off + 6, none⟩ = some (.int .i64 ((rd_T38 x8_1 x10_2).f6)) ∧ w'.cell? ⟨(ad148.add ((x10_2).toNat * 8)).block, (ad148.add ((x10_2).toNat * 8)).off + 7, none⟩ = some (.slice A148_7 ((rd_T38 x8_1 x10_2).f7).length c148_7) ∧ w'.cell? (ad148.add ((x9_2).toNat * 8)) = some (.int .u64 ((rd_T38 x8_1 x9_2).f0)) ∧ w'.cell? ⟨(ad148.add ((x9_2).toNat * 8)).block, (ad148.add ((x9_2).toNat * 8)).off + 1, none⟩ = some (.int .u64 ((rd_T38 x8_1 x9_2).f1)) ∧ w'.cell? ⟨(ad148.add ((x9_2).toNat * 8)).block, (ad148.add ((x9_2).toNat * 8)).off + 2, none⟩ = some (.int .i64 ((rd_T38 x8_1 x9_2).f2)) ∧ w'.cell? ⟨(ad148.add ((x9_2).toNat * 8)).block, (ad148.add ((x9_2).toNat * 8)).off + 3, none⟩ = some (.int .i64 ((rd_T38 x8_1 x9_2).f3)) ∧ w'.cell? ⟨(ad148.add ((x9_2).toNat * 8)).block, (ad148.add ((x9_2).toNat * 8)).off + 4, none⟩ = some (.int .u64 ((rd_T38 x8_1 x9_2).f4)) ∧ w'.cell? ⟨(ad148.add ((x9_2).toNat * 8)).block, (ad148.add ((x9_2).toNat * 8)).off + 5, none⟩ = some (.bool ((rd_T38 x8_1 x9_2).f5)) ∧ w'.cell? ⟨(ad148.add ((x9_2).toNat * 8)).block, (ad148.add ((x9_2).toNat * 8)).off + 6, none⟩ = some (.int .i64 ((rd_T38 x8_1 x9_2).f6)) ∧ w'.cell? ⟨(ad148.add ((x9_2).toNat * 8)).block, (ad148.add ((x9_2).toNat * 8)).off + 7, none⟩ = some (.slice A149_7 ((rd_T38 x8_1 x9_2).f7).length c149_7)) (ds := []) #[false, false, false, false, false, false, false, false, false] (by kernel_rfl) rfl rfl ⟨hx148_0, hx148_1, hx148_2, hx148_3, hx148_4, hx148_5, hx148_6, hx148_7, hx149_0, hx149_1, hx149_2, hx149_3, hx149_4, hx149_5, hx149_6, hx149_7⟩ (fun hHeld => ?_); refine with_tabW wagtailref28_Needed.tab10 wagtailref28_Needed.bits10 (fun HT_ HW_ => ?_)
                        generalize wr.drew = w18 at HO_7 HO_8 HB HL148_7 HL149_7 HR148_7 HR149_7 hx148_0 hx148_1 hx148_2 hx148_3 hx148_4 hx148_5 hx148_6 hx148_7 hx149_0 hx149_1 hx149_2 hx149_3 hx149_4 hx149_5 hx149_6 hx149_7 hHeld ⊢
                        refine pure_ (i := 0) (N := some 26) (v := ?_) (a' := ?_) #[true, false, false, false, false, false, false, false, false] rfl rfl (any_of HT_.out (by kernel_rfl)) (fun _ _ _ h => h) (Or.inl ⟨by rfl, ?_⟩) ?_ ?_
                        rotate_left
                        · intro w'
                          go_simp
                          with_reducible rfl
                        rotate_left
                        · simp only [Act.put, List.setIfInBounds_toArray, List.set_cons_zero, List.set_cons_succ, i64_w, i32_w]
                          rfl
                        refine pure_ (i := 1) (N := some 27) (v := ?_) (a' := ?_) #[true, true, false, false, false, false, false, false, false] rfl rfl (any_of HT_.out (by kernel_rfl)) (fun _ _ _ h => h) (Or.inl ⟨by rfl, ?_⟩) ?_ ?_
                        rotate_left
                        · intro w'
                          go_simp
                          with_reducible rfl
                        rotate_left
                        · simp only [Act.put, List.setIfInBounds_toArray, List.set_cons_zero, List.set_cons_succ, i64_w, i32_w]
                          rfl
                        refine pure_ (i := 2) (N := some 28) (v := ?_) (a' := ?_) #[true, true, true, false, false, false, false, false, false] rfl rfl (any_of HT_.out (by kernel_rfl)) (fun _ _ _ h => h) (Or.inl ⟨by rfl, ?_⟩) ?_ ?_
                        rotate_left
                        · intro w'
                          go_simp
                          with_reducible rfl
                        rotate_left
                        · simp only [Act.put, List.setIfInBounds_toArray, List.set_cons_zero, List.set_cons_succ, i64_w, i32_w]
                          rfl
                        refine pure_ (i := 4) (N := some 30) (v := ?_) (a' := ?_) #[true, true, true, false, true, false, false, false, false] rfl rfl (any_of HT_.out (by kernel_rfl)) (fun _ _ _ h => h) (Or.inl ⟨by rfl, ?_⟩) ?_ ?_
                        rotate_left
                        · intro w'
                          go_simp
                          with_reducible rfl
                        rotate_left
                        · simp only [Act.put, List.setIfInBounds_toArray, List.set_cons_zero, List.set_cons_succ, i64_w, i32_w]
                          rfl
                        refine pure_ (i := 5) (N := some 31) (v := ?_) (a' := ?_) #[true, true, true, false, true, true, false, false, false] rfl rfl (any_of HT_.out (by kernel_rfl)) (fun _ _ _ h => h) (Or.inl ⟨by rfl, ?_⟩) ?_ ?_
                        rotate_left
                        · intro w'
                          go_simp
                          with_reducible rfl
                        rotate_left
                        · simp only [Act.put, List.setIfInBounds_toArray, List.set_cons_zero, List.set_cons_succ, i64_w, i32_w]
                          rfl
                        refine pure_ (i := 6) (N := some 32) (v := ?_) (a' := ?_) #[true, true, true, false, true, true, true, false, false] rfl rfl (any_of HT_.out (by kernel_rfl)) (fun _ _ _ h => h) (Or.inl ⟨by rfl, ?_⟩) ?_ ?_
                        rotate_left
                        · intro w'
                          go_simp
                          with_reducible rfl
                        rotate_left
                        · simp only [Act.put, List.setIfInBounds_toArray, List.set_cons_zero, List.set_cons_succ, i64_w, i32_w]
                          rfl
                        refine take_ (i := 3) (N := some 29) (v := ?_) (a' := ?_) #[true, true, true, true, true, true, true, false, false] rfl rfl (take_ofW HT_.out HW_.out (by kernel_rfl)) (fun _ _ _ h => h) (Or.inl ⟨by rfl, ?_⟩) hHeld ?_ ?_
                        rotate_left
                        · rintro w' ⟨s0, s1, s2, s3, s4, s5, s6, s7, s8, s9, s10, s11, s12, s13, s14, s15⟩
                          go_simp
                          with_reducible rfl
                        rotate_left
                        · simp only [Act.put, List.setIfInBounds_toArray, List.set_cons_zero, List.set_cons_succ, i64_w, i32_w]
                          rfl
                        refine take_ (i := 7) (N := some 33) (v := ?_) (a' := ?_) #[true, true, true, true, true, true, true, true, false] rfl rfl (take_ofW HT_.out HW_.out (by kernel_rfl)) (fun _ _ _ h => h) (Or.inl ⟨by rfl, ?_⟩) hHeld ?_ ?_
                        rotate_left
                        · rintro w' ⟨s0, s1, s2, s3, s4, s5, s6, s7, s8, s9, s10, s11, s12, s13, s14, s15⟩
                          go_simp
                          with_reducible rfl
                        rotate_left
                        · simp only [Act.put, List.setIfInBounds_toArray, List.set_cons_zero, List.set_cons_succ, i64_w, i32_w]
                          rfl
                        refine one_ (i := 8) (N := some 34) #[true, true, true, true, true, true, true, true, true] rfl rfl (one_of HT_.out (by kernel_rfl)) (by decide) (fun K hK => ?_)
                        refine goes_ Try.func26 (by kernel_rfl) rfl #[.agg #[.int .u64 ((rd_T38 x8_1 x10_2).f0), .int .u64 ((rd_T38 x8_1 x10_2).f1), .int .i64 ((rd_T38 x8_1 x10_2).f2), .int .i64 ((rd_T38 x8_1 x10_2).f3), .int .u64 ((rd_T38 x8_1 x10_2).f4), .bool ((rd_T38 x8_1 x10_2).f5), .int .i64 ((rd_T38 x8_1 x10_2).f6), .slice A148_7 ((rd_T38 x8_1 x10_2).f7).length c148_7], .agg #[.int .u64 ((rd_T38 x8_1 x9_2).f0), .int .u64 ((rd_T38 x8_1 x9_2).f1), .int .i64 ((rd_T38 x8_1 x9_2).f2), .int .i64 ((rd_T38 x8_1 x9_2).f3), .int .u64 ((rd_T38 x8_1 x9_2).f4), .bool ((rd_T38 x8_1 x9_2).f5), .int .i64 ((rd_T38 x8_1 x9_2).f6), .slice A149_7 ((rd_T38 x8_1 x9_2).f7).length c149_7]] (by rfl) rfl rfl (by (try simp only [List.map_toArray, List.map_cons, List.map_nil]); first | done | rfl | (simp only [List.length_drop, List.length_take]; rfl)) ?_
                        with_reducible refine (wagtailref28_Less.calls ((rd_T38 x8_1 x10_2).f0) ((rd_T38 x8_1 x10_2).f1) ((rd_T38 x8_1 x10_2).f2) ((rd_T38 x8_1 x10_2).f3) ((rd_T38 x8_1 x10_2).f4) ((rd_T38 x8_1 x10_2).f5) ((rd_T38 x8_1 x10_2).f6) _ _ ((rd_T38 x8_1 x10_2).f7) ((rd_T38 x8_1 x9_2).f0) ((rd_T38 x8_1 x9_2).f1) ((rd_T38 x8_1 x9_2).f2) ((rd_T38 x8_1 x9_2).f3) ((rd_T38 x8_1 x9_2).f4) ((rd_T38 x8_1 x9_2).f5) ((rd_T38 x8_1 x9_2).f6) _ _ ((rd_T38 x8_1 x9_2).f7) false _ ?side1 ?side2 ?side3 ?side4 A14.out).mono ?_
                        (case side1 => repeat (first | exact (by repeat (first | (with_reducible exact HR148_7.out) | (with_reducible refine Kd.C_alloc ?_ _) | (with_reducible refine Kd.C_drewN ?_ _) | (with_reducible refine Kd.C_drew ?_) | exact HR148_7.out)) | (with_reducible refine Kd.C_alloc ?_ _) | (with_reducible refine Kd.C_drewN ?_ _) | (with_reducible refine Kd.C_drew ?_)))
                        (case side2 => exact HC148_7.out)
                        (case side3 => repeat (first | exact (by repeat (first | (with_reducible exact HR149_7.out) | (with_reducible refine Kd.C_alloc ?_ _) | (with_reducible refine Kd.C_drewN ?_ _) | (with_reducible refine Kd.C_drew ?_) | exact HR149_7.out)) | (with_reducible refine Kd.C_alloc ?_ _) | (with_reducible refine Kd.C_drewN ?_ _) | (with_reducible refine Kd.C_drew ?_)))
                        (case side4 => exact HC149_7.out)
                        rintro e w19 ⟨rfl, hb⟩
                        have HS0_ := (hb.cell (World.block_lt_of_cell? _ _ (hHeld.1))).trans (hHeld.1)
                        have HS1_ := (hb.cell (World.block_lt_of_cell? _ _ (hHeld.2.1))).trans (hHeld.2.1)
                        have HS2_ := (hb.cell (World.block_lt_of_cell? _ _ (hHeld.2.2.1))).trans (hHeld.2.2.1)
                        have HS3_ := (hb.cell (World.block_lt_of_cell? _ _ (hHeld.2.2.2.1))).trans (hHeld.2.2.2.1)
                        have HS4_ := (hb.cell (World.block_lt_of_cell? _ _ (hHeld.2.2.2.2.1))).trans (hHeld.2.2.2.2.1)
                        have HS5_ := (hb.cell (World.block_lt_of_cell? _ _ (hHeld.2.2.2.2.2.1))).trans (hHeld.2.2.2.2.2.1)
                        have HS6_ := (hb.cell (World.block_lt_of_cell? _ _ (hHeld.2.2.2.2.2.2.1))).trans (hHeld.2.2.2.2.2.2.1)
                        have HS7_ := (hb.cell (World.block_lt_of_cell? _ _ (hHeld.2.2.2.2.2.2.2.1))).trans (hHeld.2.2.2.2.2.2.2.1)
                        have HS8_ := (hb.cell (World.block_lt_of_cell? _ _ (hHeld.2.2.2.2.2.2.2.2.1))).trans (hHeld.2.2.2.2.2.2.2.2.1)
                        have HS9_ := (hb.cell (World.block_lt_of_cell? _ _ (hHeld.2.2.2.2.2.2.2.2.2.1))).trans (hHeld.2.2.2.2.2.2.2.2.2.1)
                        have HS10_ := (hb.cell (World.block_lt_of_cell? _ _ (hHeld.2.2.2.2.2.2.2.2.2.2.1))).trans (hHeld.2.2.2.2.2.2.2.2.2.2.1)
                        have HS11_ := (hb.cell (World.block_lt_of_cell? _ _ (hHeld.2.2.2.2.2.2.2.2.2.2.2.1))).trans (hHeld.2.2.2.2.2.2.2.2.2.2.2.1)
                        have HS12_ := (hb.cell (World.block_lt_of_cell? _ _ (hHeld.2.2.2.2.2.2.2.2.2.2.2.2.1))).trans (hHeld.2.2.2.2.2.2.2.2.2.2.2.2.1)
                        have HS13_ := (hb.cell (World.block_lt_of_cell? _ _ (hHeld.2.2.2.2.2.2.2.2.2.2.2.2.2.1))).trans (hHeld.2.2.2.2.2.2.2.2.2.2.2.2.2.1)
                        have HS14_ := (hb.cell (World.block_lt_of_cell? _ _ (hHeld.2.2.2.2.2.2.2.2.2.2.2.2.2.2.1))).trans (hHeld.2.2.2.2.2.2.2.2.2.2.2.2.2.2.1)
                        have HS15_ := (hb.cell (World.block_lt_of_cell? _ _ (hHeld.2.2.2.2.2.2.2.2.2.2.2.2.2.2.2))).trans (hHeld.2.2.2.2.2.2.2.2.2.2.2.2.2.2.2)
                        refine ⟨_, rfl, ?_⟩
                        have n0_ := Aside0.mk (Kd.R_below (by (with_reducible repeat (first | apply Kd.R_alloc | apply Kd.R_drewN | apply Kd.R_drew)); exact HO_7.out) hb)
                        have n1_ := Aside0.mk (Kd.V_below (by (with_reducible repeat (first | apply Kd.V_alloc | apply Kd.V_drewN | apply Kd.V_drew)); exact HO_8.out) hb)
                        have n2_ := Aside0.mk (Kd.V_below (by (with_reducible repeat (first | apply Kd.V_alloc | apply Kd.V_drewN | apply Kd.V_drew)); exact HL148_7.out) hb)
                        have n3_ := Aside0.mk (Kd.V_below (by (with_reducible repeat (first | apply Kd.V_alloc | apply Kd.V_drewN | apply Kd.V_drew)); exact HL149_7.out) hb)
                        have n4_ := Aside0.mk (Kd.C_below (by repeat (first | (with_reducible exact HR148_7.out) | (with_reducible refine Kd.C_alloc ?_ _) | (with_reducible refine Kd.C_drewN ?_ _) | (with_reducible refine Kd.C_drew ?_) | exact HR148_7.out)) hb)
                        have n5_ := Aside0.mk (Kd.C_below (by repeat (first | (with_reducible exact HR149_7.out) | (with_reducible refine Kd.C_alloc ?_ _) | (with_reducible refine Kd.C_drewN ?_ _) | (with_reducible refine Kd.C_drew ?_) | exact HR149_7.out)) hb)
                        have n6_ := Aside0.mk (below_step (by repeat (first | (with_reducible first | exact HB.out | apply below_alloc | apply pw_below_drewN | apply below_drew1) | exact HB.out)) hb)
                        clear HO_7
                        clear HO_8
                        clear HL148_7
                        clear HL149_7
                        clear HR148_7
                        clear HR149_7
                        clear HB
                        have HO_7 := n0_
                        have HO_8 := n1_
                        have HL148_7 := n2_
                        have HL149_7 := n3_
                        have HR148_7 := n4_
                        have HR149_7 := n5_
                        have HB := n6_
                        clear n0_ n1_ n2_ n3_ n4_ n5_ n6_
                        (try clear hb)
                        (try clear hb2)
                        (try clear hk)
                        (try clear hi)
                        refine hK.out _ _ ⟨HS0_, HS1_, HS2_, HS3_, HS4_, HS5_, HS6_, HS7_, HS8_, HS9_, HS10_, HS11_, HS12_, HS13_, HS14_, HS15_⟩ (fun hHeld => ?_)
                        clear hK K
                        refine norm_ (a' := ?_) ?_ ?_
                        rotate_left
                        · show Act.put _ (some 34) _ = _
                          simp only [Act.put, List.setIfInBounds_toArray, List.set_cons_zero, List.set_cons_succ, i64_w, i32_w]
                          rfl
                        refine done_ (done_of HT_.out (by kernel_rfl)) ?_
                        try go_wp2
                        go_roundg k2
                        case measure => have := HK1.out; have := HK2.out; omega
                        case rel => exact ⟨(x9_2), (wrap64 (x10_2 + 1)), (by first | rfl | (simp; done) | (simp [*]; done)), (by first | rfl | (simp; done) | (simp [*]; done)), H', ⟨by have := HK1.out; have := HK2.out; omega⟩, ⟨by (with_reducible repeat (first | apply Kd.R_alloc | apply Kd.R_drewN | apply Kd.R_drew)); exact HO_7.out⟩, ⟨by (with_reducible repeat (first | apply Kd.V_alloc | apply Kd.V_drewN | apply Kd.V_drew)); exact HO_8.out⟩, ⟨by repeat (first | (with_reducible first | exact HB.out | apply below_alloc | apply pw_below_drewN | apply below_drew1) | exact HB.out)⟩⟩
                    · rw [if_neg c13] at H
                      exact absurd H (by simp)
                  · rw [if_neg c12] at H
                    exact absurd H (by simp)
                · rw [if_neg c11] at H
                  exact absurd H (by simp)
              · rw [if_neg c10] at H
                have c10b0 : decide (x10_2 < (x8_1.length : Int)) = false := decide_eq_false c10
                clear c10
                by_cases c20 : 0 ≤ x9_2
                · rw [if_pos c20] at H
                  have c20b0 : decide (0 ≤ x9_2) = true := decide_eq_true c20
                  clear c20
                  by_cases c21 : x9_2 < (x8_1.length : Int)
                  · rw [if_pos c21] at H
                    have c21b0 : decide (x9_2 < (x8_1.length : Int)) = true := decide_eq_true c21
                    clear c21
                    by_cases c22 : x7_1.length < 17592186044416
                    · rw [if_pos c22] at H
                      have LMc22 := Aside0.mk c22
                      clear c22
                      obtain ⟨y152, hy152⟩ : ∃ y_ : List Int, y_ = (x7_1 ++ [(rd_T38 x8_1 x9_2).f0]) := ⟨_, rfl⟩
                      replace H : ((some (([] : List (S38)) : List (S38))).bind fun y155 => (if x9_2 ≤ (x8_1.length : Int) then ((some (x8_1.take (x9_2 : Int).toNat : List (S38))).bind fun y158 => (if y155.length + y158.length < 1759218604441 then ((some (y155 ++ y158 : List (S38))).bind fun y163 => (if 0 ≤ (wrap64 (x9_2 + 1)) then (if (wrap64 (x9_2 + 1)) ≤ (x8_1.length : Int) then ((some (x8_1.drop ((wrap64 (x9_2 + 1)) : Int).toNat : List (S38))).bind fun y166 => (if y163.length + y166.length < 1759218604441 then (wagtailref28_Needed.l0 k2 a1 a2 y152 (y163 ++ y166)) else (none))) else (none)) else (none))) else (none))) else (none))) = some r := by first | (rw [hy152]; with_reducible exact H) | (have H2_ := (Option.bind_some _ _).symm.trans H; rw [hy152]; with_reducible exact H2_) | (have H2_ := (Option.bind_some _ _).symm.trans H; with_reducible exact H2_) | with_reducible exact H | (rw [hy152]; exact H) | exact H
                      have Ny152 := Aside0.mk hy152
                      clear hy152
                      obtain ⟨y155, hy155⟩ : ∃ y_ : List (S38), y_ = (([] : List (S38))) := ⟨_, rfl⟩
                      replace H : (if x9_2 ≤ (x8_1.length : Int) then ((some (x8_1.take (x9_2 : Int).toNat : List (S38))).bind fun y158 => (if y155.length + y158.length < 1759218604441 then ((some (y155 ++ y158 : List (S38))).bind fun y163 => (if 0 ≤ (wrap64 (x9_2 + 1)) then (if (wrap64 (x9_2 + 1)) ≤ (x8_1.length : Int) then ((some (x8_1.drop ((wrap64 (x9_2 + 1)) : Int).toNat : List (S38))).bind fun y166 => (if y163.length + y166.length < 1759218604441 then (wagtailref28_Needed.l0 k2 a1 a2 y152 (y163 ++ y166)) else (none))) else (none)) else (none))) else (none))) else (none)) = some r := by first | (rw [hy155]; with_reducible exact H) | (have H2_ := (Option.bind_some _ _).symm.trans H; rw [hy155]; with_reducible exact H2_) | (have H2_ := (Option.bind_some _ _).symm.trans H; with_reducible exact H2_) | with_reducible exact H | (rw [hy155]; exact H) | exact H
                      have Ny155 := Aside0.mk hy155
                      clear hy155
                      have c23b0 := eq_true (of_decide_eq_true (by first | (with_reducible assumption) | assumption) : 0 ≤ x9_2)
                      by_cases c24 : x9_2 ≤ (x8_1.length : Int)
                      · rw [if_pos c24] at H
                        have c24b0 := eq_true c24
                        have c24b1 : decide (x9_2 ≤ (x8_1.length : Int)) = true := decide_eq_true c24
                        clear c24
                        obtain ⟨y158, hy158⟩ : ∃ y_ : List (S38), y_ = (x8_1.take (x9_2 : Int).toNat) := ⟨_, rfl⟩
                        replace H : (if y155.length + y158.length < 1759218604441 then ((some (y155 ++ y158 : List (S38))).bind fun y163 => (if 0 ≤ (wrap64 (x9_2 + 1)) then (if (wrap64 (x9_2 + 1)) ≤ (x8_1.length : Int) then ((some (x8_1.drop ((wrap64 (x9_2 + 1)) : Int).toNat : List (S38))).bind fun y166 => (if y163.length + y166.length < 1759218604441 then (wagtailref28_Needed.l0 k2 a1 a2 y152 (y163 ++ y166)) else (none))) else (none)) else (none))) else (none)) = some r := by first | (rw [hy158]; with_reducible exact H) | (have H2_ := (Option.bind_some _ _).symm.trans H; rw [hy158]; with_reducible exact H2_) | (have H2_ := (Option.bind_some _ _).symm.trans H; with_reducible exact H2_) | with_reducible exact H | (rw [hy158]; exact H) | exact H
                        have Ny158 := Aside0.mk hy158
                        clear hy158
                        by_cases c25 : y155.length + y158.length < 1759218604441
                        · rw [if_pos c25] at H
                          have LMc25 := Aside0.mk c25
                          clear c25
                          obtain ⟨y163, hy163⟩ : ∃ y_ : List (S38), y_ = (y155 ++ y158) := ⟨_, rfl⟩
                          replace H : (if 0 ≤ (wrap64 (x9_2 + 1)) then (if (wrap64 (x9_2 + 1)) ≤ (x8_1.length : Int) then ((some (x8_1.drop ((wrap64 (x9_2 + 1)) : Int).toNat : List (S38))).bind fun y166 => (if y163.length + y166.length < 1759218604441 then (wagtailref28_Needed.l0 k2 a1 a2 y152 (y163 ++ y166)) else (none))) else (none)) else (none)) = some r := by first | (rw [hy163]; with_reducible exact H) | (have H2_ := (Option.bind_some _ _).symm.trans H; rw [hy163]; with_reducible exact H2_) | (have H2_ := (Option.bind_some _ _).symm.trans H; with_reducible exact H2_) | with_reducible exact H | (rw [hy163]; exact H) | exact H
                          have Ny163 := Aside0.mk hy163
                          clear hy163
                          obtain ⟨ji26, hji26⟩ : ∃ j_ : Int, (wrap64 (x9_2 + 1)) = j_ := ⟨_, rfl⟩
                          replace H : (if 0 ≤ (ji26) then (if (ji26) ≤ (x8_1.length : Int) then ((some (x8_1.drop ((ji26) : Int).toNat : List (S38))).bind fun y166 => (if y163.length + y166.length < 1759218604441 then (wagtailref28_Needed.l0 k2 a1 a2 y152 (y163 ++ y166)) else (none))) else (none)) else (none)) = some r := by first | (rw [hji26] at H; exact H) | (simp only [hji26] at H ⊢; exact H)
                          have hji26w : (IntKind.i64.wrap (x9_2 + 1)) = ji26 := (i64_w _).trans hji26
                          by_cases c27 : 0 ≤ (ji26)
                          · rw [if_pos c27] at H
                            have c27b0 := eq_true c27
                            have c27b1 : decide (0 ≤ (ji26)) = true := decide_eq_true c27
                            clear c27
                            by_cases c28 : (ji26) ≤ (x8_1.length : Int)
                            · rw [if_pos c28] at H
                              have c28b0 := eq_true c28
                              have c28b1 : decide ((ji26) ≤ (x8_1.length : Int)) = true := decide_eq_true c28
                              clear c28
                              obtain ⟨y166, hy166⟩ : ∃ y_ : List (S38), y_ = (x8_1.drop ((ji26) : Int).toNat) := ⟨_, rfl⟩
                              replace H : (if y163.length + y166.length < 1759218604441 then (wagtailref28_Needed.l0 k2 a1 a2 y152 (y163 ++ y166)) else (none)) = some r := by first | (rw [hy166]; with_reducible exact H) | (have H2_ := (Option.bind_some _ _).symm.trans H; rw [hy166]; with_reducible exact H2_) | (have H2_ := (Option.bind_some _ _).symm.trans H; with_reducible exact H2_) | with_reducible exact H | (rw [hy166]; exact H) | exact H
                              have Ny166 := Aside0.mk hy166
                              clear hy166
                              by_cases c29 : y163.length + y166.length < 1759218604441
                              · rw [if_pos c29] at H
                                have LMc29 := Aside0.mk c29
                                clear c29
                                obtain ⟨y171, hy171⟩ : ∃ y_ : List (S38), y_ = (y163 ++ y166) := ⟨_, rfl⟩
                                replace H : (wagtailref28_Needed.l0 k2 a1 a2 y152 y171) = some r := by first | (rw [hy171]; with_reducible exact H) | (have H2_ := (Option.bind_some _ _).symm.trans H; rw [hy171]; with_reducible exact H2_) | (have H2_ := (Option.bind_some _ _).symm.trans H; with_reducible exact H2_) | with_reducible exact H | (rw [hy171]; exact H) | exact H
                                have Ny171 := Aside0.mk hy171
                                clear hy171
                                have H' := Aside0.mk H
                                clear H
                                have p151 : 0 ≤ (x9_2 : Int) := of_decide_eq_true (by first | (with_reducible assumption) | assumption)
                                have q151 : x9_2 < (x8_1.length : Int) := of_decide_eq_true (by first | (with_reducible assumption) | assumption)
                                obtain ⟨ad151, A151_7, c151_7, e151, hx151_0, hx151_1, hx151_2, hx151_3, hx151_4, hx151_5, hx151_6, hx151_7, hl151_7, hi151_7⟩ := at_T38 (Kd.V_reads' HO_8.out).2.2 x9_2 p151 q151
                                cases e151
                                obtain ⟨ce151, hce151, hMe151, hcc151⟩ := Kd.V_get HO_8.out z38 x9_2 p151 (by first | exact q151 | exact of_decide_eq_true (by first | (with_reducible assumption) | assumption) | (have e_ := (Kd.V_reads' HO_8.out).1; omega))
                                obtain ⟨ua151_7, uc151_7, rfl, ul151_7, ge151_7⟩ := k38_openF hMe151
                                have hv151_7 := hcc151 7 _ rfl
                                rw [add_field _ _ 7 (by omega)] at hv151_7
                                replace hv151_7 := Option.some.inj (hv151_7.symm.trans hx151_7)
                                injection hv151_7 with hva_ hvn_ hvc_
                                rw [hva_] at ge151_7
                                rw [hvc_] at ul151_7
                                have HL151_7 := Aside0.mk (show Kd.V (Kd.int .i64) 3 _ w.heap.size _ _ ((rd_T38 x8_1 x9_2).f7) from Kd.V_mk ul151_7 ge151_7)
                                clear hva_ hvn_ hvc_ ge151_7 ul151_7
                                clear hcc151 hce151
                                have HR151_7 := Aside0.mk hi151_7
                                have HC151_7 := Aside0.mk hl151_7
                                clear hi151_7 hl151_7
                                replace p151 := eq_true p151
                                replace q151 := eq_true q151
                                try go_wp2_with (first | ((with_reducible refine gate_builtin (b := .append) (xs := #[.tmp 36, .tmp 42]) rfl ?_); at_builtin; refine Kd.R_append (Kd.int .u64) (w0 := w) w.heap.size rfl (.tmp 36) (.tmp 42) 33 35 (.int .u64 0) 8 rfl Try.underlying33 info35 rfl (by decide) (by omega) u7 x7_1 ((rd_T38 x8_1 x9_2).f0) [.int .u64 ((rd_T38 x8_1 x9_2).f0)] (fun k_ => (w.heap.size ≤ k_)) (fun _ => False) rfl rfl ?aP (fun _ hk => hk.elim) ?aF ?aO ?aB ?aS ?aL ?_; (case aP => exact rfl); (case aB => exact (by repeat (first | (with_reducible first | exact HB.out | apply below_alloc | apply pw_below_drewN | apply below_drew1) | exact HB.out))); (case aF => exact (fun k_ hk => (Nat.le_trans (below_size (by repeat (first | (with_reducible first | exact HB.out | apply below_alloc | apply pw_below_drewN | apply below_drew1) | exact HB.out))) hk))); (case aO => exact (by (with_reducible repeat (first | apply Kd.R_alloc | apply Kd.R_drewN | apply Kd.R_drew)); exact HO_7.out)); (case aS => exact (below_size (by repeat (first | (with_reducible first | exact HB.out | apply below_alloc | apply pw_below_drewN | apply below_drew1) | exact HB.out)))); (case aL => have := LMc22.out; omega); intro v153 w30 ho hb hg hat; rw [← Ny152.out] at ho; have n0_ := Aside0.mk (Kd.V_afterv (ok := (fun k_ => (P0_ k_ ∨ w.heap.size ≤ k_))) (by (with_reducible repeat (first | apply Kd.V_alloc | apply Kd.V_drewN | apply Kd.V_drew)); exact HO_8.out) hg hat); have n1_ := Aside0.mk (Kd.V_afterv (ok := (fun k_ => (P0_ k_ ∨ w.heap.size ≤ k_))) (by (with_reducible repeat (first | apply Kd.V_alloc | apply Kd.V_drewN | apply Kd.V_drew)); exact HL151_7.out) hg hat); have n2_ := Aside0.mk (hb); have n3_ := Aside0.mk (ho); clear HO_8; clear HL151_7; clear HB; clear HO_7; have HO_8 := n0_; have HL151_7 := n1_; have HB := n2_; have HO154 := n3_; clear n0_ n1_ n2_ n3_; clear ho hb hg hat))
                                have n0_ := Aside0.mk (Kd.V_drew HO_8.out)
                                have n1_ := Aside0.mk (Kd.V_drew HL151_7.out)
                                have n2_ := Aside0.mk (Kd.R_drew HO154.out)
                                have n3_ := Aside0.mk (below_drew1 HB.out)
                                clear HO_8
                                clear HL151_7
                                clear HO154
                                clear HB
                                have HO_8 := n0_
                                have HL151_7 := n1_
                                have HO154 := n2_
                                have HB := n3_
                                clear n0_ n1_ n2_ n3_
                                have q32 : (x9_2 : Int) ≤ ((x8_1.length : Int) : Int) := of_decide_eq_true (by first | (with_reducible assumption) | assumption)
                                obtain ⟨i032, hi032, _, hsz32, _⟩ := info_parts info38
                                have hroom32 : x8_1.length ≤ co9 := (Kd.V_reads' HO_8.out).2.1
                                have hC32 : Kd.F k38 _ _ (some ad151) x8_1.length x8_1 := (Kd.V_at (base := w.heap.size) HO_8.out).2.2
                                have hcut32 := cut_to (P := Try.prog) 22 38 .i64 Try.underlying22 hi032 (some ad151) x8_1.length co9 x9_2 (of_decide_eq_true (by first | (with_reducible assumption) | assumption)) q32 hroom32
                                have hr32 := Kd.F_take (m := (x9_2 : Int).toNat) hC32 (by omega)
                                have hy32 : y158.length = (x9_2 : Int).toNat := (by rw [Ny158.out, List.length_take]; omega)
                                rw [← Ny158.out] at hr32
                                rw [← hy32] at hcut32
                                have HO162 := Aside0.mk (show Kd.V k38 38 _ w.heap.size _ (.slice (some ad151) y158.length co9) y158 from Kd.V_mk (by omega) hr32)
                                have HC162 := Aside0.mk (show y158.length ≤ co9 from by omega)
                                clear hr32 hC32 hroom32 hi032 hsz32
                                have KY32 := Aside0.mk hy32
                                clear hy32
                                replace q32 := eq_true q32
                                have q33 : ((ji26) : Int) ≤ ((x8_1.length : Int) : Int) := of_decide_eq_true (by first | (with_reducible assumption) | assumption)
                                obtain ⟨i033, hi033, _, hsz33, _⟩ := info_parts info38
                                have hroom33 : x8_1.length ≤ co9 := (Kd.V_reads' HO_8.out).2.1
                                have hC33 : Kd.F k38 _ _ (some ad151) x8_1.length x8_1 := (Kd.V_at (base := w.heap.size) HO_8.out).2.2
                                have q033 : (0 : Int) ≤ ((ji26) : Int) := of_decide_eq_true (by first | (with_reducible assumption) | assumption)
                                have hcut33 := cut_from (P := Try.prog) 22 38 .i64 Try.underlying22 hi033 8 hsz33 (some ad151) x8_1.length co9 (ji26) q033 q33
                                have hr33 := Kd.F_cut (m := ((ji26) : Int).toNat) (c := co9) hC33 (by omega) hroom33
                                obtain ⟨A33, hA33⟩ : ∃ A1, A1 = (if co9 = ((ji26) : Int).toNat then (some ad151) else ((some ad151) : Option Addr).map (·.add (((ji26) : Int).toNat * 8))) := ⟨_, rfl⟩
                                obtain ⟨c33, hc33⟩ : ∃ c1, c1 = co9 - ((ji26) : Int).toNat := ⟨_, rfl⟩
                                have hy33 : y166.length = x8_1.length - ((ji26) : Int).toNat := (by rw [Ny166.out, List.length_drop] <;> omega)
                                rw [show (x8_1).drop ((ji26) : Int).toNat = y166 from Ny166.out.symm] at hr33
                                replace hr33 : Kd.F k38 _ _ A33 y166.length y166 := (by rw [hA33]; exact hr33)
                                rw [← hy33, ← hA33, ← hc33] at hcut33
                                have HO170 := Aside0.mk (show Kd.V k38 38 _ w.heap.size _ (.slice A33 y166.length c33) y166 from Kd.V_mk (by rw [hy33, hc33]; exact Nat.sub_le_sub_right hroom33 _) hr33)
                                have HC170 := Aside0.mk (show y166.length ≤ c33 from by rw [hy33, hc33]; exact Nat.sub_le_sub_right hroom33 _)
                                clear hr33 hC33 hroom33 hi033 hsz33 hc33
                                have KY33 := Aside0.mk hy33
                                have KA33 := Aside0.mk hA33
                                clear hy33 hA33
                                replace q33 := eq_true q33
                                refine start_ (n := 11) (S := fun w' => True) (ds := []) #[false, false, false, false, false, false, false, false, false, false, false] (by kernel_rfl) rfl rfl trivial (fun hHeld => ?_); refine with_tabW wagtailref28_Needed.tab13 wagtailref28_Needed.bits13 (fun HT_ HW_ => ?_)
                                generalize w30.drew = w31 at HO_8 HL151_7 HO154 HB HO162 HO170 hHeld ⊢
                                refine pure_ (i := 1) (N := some 45) (v := ?_) (a' := ?_) #[false, true, false, false, false, false, false, false, false, false, false] rfl rfl (any_of HT_.out (by kernel_rfl)) (fun _ _ _ h => h) (Or.inl ⟨by rfl, ?_⟩) ?_ ?_
                                rotate_left
                                · intro w'
                                  go_simp
                                  with_reducible rfl
                                rotate_left
                                · simp only [Act.put, List.setIfInBounds_toArray, List.set_cons_zero, List.set_cons_succ, i64_w, i32_w]
                                  rfl
                                refine pure_ (i := 2) (N := some 46) (v := ?_) (a' := ?_) #[false, true, true, false, false, false, false, false, false, false, false] rfl rfl (any_of HT_.out (by kernel_rfl)) (fun _ _ _ h => h) (Or.inl ⟨by rfl, ?_⟩) ?_ ?_
                                rotate_left
                                · intro w'
                                  go_simp
                                  with_reducible rfl
                                rotate_left
                                · simp only [Act.put, List.setIfInBounds_toArray, List.set_cons_zero, List.set_cons_succ, i64_w, i32_w]
                                  rfl
                                refine pure_ (i := 3) (N := some 47) (v := ?_) (a' := ?_) #[false, true, true, true, false, false, false, false, false, false, false] rfl rfl (any_of HT_.out (by kernel_rfl)) (fun _ _ _ h => h) (Or.inl ⟨by rfl, ?_⟩) ?_ ?_
                                rotate_left
                                · intro w'
                                  go_simp
                                  with_reducible rfl
                                rotate_left
                                · simp only [Act.put, List.setIfInBounds_toArray, List.set_cons_zero, List.set_cons_succ, i64_w, i32_w]
                                  rfl
                                refine pure_ (i := 5) (N := some 49) (v := ?_) (a' := ?_) #[false, true, true, true, false, true, false, false, false, false, false] rfl rfl (any_of HT_.out (by kernel_rfl)) (fun _ _ _ h => h) (Or.inl ⟨by rfl, ?_⟩) ?_ ?_
                                rotate_left
                                · intro w'
                                  go_simp
                                  with_reducible rfl
                                rotate_left
                                · simp only [Act.put, List.setIfInBounds_toArray, List.set_cons_zero, List.set_cons_succ, i64_w, i32_w]
                                  rfl
                                refine pure_ (i := 6) (N := some 50) (v := ?_) (a' := ?_) #[false, true, true, true, false, true, true, false, false, false, false] rfl rfl (any_of HT_.out (by kernel_rfl)) (fun _ _ _ h => h) (Or.inl ⟨by rfl, ?_⟩) ?_ ?_
                                rotate_left
                                · intro w'
                                  go_simp
                                  with_reducible rfl
                                rotate_left
                                · simp only [Act.put, List.setIfInBounds_toArray, List.set_cons_zero, List.set_cons_succ, i64_w, i32_w]
                                  rfl
                                refine pure_ (i := 7) (N := some 51) (v := ?_) (a' := ?_) #[false, true, true, true, false, true, true, true, false, false, false] rfl rfl (any_of HT_.out (by kernel_rfl)) (fun _ _ _ h => h) (Or.inl ⟨by rfl, ?_⟩) ?_ ?_
                                rotate_left
                                · intro w'
                                  go_simp
                                  with_reducible rfl
                                rotate_left
                                · simp only [Act.put, List.setIfInBounds_toArray, List.set_cons_zero, List.set_cons_succ, i64_w, i32_w]
                                  rfl
                                refine pure_ (i := 8) (N := some 52) (v := ?_) (a' := ?_) #[false, true, true, true, false, true, true, true, true, false, false] rfl rfl (any_of HT_.out (by kernel_rfl)) (fun _ _ _ h => h) (Or.inl ⟨by rfl, ?_⟩) ?_ ?_
                                rotate_left
                                · intro w'
                                  go_simp
                                  with_reducible rfl
                                rotate_left
                                · simp only [Act.put, List.setIfInBounds_toArray, List.set_cons_zero, List.set_cons_succ, i64_w, i32_w]
                                  rfl
                                refine one_ (i := 0) (N := some 44) #[true, true, true, true, false, true, true, true, true, false, false] rfl rfl (one_of HT_.out (by kernel_rfl)) (by decide) (fun K hK => ?_)
                                refine Kd.N_lit_step k38 _ 38 ?hg (N' := 44) ?hd (xs := ([] : List (S38))) (inner := []) (ok := (fun k_ => (P0_ k_ ∨ w.heap.size ≤ k_) ∧ some k_ ≠ (v153 : Value).ownBlock)) (okp := (fun k_ => (P0_ k_ ∨ w.heap.size ≤ k_) ∧ some k_ ≠ (v153 : Value).ownBlock)) ?hr ?hp (fun _ hk => hk) ((show ∀ k_, w31.heap.size ≤ k_ → (fun k_ => (P0_ k_ ∨ w.heap.size ≤ k_) ∧ some k_ ≠ (v153 : Value).ownBlock) k_ from fun k_ hk => ⟨(.inr (Nat.le_trans (below_size (by repeat (first | (with_reducible first | exact HB.out | apply below_alloc | apply pw_below_drewN | apply below_drew1) | exact HB.out))) hk)), Kd.fresh' (Kd.R_lt (by (with_reducible repeat (first | apply Kd.R_alloc | apply Kd.R_drewN | apply Kd.R_drew)); exact HO154.out)) k_ hk⟩) _ (Nat.le_refl _)) (Below.refl _ _) (Nat.le_refl _) (by simp) ?_; (case hd => rfl); (case hg => rfl); (case hr => first | (go_simp; done) | (go_simp; rfl)); (case hp => exact (Reps.none _ _))
                                intro v156 w34 ho35 hb hg_ hnew_
                                clear hg_ hnew_
                                (first | rw [← Ny155.out] at ho35 | (simp only [Int.reduceToNat] at ho35; rw [← Ny155.out] at ho35))
                                have n0_ := Aside0.mk (Kd.V_elder' (by (with_reducible repeat (first | apply Kd.V_alloc | apply Kd.V_drewN | apply Kd.V_drew)); exact HO_8.out) (Kd.N_base ho35) hb)
                                have n1_ := Aside0.mk (Kd.V_elder' (by (with_reducible repeat (first | apply Kd.V_alloc | apply Kd.V_drewN | apply Kd.V_drew)); exact HL151_7.out) (Kd.N_base ho35) hb)
                                have n2_ := Aside0.mk (Kd.R_below (by (with_reducible repeat (first | apply Kd.R_alloc | apply Kd.R_drewN | apply Kd.R_drew)); exact HO154.out) hb)
                                have n3_ := Aside0.mk (Kd.V_elder' (by (with_reducible repeat (first | apply Kd.V_alloc | apply Kd.V_drewN | apply Kd.V_drew)); exact HO162.out) (Kd.N_base ho35) hb)
                                have n4_ := Aside0.mk (Kd.V_elder' (by (with_reducible repeat (first | apply Kd.V_alloc | apply Kd.V_drewN | apply Kd.V_drew)); exact HO170.out) (Kd.N_base ho35) hb)
                                have n5_ := Aside0.mk (Kd.N_lower ho35 (below_size (by repeat (first | (with_reducible first | exact HB.out | apply below_alloc | apply pw_below_drewN | apply below_drew1) | exact HB.out))))
                                have n6_ := Aside0.mk (below_step (by repeat (first | (with_reducible first | exact HB.out | apply below_alloc | apply pw_below_drewN | apply below_drew1) | exact HB.out)) hb)
                                clear HO_8
                                clear HL151_7
                                clear HO154
                                clear HO162
                                clear HO170
                                clear HB
                                have HO_8 := n0_
                                have HL151_7 := n1_
                                have HO154 := n2_
                                have HO162 := n3_
                                have HO170 := n4_
                                have HO157 := n5_
                                have HB := n6_
                                clear n0_ n1_ n2_ n3_ n4_ n5_ n6_
                                clear hb ho35
                                refine hK.out _ _ trivial (fun hHeld => ?_)
                                clear hK K
                                refine norm_ (a' := ?_) ?_ ?_
                                rotate_left
                                · show Act.put _ (some 44) _ = _
                                  simp only [Act.put, List.setIfInBounds_toArray, List.set_cons_zero, List.set_cons_succ, i64_w, i32_w]
                                  rfl
                                refine one_ (i := 4) (N := some 48) #[true, true, true, true, true, true, true, true, true, false, false] rfl rfl (one_of HT_.out (by kernel_rfl)) (by decide) (fun K hK => ?_)
                                refine Kd.N_append_rows_step k38 (w0 := w) w.heap.size (by rfl) (.tmp 44) (.tmp 47) 22 38 (.agg #[(.int .u64 0), (.int .u64 0), (.int .i64 0), (.int .i64 0), (.int .u64 0), (.bool false), (.int .i64 0), (.slice none 0 0)]) 80 rfl Try.underlying22 info38 rfl (by decide) (by omega) v156 y155 y158 _ _ _ (fun k_ => (P0_ k_ ∨ w.heap.size ≤ k_) ∧ some k_ ≠ (v153 : Value).ownBlock) (fun k_ => ((fun k_ => (P0_ k_ ∨ w.heap.size ≤ k_) ∧ some k_ ≠ (v153 : Value).ownBlock)) k_ ∧ some k_ ≠ (v156 : Value).ownBlock) rfl rfl ?aO ?aR (fun _ hk => hk) ?aF ?aB ?aS ?aL ?_
                                (case aR => exact (by skip; exact Kd.V_F (Kd.V_mono (ok' := (fun k_ => ((fun k_ => (P0_ k_ ∨ w.heap.size ≤ k_) ∧ some k_ ≠ (v153 : Value).ownBlock)) k_ ∧ some k_ ≠ (v156 : Value).ownBlock)) (HO162.out) (fun k_ hk => ⟨⟨hk.1.1, hk.1.2⟩, hk.2⟩))))
                                (case aB => exact (by repeat (first | (with_reducible first | exact HB.out | apply below_alloc | apply pw_below_drewN | apply below_drew1) | exact HB.out)))
                                (case aF => exact (fun k_ hk => ⟨(.inr (Nat.le_trans (below_size (by repeat (first | (with_reducible first | exact HB.out | apply below_alloc | apply pw_below_drewN | apply below_drew1) | exact HB.out))) hk)), Kd.fresh' (Kd.R_lt (by (with_reducible repeat (first | apply Kd.R_alloc | apply Kd.R_drewN | apply Kd.R_drew)); exact HO154.out)) k_ hk⟩))
                                (case aO => exact (by (with_reducible repeat (first | apply Kd.N_alloc | apply Kd.N_drewN | apply Kd.N_drew)); exact HO157.out))
                                (case aS => exact (below_size (by repeat (first | (with_reducible first | exact HB.out | apply below_alloc | apply pw_below_drewN | apply below_drew1) | exact HB.out))))
                                (case aL => have := LMc25.out; omega)
                                intro v164 w36 ho hb hg hat
                                rw [← Ny163.out] at ho
                                have n0_ := Aside0.mk (Kd.V_afterv (ok := (fun k_ => (P0_ k_ ∨ w.heap.size ≤ k_) ∧ some k_ ≠ (v153 : Value).ownBlock)) (by (with_reducible repeat (first | apply Kd.V_alloc | apply Kd.V_drewN | apply Kd.V_drew)); exact HO_8.out) hg hat)
                                have n1_ := Aside0.mk (Kd.V_afterv (ok := (fun k_ => (P0_ k_ ∨ w.heap.size ≤ k_) ∧ some k_ ≠ (v153 : Value).ownBlock)) (by (with_reducible repeat (first | apply Kd.V_alloc | apply Kd.V_drewN | apply Kd.V_drew)); exact HL151_7.out) hg hat)
                                have n2_ := Aside0.mk (Kd.R_over' (by (with_reducible repeat (first | apply Kd.R_alloc | apply Kd.R_drewN | apply Kd.R_drew)); exact HO154.out) (Kd.N_typed (by (with_reducible repeat (first | apply Kd.N_alloc | apply Kd.N_drewN | apply Kd.N_drew)); exact HO157.out)) (by decide) hg)
                                have n3_ := Aside0.mk (Kd.V_afterv (ok := (fun k_ => (P0_ k_ ∨ w.heap.size ≤ k_) ∧ some k_ ≠ (v153 : Value).ownBlock)) (by (with_reducible repeat (first | apply Kd.V_alloc | apply Kd.V_drewN | apply Kd.V_drew)); exact HO162.out) hg hat)
                                have n4_ := Aside0.mk (Kd.V_afterv (ok := (fun k_ => (P0_ k_ ∨ w.heap.size ≤ k_) ∧ some k_ ≠ (v153 : Value).ownBlock)) (by (with_reducible repeat (first | apply Kd.V_alloc | apply Kd.V_drewN | apply Kd.V_drew)); exact HO170.out) hg hat)
                                have n5_ := Aside0.mk (hb)
                                have n6_ := Aside0.mk (ho)
                                clear HO_8
                                clear HL151_7
                                clear HO154
                                clear HO162
                                clear HO170
                                clear HB
                                clear HO157
                                have HO_8 := n0_
                                have HL151_7 := n1_
                                have HO154 := n2_
                                have HO162 := n3_
                                have HO170 := n4_
                                have HB := n5_
                                have HO165 := n6_
                                clear n0_ n1_ n2_ n3_ n4_ n5_ n6_
                                clear ho hb hg hat
                                refine hK.out _ _ trivial (fun hHeld => ?_)
                                clear hK K
                                refine norm_ (a' := ?_) ?_ ?_
                                rotate_left
                                · show Act.put _ (some 48) _ = _
                                  simp only [Act.put, List.setIfInBounds_toArray, List.set_cons_zero, List.set_cons_succ, i64_w, i32_w]
                                  rfl
                                refine one_ (i := 9) (N := some 53) #[true, true, true, true, true, true, true, true, true, true, false] rfl rfl (one_of HT_.out (by kernel_rfl)) (by decide) (fun K hK => ?_)
                                refine Kd.N_append_rows_step k38 (w0 := w) w.heap.size (by rfl) (.tmp 48) (.tmp 52) 22 38 (.agg #[(.int .u64 0), (.int .u64 0), (.int .i64 0), (.int .i64 0), (.int .u64 0), (.bool false), (.int .i64 0), (.slice none 0 0)]) 80 rfl Try.underlying22 info38 rfl (by decide) (by omega) v164 y163 y166 _ _ _ (fun k_ => (P0_ k_ ∨ w.heap.size ≤ k_) ∧ some k_ ≠ (v153 : Value).ownBlock) (fun k_ => ((fun k_ => (P0_ k_ ∨ w.heap.size ≤ k_) ∧ some k_ ≠ (v153 : Value).ownBlock)) k_ ∧ some k_ ≠ (v164 : Value).ownBlock) rfl rfl ?aO ?aR (fun _ hk => hk) ?aF ?aB ?aS ?aL ?_
                                (case aR => exact (by skip; exact Kd.V_F (Kd.V_mono (ok' := (fun k_ => ((fun k_ => (P0_ k_ ∨ w.heap.size ≤ k_) ∧ some k_ ≠ (v153 : Value).ownBlock)) k_ ∧ some k_ ≠ (v164 : Value).ownBlock)) (HO170.out) (fun k_ hk => ⟨⟨hk.1.1, hk.1.2⟩, hk.2⟩))))
                                (case aB => exact (by repeat (first | (with_reducible first | exact HB.out | apply below_alloc | apply pw_below_drewN | apply below_drew1) | exact HB.out)))
                                (case aF => exact (fun k_ hk => ⟨(.inr (Nat.le_trans (below_size (by repeat (first | (with_reducible first | exact HB.out | apply below_alloc | apply pw_below_drewN | apply below_drew1) | exact HB.out))) hk)), Kd.fresh' (Kd.R_lt (by (with_reducible repeat (first | apply Kd.R_alloc | apply Kd.R_drewN | apply Kd.R_drew)); exact HO154.out)) k_ hk⟩))
                                (case aO => exact (by (with_reducible repeat (first | apply Kd.N_alloc | apply Kd.N_drewN | apply Kd.N_drew)); exact HO165.out))
                                (case aS => exact (below_size (by repeat (first | (with_reducible first | exact HB.out | apply below_alloc | apply pw_below_drewN | apply below_drew1) | exact HB.out))))
                                (case aL => have := LMc29.out; omega)
                                intro v172 w37 ho hb hg hat
                                rw [← Ny171.out] at ho
                                have n0_ := Aside0.mk (Kd.V_afterv (ok := (fun k_ => (P0_ k_ ∨ w.heap.size ≤ k_) ∧ some k_ ≠ (v153 : Value).ownBlock)) (by (with_reducible repeat (first | apply Kd.V_alloc | apply Kd.V_drewN | apply Kd.V_drew)); exact HO_8.out) hg hat)
                                have n1_ := Aside0.mk (Kd.V_afterv (ok := (fun k_ => (P0_ k_ ∨ w.heap.size ≤ k_) ∧ some k_ ≠ (v153 : Value).ownBlock)) (by (with_reducible repeat (first | apply Kd.V_alloc | apply Kd.V_drewN | apply Kd.V_drew)); exact HL151_7.out) hg hat)
                                have n2_ := Aside0.mk (Kd.R_over' (by (with_reducible repeat (first | apply Kd.R_alloc | apply Kd.R_drewN | apply Kd.R_drew)); exact HO154.out) (Kd.N_typed (by (with_reducible repeat (first | apply Kd.N_alloc | apply Kd.N_drewN | apply Kd.N_drew)); exact HO165.out)) (by decide) hg)
                                have n3_ := Aside0.mk (Kd.V_afterv (ok := (fun k_ => (P0_ k_ ∨ w.heap.size ≤ k_) ∧ some k_ ≠ (v153 : Value).ownBlock)) (by (with_reducible repeat (first | apply Kd.V_alloc | apply Kd.V_drewN | apply Kd.V_drew)); exact HO162.out) hg hat)
                                have n4_ := Aside0.mk (Kd.V_afterv (ok := (fun k_ => (P0_ k_ ∨ w.heap.size ≤ k_) ∧ some k_ ≠ (v153 : Value).ownBlock)) (by (with_reducible repeat (first | apply Kd.V_alloc | apply Kd.V_drewN | apply Kd.V_drew)); exact HO170.out) hg hat)
                                have n5_ := Aside0.mk (hb)
                                have n6_ := Aside0.mk (ho)
                                clear HO_8
                                clear HL151_7
                                clear HO154
                                clear HO162
                                clear HO170
                                clear HB
                                clear HO165
                                have HO_8 := n0_
                                have HL151_7 := n1_
                                have HO154 := n2_
                                have HO162 := n3_
                                have HO170 := n4_
                                have HB := n5_
                                have HO173 := n6_
                                clear n0_ n1_ n2_ n3_ n4_ n5_ n6_
                                clear ho hb hg hat
                                refine hK.out _ _ trivial (fun hHeld => ?_)
                                clear hK K
                                refine norm_ (a' := ?_) ?_ ?_
                                rotate_left
                                · show Act.put _ (some 53) _ = _
                                  simp only [Act.put, List.setIfInBounds_toArray, List.set_cons_zero, List.set_cons_succ, i64_w, i32_w]
                                  rfl
                                refine pure_ (i := 10) (N := some 8) (v := ?_) (a' := ?_) #[true, true, true, true, true, true, true, true, true, true, true] rfl rfl (any_of HT_.out (by kernel_rfl)) (fun _ _ _ h => h) (Or.inl ⟨by rfl, ?_⟩) ?_ ?_
                                rotate_left
                                · intro w'
                                  go_simp
                                  with_reducible rfl
                                rotate_left
                                · simp only [Act.put, List.setIfInBounds_toArray, List.set_cons_zero, List.set_cons_succ, i64_w, i32_w]
                                  rfl
                                refine done_ (done_of HT_.out (by kernel_rfl)) ?_
                                try go_wp2
                                go_roundg k2
                                case measure => have := HK1.out; have := HK2.out; omega
                                case rel => exact ⟨(y152), (y171), H', ⟨by have := HK1.out; have := HK2.out; omega⟩, ⟨by (with_reducible repeat (first | apply Kd.R_alloc | apply Kd.R_drewN | apply Kd.R_drew)); exact HO154.out⟩, ⟨Kd.N_V (by (with_reducible repeat (first | apply Kd.N_alloc | apply Kd.N_drewN | apply Kd.N_drew)); exact HO173.out)⟩, ⟨by repeat (first | (with_reducible first | exact HB.out | apply below_alloc | apply pw_below_drewN | apply below_drew1) | exact HB.out)⟩⟩
                              · rw [if_neg c29] at H
                                exact absurd H (by simp)
                            · rw [if_neg c28] at H
                              exact absurd H (by simp)
                          · rw [if_neg c27] at H
                            exact absurd H (by simp)
                        · rw [if_neg c25] at H
                          exact absurd H (by simp)
                      · rw [if_neg c24] at H
                        exact absurd H (by simp)
                    · rw [if_neg c22] at H
                      exact absurd H (by simp)
                  · rw [if_neg c21] at H
                    exact absurd H (by simp)
                · rw [if_neg c20] at H
                  exact absurd H (by simp)

end Go.Proofs.Ytndhjjlicfoiaaa.Hp
