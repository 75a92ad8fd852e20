/- 'GeomPlaces': for any sides, any place and any number, the page's number and the page of a number are the document's. -/
import Derived.Test.YtmlkkdopogcggaaHpQGeomPlaces
import Derived.Test.YtmlkkdopogcggaaPureGeomPages
namespace Go.Proofs.Ytmlkkdopogcggaa.Pure
set_option linter.unusedVariables false
open Go.RowKit Go.Proofs.Ytmlkkdopogcggaa.Hp Go.Proofs.YtmlkkdopogcggaaW.PrintWords Go.Proofs.YtmlkkdopogcggaaW.PrintLast

def rightG (a b c : Int) : Prop := 8 ≤ a ∧ a ≤ 34 ∧ 4 ≤ b ∧ b ≤ 32 ∧ 0 ≤ c ∧ c ≤ 8
instance (a b c : Int) : Decidable (rightG a b c) := by unfold rightG; exact inferInstance
theorem check_is (a b c : Int) : geom_Check.f a b c = some (if rightG a b c then 0 else 3) := by
  unfold geom_Check.f within rightG
  by_cases h1 : 8 ≤ a <;> by_cases h2 : a ≤ 34 <;> by_cases h3 : 4 ≤ b <;> by_cases h4 : b ≤ 32 <;> by_cases h5 : 0 ≤ c <;> by_cases h6 : c ≤ 8 <;> simp [h1, h2, h3, h4, h5, h6]
theorem right_is (a b c : Int) : wagtailref13_Right.f a b c = some (decide (rightG a b c)) := by
  unfold wagtailref13_Right.f rightG
  by_cases h1 : 8 ≤ a <;> by_cases h2 : a ≤ 34 <;> by_cases h3 : 4 ≤ b <;> by_cases h4 : b ≤ 32 <;> by_cases h5 : 0 ≤ c <;> by_cases h6 : c ≤ 8 <;> simp [h1, h2, h3, h4, h5, h6]
theorem mul_small {a b : Int} (h0 : 0 ≤ a) (h1 : a ≤ 34) (h2 : 0 ≤ b) (h3 : b ≤ 32) : 0 ≤ a * b ∧ a * b ≤ 1088 := by
  constructor
  · exact Int.mul_nonneg h0 h2
  · have := Int.mul_le_mul h1 h3 h2 (by omega : (0 : Int) ≤ 34)
    omega
theorem wsmall {x : Int} (h : 0 ≤ x ∧ x ≤ 100000) : wrap64 x = x := by unfold wrap64; omega
theorem place_is (a b c x y : Int) (hr : rightG a b c) : geom_Place.f a b c x y = some (if 0 ≤ x ∧ x < a ∧ 0 ≤ y ∧ y < b then x * b + y else -1) := by
  unfold geom_Place.f
  rw [check_is, if_pos hr]
  unfold rightG at hr
  simp only [Option.bind_some, if_true]
  by_cases h1 : x < 0
  · rw [if_pos h1, if_neg (by omega)]
  · rw [if_neg h1]
    by_cases h2 : x ≥ a
    · rw [if_pos h2, if_neg (by omega)]
    · rw [if_neg h2]
      by_cases h3 : y < 0
      · rw [if_pos h3, if_neg (by omega)]
      · rw [if_neg h3]
        by_cases h4 : y ≥ b
        · rw [if_pos h4, if_neg (by omega)]
        · rw [if_neg h4, if_pos (by omega)]
          have := mul_small (a := x) (b := b) (by omega) (by omega) (by omega) (by omega)
          rw [wsmall (x := x * b) (by omega), wsmall (by omega)]
theorem place_not (a b c x y : Int) (hr : ¬ rightG a b c) : geom_Place.f a b c x y = some (-1) := by
  unfold geom_Place.f
  rw [check_is, if_neg hr]
  rfl
theorem at_not (a b c i : Int) (hr : ¬ rightG a b c) : geom_At.f a b c i = some (0, 0, 3) := by
  unfold geom_At.f
  rw [check_is, if_neg hr]
  rfl
theorem at_is (a b c i : Int) (hr : rightG a b c) : geom_At.f a b c i = some (if 0 ≤ i ∧ i < a * b then (i / b, i % b, 0) else (0, 0, 3)) := by
  unfold geom_At.f
  rw [check_is, if_pos hr]
  unfold rightG at hr
  simp only [Option.bind_some, if_true]
  have hm := mul_small (a := a) (b := b) (by omega) (by omega) (by omega) (by omega)
  rw [wsmall (x := a * b) (by omega)]
  by_cases h1 : i < 0
  · rw [if_pos h1, if_neg (by omega)]
  · rw [if_neg h1]
    by_cases h2 : i ≥ a * b
    · rw [if_pos h2, if_neg (by omega)]
    · rw [if_neg h2, if_neg (by omega), if_pos (by omega)]
      rw [Int.tdiv_eq_ediv_of_nonneg (by omega), Int.tmod_eq_emod_of_nonneg (by omega)]
      have h5 : 0 ≤ i / b := Int.ediv_nonneg (by omega) (by omega)
      have h6 : i / b ≤ i := Int.ediv_le_self b (by omega)
      rw [wsmall (by omega)]
theorem j1_true (a b c i : Int) (hr : rightG a b c) (r : Int × Int × Int) (hq : r = (if 0 ≤ i ∧ i < a * b then (i / b, i % b, 0) else (0, 0, 3))) : wagtaillaw13_GeomPlaces.j1 60 i r.2.2 a b c r.1 r.2.1 = some true := by
  have hA := mono_le wagtaillaw13_awake.mono geom_awake
  have hr' := hr
  unfold rightG at hr'
  have hm := mul_small (a := a) (b := b) (by omega) (by omega) (by omega) (by omega)
  simp only [wagtaillaw13_GeomPlaces.j1]
  rw [wsmall (x := a * b) (by omega)]
  by_cases h1 : i < 0
  · rw [if_neg (by omega)] at hq
    subst hq
    rw [if_pos h1]
    simp only [wagtaillaw13_GeomPlaces.j2]
    rw [if_pos trivial, hA 58 (by omega)]
    rfl
  · rw [if_neg h1]
    by_cases h2 : i ≥ a * b
    · rw [if_neg (by omega)] at hq
      subst hq
      rw [decide_eq_true h2]
      simp only [wagtaillaw13_GeomPlaces.j2]
      rw [if_pos trivial, hA 58 (by omega)]
      rfl
    · rw [if_pos (by omega)] at hq
      subst hq
      rw [decide_eq_false h2]
      simp only [wagtaillaw13_GeomPlaces.j2]
      rw [if_neg (by simp), hA 58 (by omega)]
      have h5 : 0 ≤ i / b := Int.ediv_nonneg (by omega) (by omega)
      have h6 : i / b ≤ i := Int.ediv_le_self b (by omega)
      have h7 : 0 ≤ i % b := Int.emod_nonneg _ (by omega)
      have h8 : i % b < b := Int.emod_lt_of_pos _ (by omega)
      have h9 : i / b * b + i % b = i := by have := Int.mul_ediv_add_emod i b; rw [Int.mul_comm] at this; exact this
      have h10 : i / b * b ≤ i := by omega
      have h11 : 0 ≤ i / b * b := Int.mul_nonneg h5 (by omega)
      simp only [Option.bind_some, if_true]
      rw [wsmall (x := i / b * b) (by omega), h9, wsmall (by omega), if_pos rfl, if_pos h7, decide_eq_true h8]
theorem GeomPlaces : wagtaillaw13_GeomPlaces.Pure := by
  intro g p i hg hp hi
  refine ⟨61, ?_⟩
  obtain ⟨a, b, c⟩ := g
  obtain ⟨x, y⟩ := p
  have hA := mono_le wagtaillaw13_awake.mono geom_awake
  show wagtaillaw13_GeomPlaces.f 61 a b c x y i = some true
  unfold wagtaillaw13_GeomPlaces.f
  by_cases hr : rightG a b c
  · rw [place_is _ _ _ _ _ hr, at_is _ _ _ _ hr, right_is, decide_eq_true hr]
    have hJ := j1_true a b c i hr _ rfl
    generalize (if 0 ≤ i ∧ i < a * b then (i / b, i % b, (0 : Int)) else (0, 0, 3)) = r at hJ ⊢
    simp only [Option.bind_some, if_true]
    have hr' := hr
    unfold rightG at hr'
    by_cases hin : 0 ≤ x ∧ x < a ∧ 0 ≤ y ∧ y < b
    · rw [if_pos hin, if_pos (show x ≥ 0 by omega), if_pos (by omega), if_pos (show y ≥ 0 by omega), decide_eq_true (by omega)]
      have hm := mul_small (a := a) (b := b) (by omega) (by omega) (by omega) (by omega)
      have hx := mul_small (a := x) (b := b) (by omega) (by omega) (by omega) (by omega)
      have hlt : x * b + y < a * b := by
        have h1 : (x + 1) * b ≤ a * b := Int.mul_le_mul_of_nonneg_right (by omega) (by omega)
        rw [Int.add_mul, Int.one_mul] at h1
        omega
      simp only [wagtaillaw13_GeomPlaces.j0]
      rw [if_pos trivial, at_is _ _ _ _ hr, if_pos ⟨by omega, hlt⟩]
      simp only [Option.bind_some, if_true]
      have e1 : (x * b + y) / b = x := by
        rw [Int.add_comm, Int.add_mul_ediv_right _ _ (by omega), Int.ediv_eq_zero_of_lt (by omega) (by omega), Int.zero_add]
      have e2 : (x * b + y) % b = y := by
        rw [Int.add_comm, Int.add_mul_emod_self_right, Int.emod_eq_of_lt (by omega) (by omega)]
      rw [wsmall (x := x * b) (by omega), wsmall (x := x * b + y) (by omega), if_pos rfl, e1, e2, if_neg (by simp)]
      exact hJ
    · rw [if_neg hin]
      have hj0 : wagtaillaw13_GeomPlaces.j0 61 i (-1) r.2.2 false a b c x y r.1 r.2.1 = some true := by
        simp only [wagtaillaw13_GeomPlaces.j0]
        rw [if_neg (by simp), if_pos trivial]
        exact hJ
      by_cases h1 : x ≥ 0
      · rw [if_pos h1]
        by_cases h2 : x < a
        · rw [if_pos h2]
          by_cases h3 : y ≥ 0
          · rw [if_pos h3, decide_eq_false (by omega)]
            exact hj0
          · rw [if_neg h3]; exact hj0
        · rw [if_neg h2]; exact hj0
      · rw [if_neg h1]; exact hj0
  · rw [place_not _ _ _ _ _ hr, at_not _ _ _ _ hr, right_is, decide_eq_false hr, hA 61 (by omega)]
    rfl
end Go.Proofs.Ytmlkkdopogcggaa.Pure
