-- Laid by this workplace's own program hprint.py (functions marked by hand are ours; the others are printed out of the translation). Not trusted: Lean checks it.
import Derived.Test.YtmlkkdopogcggaaHp0
namespace Go.Proofs.Ytmlkkdopogcggaa.Hp
open Go.RowKit Go.Proofs.YtmlkkdopogcggaaW.PrintWords Go.Proofs.YtmlkkdopogcggaaW.PrintLast Go.Proofs.YtmlkkdopogcggaaW.PrintMore
attribute [local go_sem] max2_int min2_int max_two min_two max_three min_three max_four min_four   -- for this text's walks alone
set_option linter.unusedVariables false
set_option linter.unusedSimpArgs false

/-! ### page_Check: function 39 -/
-- a function whose text and proof are by hand
def page_Check.f (k i c b o l n : Int) : Option Int := some (if headMay k i c b o l n then 0 else 3)
theorem page_Check.within_calls (n a b : Int) (r : Bool) (w : World) (h : within n a b = r) : Calls Try.prog 63 #[.int .i64 n, .int .i64 a, .int .i64 b] w fun e w' => e = .returned (.bool r) ∧ Drawn0 w w' := by
  unfold within at h
  subst h
  by_cases h1 : a ≤ n <;> by_cases h2 : n ≤ b
  all_goals
    go_enter Try.func63, Try.ntmps63
    go_wp2
    go_ret
    exact ⟨by simp [h1, h2], Drawn0.refl _⟩
set_option maxHeartbeats 8000000 in
set_option maxRecDepth 100000 in
theorem page_Check.calls (a0_0 : Int) (a0_1 : Int) (a0_2 : Int) (a0_3 : Int) (a0_4 : Int) (a0_5 : Int) (a0_6 : Int) (r : Int) (w : World) (h : page_Check.f a0_0 a0_1 a0_2 a0_3 a0_4 a0_5 a0_6 = some r) :
    Calls Try.prog 39 #[.agg #[.int .i64 a0_0, .int .i64 a0_1, .int .i64 a0_2, .int .u64 a0_3, .int .u64 a0_4, .int .i64 a0_5, .int .i64 a0_6]] w fun e w' => e = .returned (.int .i64 r) ∧ Below w.heap.size w w' := by
  have h := Option.some.inj h
  by_cases h1 : within a0_0 1 5 = true
  case neg =>
    have h1 : within a0_0 1 5 = false := by simpa using h1
    have hm : headMay a0_0 a0_1 a0_2 a0_3 a0_4 a0_5 a0_6 = false := by unfold headMay; skip; simp [h1]
    rw [hm] at h
    simp only [Bool.false_eq_true, if_false] at h
    subst h
    have H1 := Aside0.mk h1
    clear hm h1
    go_enter Try.func39, Try.ntmps39
    go_wp2_with ((go_at_call 63); (first | (with_reducible refine (page_Check.within_calls a0_0 1 5 _ _ H1.out).mono ?_)); rintro e w' ⟨rfl, ⟨n, rfl⟩⟩)
    go_ret
    exact ⟨rfl, by repeat (first | exact Below.refl _ _ | apply below_alloc | apply pw_below_drewN | apply below_drew1)⟩
  by_cases h2 : within a0_2 1 16 = true
  case neg =>
    have h2 : within a0_2 1 16 = false := by simpa using h2
    have hm : headMay a0_0 a0_1 a0_2 a0_3 a0_4 a0_5 a0_6 = false := by unfold headMay; skip; simp [h1, h2]
    rw [hm] at h
    simp only [Bool.false_eq_true, if_false] at h
    subst h
    have H1 := Aside0.mk h1
    have H2 := Aside0.mk h2
    clear hm h1 h2
    go_enter Try.func39, Try.ntmps39
    go_wp2_with ((go_at_call 63); (first | (with_reducible refine (page_Check.within_calls a0_0 1 5 _ _ H1.out).mono ?_) | (with_reducible refine (page_Check.within_calls a0_2 1 16 _ _ H2.out).mono ?_)); rintro e w' ⟨rfl, ⟨n, rfl⟩⟩)
    go_ret
    exact ⟨rfl, by repeat (first | exact Below.refl _ _ | apply below_alloc | apply pw_below_drewN | apply below_drew1)⟩
  by_cases h3 : within a0_1 0 (wrap64 (a0_2 - 1)) = true
  case neg =>
    have h3 : within a0_1 0 (wrap64 (a0_2 - 1)) = false := by simpa using h3
    have hm : headMay a0_0 a0_1 a0_2 a0_3 a0_4 a0_5 a0_6 = false := by unfold headMay; skip; simp [h1, h2, h3]
    rw [hm] at h
    simp only [Bool.false_eq_true, if_false] at h
    subst h
    have H1 := Aside0.mk h1
    have H2 := Aside0.mk h2
    have H3 := Aside0.mk h3
    clear hm h1 h2 h3
    go_enter Try.func39, Try.ntmps39
    go_wp2_with ((go_at_call 63); (first | (with_reducible refine (page_Check.within_calls a0_0 1 5 _ _ H1.out).mono ?_) | (with_reducible refine (page_Check.within_calls a0_2 1 16 _ _ H2.out).mono ?_) | (with_reducible refine (page_Check.within_calls a0_1 0 (wrap64 (a0_2 - 1)) _ _ H3.out).mono ?_)); rintro e w' ⟨rfl, ⟨n, rfl⟩⟩)
    go_ret
    exact ⟨rfl, by repeat (first | exact Below.refl _ _ | apply below_alloc | apply pw_below_drewN | apply below_drew1)⟩
  by_cases h4 : decide (2147483648 ≤ a0_3) = false
  case neg =>
    have h4 : decide (2147483648 ≤ a0_3) = true := by simpa using h4
    have hm : headMay a0_0 a0_1 a0_2 a0_3 a0_4 a0_5 a0_6 = false := by unfold headMay; skip; simp [h1, h2, h3, h4, show ¬ (a0_3 < 2147483648) from by have := of_decide_eq_true h4; omega]
    rw [hm] at h
    simp only [Bool.false_eq_true, if_false] at h
    subst h
    have H1 := Aside0.mk h1
    have H2 := Aside0.mk h2
    have H3 := Aside0.mk h3
    clear hm h1 h2 h3
    go_enter Try.func39, Try.ntmps39
    go_wp2_with ((go_at_call 63); (first | (with_reducible refine (page_Check.within_calls a0_0 1 5 _ _ H1.out).mono ?_) | (with_reducible refine (page_Check.within_calls a0_2 1 16 _ _ H2.out).mono ?_) | (with_reducible refine (page_Check.within_calls a0_1 0 (wrap64 (a0_2 - 1)) _ _ H3.out).mono ?_)); rintro e w' ⟨rfl, ⟨n, rfl⟩⟩)
    go_ret
    exact ⟨rfl, by repeat (first | exact Below.refl _ _ | apply below_alloc | apply pw_below_drewN | apply below_drew1)⟩
  by_cases h5 : decide (2147483648 ≤ a0_4) = false
  case neg =>
    have h5 : decide (2147483648 ≤ a0_4) = true := by simpa using h5
    have hm : headMay a0_0 a0_1 a0_2 a0_3 a0_4 a0_5 a0_6 = false := by unfold headMay; skip; simp [h1, h2, h3, h4, h5, show ¬ (a0_4 < 2147483648) from by have := of_decide_eq_true h5; omega]
    rw [hm] at h
    simp only [Bool.false_eq_true, if_false] at h
    subst h
    have H1 := Aside0.mk h1
    have H2 := Aside0.mk h2
    have H3 := Aside0.mk h3
    clear hm h1 h2 h3
    go_enter Try.func39, Try.ntmps39
    go_wp2_with ((go_at_call 63); (first | (with_reducible refine (page_Check.within_calls a0_0 1 5 _ _ H1.out).mono ?_) | (with_reducible refine (page_Check.within_calls a0_2 1 16 _ _ H2.out).mono ?_) | (with_reducible refine (page_Check.within_calls a0_1 0 (wrap64 (a0_2 - 1)) _ _ H3.out).mono ?_)); rintro e w' ⟨rfl, ⟨n, rfl⟩⟩)
    go_ret
    exact ⟨rfl, by repeat (first | exact Below.refl _ _ | apply below_alloc | apply pw_below_drewN | apply below_drew1)⟩
  by_cases h6 : within a0_5 0 65535 = true
  case neg =>
    have h6 : within a0_5 0 65535 = false := by simpa using h6
    have hm : headMay a0_0 a0_1 a0_2 a0_3 a0_4 a0_5 a0_6 = false := by unfold headMay; skip; simp [h1, h2, h3, h4, h5, h6]
    rw [hm] at h
    simp only [Bool.false_eq_true, if_false] at h
    subst h
    have H1 := Aside0.mk h1
    have H2 := Aside0.mk h2
    have H3 := Aside0.mk h3
    have H6 := Aside0.mk h6
    clear hm h1 h2 h3 h6
    go_enter Try.func39, Try.ntmps39
    go_wp2_with ((go_at_call 63); (first | (with_reducible refine (page_Check.within_calls a0_0 1 5 _ _ H1.out).mono ?_) | (with_reducible refine (page_Check.within_calls a0_2 1 16 _ _ H2.out).mono ?_) | (with_reducible refine (page_Check.within_calls a0_1 0 (wrap64 (a0_2 - 1)) _ _ H3.out).mono ?_) | (with_reducible refine (page_Check.within_calls a0_5 0 65535 _ _ H6.out).mono ?_)); rintro e w' ⟨rfl, ⟨n, rfl⟩⟩)
    go_ret
    exact ⟨rfl, by repeat (first | exact Below.refl _ _ | apply below_alloc | apply pw_below_drewN | apply below_drew1)⟩
  by_cases h7 : within a0_6 0 228 = true
  case neg =>
    have h7 : within a0_6 0 228 = false := by simpa using h7
    have hm : headMay a0_0 a0_1 a0_2 a0_3 a0_4 a0_5 a0_6 = false := by unfold headMay; skip; simp [h1, h2, h3, h4, h5, h6, h7]
    rw [hm] at h
    simp only [Bool.false_eq_true, if_false] at h
    subst h
    have H1 := Aside0.mk h1
    have H2 := Aside0.mk h2
    have H3 := Aside0.mk h3
    have H6 := Aside0.mk h6
    have H7 := Aside0.mk h7
    clear hm h1 h2 h3 h6 h7
    go_enter Try.func39, Try.ntmps39
    go_wp2_with ((go_at_call 63); (first | (with_reducible refine (page_Check.within_calls a0_0 1 5 _ _ H1.out).mono ?_) | (with_reducible refine (page_Check.within_calls a0_2 1 16 _ _ H2.out).mono ?_) | (with_reducible refine (page_Check.within_calls a0_1 0 (wrap64 (a0_2 - 1)) _ _ H3.out).mono ?_) | (with_reducible refine (page_Check.within_calls a0_5 0 65535 _ _ H6.out).mono ?_) | (with_reducible refine (page_Check.within_calls a0_6 0 228 _ _ H7.out).mono ?_)); rintro e w' ⟨rfl, ⟨n, rfl⟩⟩)
    go_ret
    exact ⟨rfl, by repeat (first | exact Below.refl _ _ | apply below_alloc | apply pw_below_drewN | apply below_drew1)⟩
  have hm : headMay a0_0 a0_1 a0_2 a0_3 a0_4 a0_5 a0_6 = true := by unfold headMay; simp [h1, h2, h3, h6, h7, show a0_3 < 2147483648 from by have := of_decide_eq_false h4; omega, show a0_4 < 2147483648 from by have := of_decide_eq_false h5; omega]
  rw [hm] at h
  simp only [if_true] at h
  subst h
  have H1 := Aside0.mk h1
  have H2 := Aside0.mk h2
  have H3 := Aside0.mk h3
  have H6 := Aside0.mk h6
  have H7 := Aside0.mk h7
  clear hm h1 h2 h3 h6 h7
  go_enter Try.func39, Try.ntmps39
  go_wp2_with ((go_at_call 63); (first | (with_reducible refine (page_Check.within_calls a0_0 1 5 _ _ H1.out).mono ?_) | (with_reducible refine (page_Check.within_calls a0_2 1 16 _ _ H2.out).mono ?_) | (with_reducible refine (page_Check.within_calls a0_1 0 (wrap64 (a0_2 - 1)) _ _ H3.out).mono ?_) | (with_reducible refine (page_Check.within_calls a0_5 0 65535 _ _ H6.out).mono ?_) | (with_reducible refine (page_Check.within_calls a0_6 0 228 _ _ H7.out).mono ?_)); rintro e w' ⟨rfl, ⟨n, rfl⟩⟩)
  go_ret
  exact ⟨rfl, by repeat (first | exact Below.refl _ _ | apply below_alloc | apply pw_below_drewN | apply below_drew1)⟩

end Go.Proofs.Ytmlkkdopogcggaa.Hp
