-- Laid by this workplace's own program hprint.py (functions marked by hand are ours; the others are printed out of the translation). Not trusted: Lean checks it.
import Derived.Test.YtnchdmidaigheaaHp0
namespace Go.Proofs.Ytnchdmidaigheaa.Hp
open Go.RowKit Go.Proofs.YtnchdmidaigheaaW.PrintWords Go.Proofs.YtnchdmidaigheaaW.PrintLast Go.Proofs.YtnchdmidaigheaaW.PrintMore
attribute [local go_sem] max2_int min2_int max_two min_two max_three min_three max_four min_four   -- for this text's walks alone
set_option linter.unusedVariables false
set_option linter.unusedSimpArgs false

/-! ### geom_Check: function 60 -/
-- a function whose text and proof are by hand
def geom_Check.f (a b c : Int) : Option Int := some (if within a 8 34 && (within b 4 32 && within c 0 8) then 0 else 3)
theorem geom_Check.within_calls (n a b : Int) (r : Bool) (w : World) (h : within n a b = r) : Calls Try.prog 101 #[.int .i64 n, .int .i64 a, .int .i64 b] w fun e w' => e = .returned (.bool r) ∧ Drawn0 w w' := by
  unfold within at h
  subst h
  by_cases h1 : a ≤ n <;> by_cases h2 : n ≤ b
  all_goals
    go_enter Try.func101, Try.ntmps101
    go_wp2
    go_ret
    exact ⟨by simp [h1, h2], Drawn0.refl _⟩
set_option maxHeartbeats 8000000 in
set_option maxRecDepth 100000 in
theorem geom_Check.calls (a0_0 : Int) (a0_1 : Int) (a0_2 : Int) (r : Int) (w : World) (h : geom_Check.f a0_0 a0_1 a0_2 = some r) :
    Calls Try.prog 60 #[.agg #[.int .i64 a0_0, .int .i64 a0_1, .int .i64 a0_2]] w fun e w' => e = .returned (.int .i64 r) ∧ Below w.heap.size w w' := by
  have h := Option.some.inj h
  obtain ⟨b1, h1⟩ : ∃ b, within a0_0 8 34 = b := ⟨_, rfl⟩
  obtain ⟨b2, h2⟩ : ∃ b, within a0_1 4 32 = b := ⟨_, rfl⟩
  obtain ⟨b3, h3⟩ : ∃ b, within a0_2 0 8 = b := ⟨_, rfl⟩
  rw [h1, h2, h3] at h
  have H1 := Aside0.mk h1
  have H2 := Aside0.mk h2
  have H3 := Aside0.mk h3
  clear h1 h2 h3
  cases b1 <;> cases b2 <;> cases b3 <;> simp only [Bool.false_and, Bool.true_and, Bool.and_false, Bool.and_true, if_true, Bool.false_eq_true, if_false] at h <;> subst h
  all_goals
    go_enter Try.func60, Try.ntmps60
    go_wp2_with ((go_at_call 101); (first | (with_reducible refine (geom_Check.within_calls a0_0 8 34 _ _ H1.out).mono ?_) | (with_reducible refine (geom_Check.within_calls a0_1 4 32 _ _ H2.out).mono ?_) | (with_reducible refine (geom_Check.within_calls a0_2 0 8 _ _ H3.out).mono ?_)); rintro e w' ⟨rfl, ⟨n, rfl⟩⟩)
    go_ret
    exact ⟨rfl, by repeat (first | exact Below.refl _ _ | apply below_alloc | apply pw_below_drewN | apply below_drew1)⟩

end Go.Proofs.Ytnchdmidaigheaa.Hp
