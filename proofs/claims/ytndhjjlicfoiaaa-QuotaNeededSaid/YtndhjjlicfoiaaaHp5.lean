-- Laid by this workplace's own program hprint.py (functions marked by hand are ours; the others are printed out of the translation). Not trusted: Lean checks it.
import Derived.Test.YtndhjjlicfoiaaaHp0
import Derived.Test.YtndhjjlicfoiaaaND
namespace Go.Proofs.Ytndhjjlicfoiaaa.Hp
open Go.RowKit Go.Proofs.YtndhjjlicfoiaaaW.PrintWords Go.Proofs.YtndhjjlicfoiaaaW.PrintLast Go.Proofs.YtndhjjlicfoiaaaW.PrintMore
attribute [local go_sem] max2_int min2_int max_two min_two max_three min_three max_four min_four   -- for this text's walks alone
set_option linter.unusedVariables false
set_option linter.unusedSimpArgs false

/-! ### quota_Needed: function 15 -/
-- a function whose text and proof are by hand
-- IMPORT ND
def quota_Needed.f (l : List S38) (n b : Int) : Option (List Int) := if l.length ≤ 1000 ∧ (∀ x ∈ l, -9223372036854775808 ≤ x.f3 ∧ x.f3 ≤ 100000) then some (QS.neededOf l n b) else none
set_option maxHeartbeats 8000000 in
set_option maxRecDepth 100000 in
theorem quota_Needed.calls (A0 : Option Addr) (c0 : Nat) (l0 : List (S38)) (a1 : Int) (a2 : Int) (r : List Int) (w : World) (hr0 : Kd.C k38 w A0 l0.length l0) (hc0 : l0.length ≤ c0) (h : quota_Needed.f l0 a1 a2 = some r) :
    Calls Try.prog 15 #[.slice A0 l0.length c0, .int .i64 a1, .int .i64 a2] w fun e w' => ∃ v0_ : Value, e = .returned (v0_) ∧ Kd.R (Kd.int .u64) 35 w' w.heap.size (fun _ => True) v0_ r ∧ Below w.heap.size w w' := by
  unfold quota_Needed.f at h
  by_cases hc : l0.length ≤ 1000 ∧ (∀ x ∈ l0, -9223372036854775808 ≤ x.f3 ∧ x.f3 ≤ 100000)
  case neg => rw [if_neg hc] at h; cases h
  rw [if_pos hc] at h
  obtain rfl := Option.some.inj h
  refine (QS.needed_calls l0 hc A0 c0 hc0 a1 a2 w hr0).mono ?_
  rintro e w' ⟨v, rfl, h1, h2⟩
  exact ⟨v, rfl, Kd.R_mono h1 (fun _ _ => trivial), h2⟩

end Go.Proofs.Ytndhjjlicfoiaaa.Hp
