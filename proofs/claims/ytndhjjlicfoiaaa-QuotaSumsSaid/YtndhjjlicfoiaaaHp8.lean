-- Laid by this workplace's own program hprint.py (functions marked by hand are ours; the others are printed out of the translation). Not trusted: Lean checks it.
import Derived.Test.YtndhjjlicfoiaaaHp0
import Derived.Test.YtndhjjlicfoiaaaQL
namespace Go.Proofs.Ytndhjjlicfoiaaa.Hp
open Go.RowKit Go.Proofs.YtndhjjlicfoiaaaW.PrintWords Go.Proofs.YtndhjjlicfoiaaaW.PrintLast Go.Proofs.YtndhjjlicfoiaaaW.PrintMore
attribute [local go_sem] max2_int min2_int max_two min_two max_three min_three max_four min_four   -- for this text's walks alone
set_option linter.unusedVariables false
set_option linter.unusedSimpArgs false

/-! ### wagtaillaw28_QuotaSums: function 3 -/
-- a function whose text and proof are by hand
-- IMPORT QL
def wagtaillaw28_QuotaSums.f (l : List S38) (b : Int) : Option Bool := if l.length ≤ 9223372036854775807 ∧ (∀ x ∈ l, -9223372036854775808 ≤ x.f3) then some true else none
set_option maxHeartbeats 8000000 in
set_option maxRecDepth 100000 in
theorem wagtaillaw28_QuotaSums.calls (A0 : Option Addr) (c0 : Nat) (l0 : List (S38)) (a1 : Int) (r : Bool) (w : World) (hr0 : Kd.C k38 w A0 l0.length l0) (hc0 : l0.length ≤ c0) (h : wagtaillaw28_QuotaSums.f l0 a1 = some r) :
    Calls Try.prog 3 #[.slice A0 l0.length c0, .int .i64 a1] w fun e w' => e = .returned (.bool r) ∧ Below w.heap.size w w' := by
  unfold wagtaillaw28_QuotaSums.f at h
  by_cases hc : l0.length ≤ 9223372036854775807 ∧ (∀ x ∈ l0, -9223372036854775808 ≤ x.f3)
  case neg => rw [if_neg hc] at h; cases h
  rw [if_pos hc] at h
  obtain rfl := Option.some.inj h
  exact QS.sums_calls l0 hc.2 a1 A0 c0 hc0 w hr0

end Go.Proofs.Ytndhjjlicfoiaaa.Hp
