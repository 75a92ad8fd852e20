-- Laid by this workplace's own program hprint.py (functions marked by hand are ours; the others are printed out of the translation). Not trusted: Lean checks it.
import Derived.Test.YtndhjjlicfoiaaaHp0
import Derived.Test.YtndhjjlicfoiaaaAW
namespace Go.Proofs.Ytndhjjlicfoiaaa.Hp
open Go.RowKit Go.Proofs.YtndhjjlicfoiaaaW.PrintWords Go.Proofs.YtndhjjlicfoiaaaW.PrintLast Go.Proofs.YtndhjjlicfoiaaaW.PrintMore
attribute [local go_sem] max2_int min2_int max_two min_two max_three min_three max_four min_four   -- for this text's walks alone
set_option linter.unusedVariables false
set_option linter.unusedSimpArgs false

/-! ### wagtaillaw28_awake: function 7 -/
-- a function whose text and proof are by hand
-- IMPORT AW
def wagtaillaw28_awake.f : Option Bool := some true
set_option maxHeartbeats 8000000 in
set_option maxRecDepth 100000 in
theorem wagtaillaw28_awake.calls  (r : Bool) (w : World) (h : wagtaillaw28_awake.f  = some r) :
    Calls Try.prog 7 #[] w fun e w' => e = .returned (.bool r) ∧ Below w.heap.size w w' := by
  obtain rfl := Option.some.inj h
  exact QS.awake_calls w

end Go.Proofs.Ytndhjjlicfoiaaa.Hp
