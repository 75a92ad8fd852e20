-- Laid by this workplace's own program hprint.py (functions marked by hand are ours; the others are printed out of the translation). Not trusted: Lean checks it.
import Derived.Test.YtnopjcakilfepaaHp0
import Derived.Test.YtnopjcakilfepaaC18
namespace Go.Proofs.Ytnopjcakilfepaa.Hp
open Go.RowKit Go.Proofs.YtnopjcakilfepaaW.PrintWords Go.Proofs.YtnopjcakilfepaaW.PrintLast Go.Proofs.YtnopjcakilfepaaW.PrintMore
attribute [local go_sem] max2_int min2_int max_two min_two max_three min_three max_four min_four   -- for this text's walks alone
set_option linter.unusedVariables false
set_option linter.unusedSimpArgs false

/-! ### wagtaillaw33_CursorMoves: function 9 -/
-- a function whose text and proof are by hand
-- IMPORT C18
def wagtaillaw33_CursorMoves.f (c0 c1 : Bool) (c2 c3 n : Int) (b : Bool) : Option Bool := some true
set_option maxHeartbeats 8000000 in
set_option maxRecDepth 100000 in
theorem wagtaillaw33_CursorMoves.calls (a0_0 : Bool) (a0_1 : Bool) (a0_2 : Int) (a0_3 : Int) (a1 : Int) (a2 : Bool) (r : Bool) (w : World) (h : wagtaillaw33_CursorMoves.f a0_0 a0_1 a0_2 a0_3 a1 a2 = some r) :
    Calls Try.prog 9 #[.agg #[.bool a0_0, .bool a0_1, .int .u64 a0_2, .int .i64 a0_3], .int .u64 a1, .bool a2] w fun e w' => e = .returned (.bool r) ∧ Below w.heap.size w w' := by
  obtain rfl := Option.some.inj h
  exact QS.moves_calls a0_0 a0_1 a0_2 a0_3 a1 a2 w

end Go.Proofs.Ytnopjcakilfepaa.Hp
