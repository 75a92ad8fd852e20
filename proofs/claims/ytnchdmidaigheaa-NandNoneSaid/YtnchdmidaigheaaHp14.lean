-- Laid by this workplace's own program hprint.py (functions marked by hand are ours; the others are printed out of the translation). Not trusted: Lean checks it.
import Derived.Test.YtnchdmidaigheaaHp0
import Derived.Test.YtnchdmidaigheaaD13
namespace Go.Proofs.Ytnchdmidaigheaa.Hp
open Go.RowKit Go.Proofs.YtnchdmidaigheaaW.PrintWords Go.Proofs.YtnchdmidaigheaaW.PrintLast Go.Proofs.YtnchdmidaigheaaW.PrintMore
attribute [local go_sem] max2_int min2_int max_two min_two max_three min_three max_four min_four   -- for this text's walks alone
set_option linter.unusedVariables false
set_option linter.unusedSimpArgs false

/-! ### wagtaillaw14_NandNone: function 5 -/
-- a function whose text and proof are by hand
-- IMPORT D13
def wagtaillaw14_NandNone.f (p0 p1 : Int) (l : List Int) : Option Bool := some true
set_option maxHeartbeats 8000000 in
set_option maxRecDepth 100000 in
theorem wagtaillaw14_NandNone.calls (a0_0 : Int) (a0_1 : Int) (A1 : Option Addr) (c1 : Nat) (l1 : List Int) (r : Bool) (w : World) (hr1 : Kd.C (Kd.int .u8) w A1 l1.length l1) (hc1 : l1.length ≤ c1) (h : wagtaillaw14_NandNone.f a0_0 a0_1 l1 = some r) :
    Calls Try.prog 5 #[.agg #[.int .i64 a0_0, .int .i64 a0_1], .slice A1 l1.length c1] w fun e w' => e = .returned (.bool r) ∧ Below w.heap.size w w' := by
  obtain rfl := Option.some.inj h
  exact ND.none_calls a0_0 a0_1 A1 l1.length c1 w

end Go.Proofs.Ytnchdmidaigheaa.Hp
