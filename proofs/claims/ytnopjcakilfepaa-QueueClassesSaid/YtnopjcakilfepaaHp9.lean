-- Laid by this workplace's own program hprint.py (functions marked by hand are ours; the others are printed out of the translation). Not trusted: Lean checks it.
import Derived.Test.YtnopjcakilfepaaHp0
import Derived.Test.YtnopjcakilfepaaC11
namespace Go.Proofs.Ytnopjcakilfepaa.Hp
open Go.RowKit Go.Proofs.YtnopjcakilfepaaW.PrintWords Go.Proofs.YtnopjcakilfepaaW.PrintLast Go.Proofs.YtnopjcakilfepaaW.PrintMore
attribute [local go_sem] max2_int min2_int max_two min_two max_three min_three max_four min_four   -- for this text's walks alone
set_option linter.unusedVariables false
set_option linter.unusedSimpArgs false

/-! ### wagtaillaw30_QueueClasses: function 4 -/
-- a function whose text and proof are by hand
-- IMPORT C11
def wagtaillaw30_QueueClasses.f (l : List S29) (p : Int) : Option Bool := if l.length ≤ 9223372036854775807 then some true else none
set_option maxHeartbeats 8000000 in
set_option maxRecDepth 100000 in
theorem wagtaillaw30_QueueClasses.calls (A0 : Option Addr) (c0 : Nat) (l0 : List (S29)) (a1 : Int) (r : Bool) (w : World) (hr0 : Kd.C k29 w A0 l0.length l0) (hc0 : l0.length ≤ c0) (h : wagtaillaw30_QueueClasses.f l0 a1 = some r) :
    Calls Try.prog 4 #[.slice A0 l0.length c0, .int .i64 a1] w fun e w' => e = .returned (.bool r) ∧ Below w.heap.size w w' := by
  unfold wagtaillaw30_QueueClasses.f at h
  by_cases hc : l0.length ≤ 9223372036854775807
  case neg => rw [if_neg hc] at h; cases h
  rw [if_pos hc] at h
  obtain rfl := Option.some.inj h
  exact QS.classes_law l0 a1 A0 c0 hc0 hc w hr0

end Go.Proofs.Ytnopjcakilfepaa.Hp
