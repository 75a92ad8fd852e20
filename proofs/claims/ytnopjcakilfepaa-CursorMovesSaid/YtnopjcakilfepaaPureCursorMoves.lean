/- 'CursorMoves': any cursor paused, and when a bundle is gone. -/
import Derived.Test.YtnopjcakilfepaaHpQCursorMoves
import Derived.OpenShut
namespace Go.Proofs.Ytnopjcakilfepaa.Pure
set_option linter.unusedVariables false
open Go.RowKit Go.Proofs.Ytnopjcakilfepaa.Hp Go.Proofs.YtnopjcakilfepaaW.PrintWords Go.Proofs.YtnopjcakilfepaaW.PrintLast
theorem CursorMoves : wagtaillaw33_CursorMoves.Pure := by
  intro x n b _ _
  exact ⟨0, rfl⟩
end Go.Proofs.Ytnopjcakilfepaa.Pure
