import Derived.Test.YtnopjcakilfepaaHpQCursorEnds
import Derived.OpenShut
namespace Go.Proofs.Ytnopjcakilfepaa.Pure
set_option linter.unusedVariables false
open Go.RowKit Go.Proofs.Ytnopjcakilfepaa.Hp Go.Proofs.YtnopjcakilfepaaW.PrintWords Go.Proofs.YtnopjcakilfepaaW.PrintLast
theorem CursorEnds : wagtaillaw33_CursorEnds.Pure := by
  intro l hl
  exact ⟨0, if_pos hl.1⟩
end Go.Proofs.Ytnopjcakilfepaa.Pure
