/- 'QueueClasses': those of any priority that wait, and how many. -/
import Derived.Test.YtnopjcakilfepaaHpQQueueClasses
import Derived.OpenShut
namespace Go.Proofs.Ytnopjcakilfepaa.Pure
set_option linter.unusedVariables false
open Go.RowKit Go.Proofs.Ytnopjcakilfepaa.Hp Go.Proofs.YtnopjcakilfepaaW.PrintWords Go.Proofs.YtnopjcakilfepaaW.PrintLast
theorem QueueClasses : wagtaillaw30_QueueClasses.Pure := by
  intro l p hl _
  exact ⟨0, if_pos hl.1⟩
end Go.Proofs.Ytnopjcakilfepaa.Pure
