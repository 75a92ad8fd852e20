import Derived.Test.YtnopjcakilfepaaHpQQueueAhead
import Derived.OpenShut
namespace Go.Proofs.Ytnopjcakilfepaa.Pure
set_option linter.unusedVariables false
open Go.RowKit Go.Proofs.Ytnopjcakilfepaa.Hp Go.Proofs.YtnopjcakilfepaaW.PrintWords Go.Proofs.YtnopjcakilfepaaW.PrintLast
theorem QueueAhead : wagtaillaw30_QueueAhead.Pure := by
  intro l a b hl _ _
  exact ⟨0, if_pos hl.1⟩
end Go.Proofs.Ytnopjcakilfepaa.Pure
