import Derived.Test.YtnopjcakilfepaaHpQQueueOrders
import Derived.OpenShut
namespace Go.Proofs.Ytnopjcakilfepaa.Pure
set_option linter.unusedVariables false
open Go.RowKit Go.Proofs.Ytnopjcakilfepaa.Hp Go.Proofs.YtnopjcakilfepaaW.PrintWords Go.Proofs.YtnopjcakilfepaaW.PrintLast
theorem QueueOrders : wagtaillaw30_QueueOrders.Pure := by
  intro l hl
  exact ⟨0, if_pos hl.1⟩
end Go.Proofs.Ytnopjcakilfepaa.Pure
