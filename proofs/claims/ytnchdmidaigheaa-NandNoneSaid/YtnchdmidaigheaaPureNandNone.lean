/- 'NandNone': a nil device. -/
import Derived.Test.YtnchdmidaigheaaHpQNandNone
import Derived.OpenShut
namespace Go.Proofs.Ytnchdmidaigheaa.Pure
set_option linter.unusedVariables false
open Go.RowKit Go.Proofs.Ytnchdmidaigheaa.Hp Go.Proofs.YtnchdmidaigheaaW.PrintWords Go.Proofs.YtnchdmidaigheaaW.PrintLast
theorem NandNone : wagtaillaw14_NandNone.Pure := by
  intro x l _ _
  exact ⟨0, rfl⟩
end Go.Proofs.Ytnchdmidaigheaa.Pure
