/- The bytes of any page, or that it may not be; read they are that page. No conditions. -/
import Derived.Test.YtmlkkdopogcggaaHpQPagePuts
import Derived.OpenShut
namespace Go.Proofs.Ytmlkkdopogcggaa.Pure
open Go.RowKit Go.Proofs.Ytmlkkdopogcggaa.Hp Go.Proofs.YtmlkkdopogcggaaW.PrintWords Go.Proofs.YtmlkkdopogcggaaW.PrintLast
set_option linter.unusedVariables false
theorem PagePuts : wagtaillaw15_PagePuts.Pure := by
  intro x d hx _
  unfold ok50 at hx
  refine ⟨0, ?_⟩
  unfold wagtaillaw15_PagePuts.f
  rw [if_pos ⟨(bounds_u64 hx.2.2.2.1).1, (bounds_u64 hx.2.2.2.2.1).1⟩]
end Go.Proofs.Ytmlkkdopogcggaa.Pure
