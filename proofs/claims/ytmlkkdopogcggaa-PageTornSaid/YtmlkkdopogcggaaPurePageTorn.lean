/- Whatever is torn is told: a page of which a program and erases did some bits alone is never another page. No conditions. -/
import Derived.Test.YtmlkkdopogcggaaHpQPageTorn
import Derived.OpenShut
namespace Go.Proofs.Ytmlkkdopogcggaa.Pure
open Go.RowKit Go.Proofs.Ytmlkkdopogcggaa.Hp Go.Proofs.YtmlkkdopogcggaaW.PrintWords Go.Proofs.YtmlkkdopogcggaaW.PrintLast
set_option linter.unusedVariables false
theorem PageTorn : wagtaillaw15_PageTorn.Pure := by
  intro x d m hx _ hm
  unfold ok50 at hx
  refine ⟨0, ?_⟩
  unfold wagtaillaw15_PageTorn.f
  rw [if_pos ⟨(bounds_u64 hx.2.2.2.1).1, (bounds_u64 hx.2.2.2.2.1).1, fun y hy z hz => bounds_u8 ((hm.2 y hy).2 z hz)⟩]
end Go.Proofs.Ytmlkkdopogcggaa.Pure
