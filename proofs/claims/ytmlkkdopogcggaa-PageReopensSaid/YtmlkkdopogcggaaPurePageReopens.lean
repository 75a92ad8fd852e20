/- Any page with another opening; what a seal is; how many are of which class. No conditions. -/
import Derived.Test.YtmlkkdopogcggaaHpQPageReopens
import Derived.OpenShut
namespace Go.Proofs.Ytmlkkdopogcggaa.Pure
open Go.RowKit Go.Proofs.Ytmlkkdopogcggaa.Hp Go.Proofs.YtmlkkdopogcggaaW.PrintWords Go.Proofs.YtmlkkdopogcggaaW.PrintLast
set_option linter.unusedVariables false
theorem PageReopens : wagtaillaw15_PageReopens.Pure := by
  intro x hx
  unfold ok65 at hx
  have h0 := hx.1
  unfold ok50 at h0
  refine ⟨0, ?_⟩
  unfold wagtaillaw15_PageReopens.f
  rw [if_pos ⟨⟨(bounds_u64 h0.2.2.2.1).1, (bounds_u64 h0.2.2.2.2.1).1, (bounds_u64 hx.2.2.1).1⟩, fun y hy => bounds_u8 (hx.2.2.2.2 y hy)⟩]
end Go.Proofs.Ytmlkkdopogcggaa.Pure
