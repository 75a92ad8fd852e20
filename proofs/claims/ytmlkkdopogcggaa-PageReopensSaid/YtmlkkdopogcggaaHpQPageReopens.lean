/- The pure statement of the law PageReopens: over numbers and lists alone. Laid by program (hprint.py). -/
import Derived.Test.YtmlkkdopogcggaaHp47
import Derived.Test.YtmlkkdopogcggaaHpK
namespace Go.Proofs.Ytmlkkdopogcggaa.Hp
open Go.RowKit Go.Proofs.YtmlkkdopogcggaaW.PrintWords
def wagtaillaw15_PageReopens.Pure : Prop := ∀ (x0 : S65), (ok65 x0) → ∃ _k : Nat, wagtaillaw15_PageReopens.f x0.f0.f0 x0.f0.f1 x0.f0.f2 x0.f0.f3 x0.f0.f4 x0.f0.f5 x0.f0.f6 x0.f1 x0.f2 x0.f3 = some true
end Go.Proofs.Ytmlkkdopogcggaa.Hp
