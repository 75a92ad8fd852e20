/- The pure statement of the law PagePuts: over numbers and lists alone. Laid by program (hprint.py). -/
import Derived.Test.YtmlkkdopogcggaaHp38
import Derived.Test.YtmlkkdopogcggaaHpK
namespace Go.Proofs.Ytmlkkdopogcggaa.Hp
open Go.RowKit Go.Proofs.YtmlkkdopogcggaaW.PrintWords
def wagtaillaw15_PagePuts.Pure : Prop := ∀ (x0 : S50) (a1 : ByteArray), (ok50 x0) → (a1.size ≤ 140737488351232) → ∃ _k : Nat, wagtaillaw15_PagePuts.f x0.f0 x0.f1 x0.f2 x0.f3 x0.f4 x0.f5 x0.f6 a1 = some true
end Go.Proofs.Ytmlkkdopogcggaa.Hp
