/- The pure statement of the law PageTorn: over numbers and lists alone. Laid by program (hprint.py). -/
import Derived.Test.YtmlkkdopogcggaaHp45
import Derived.Test.YtmlkkdopogcggaaHpK
namespace Go.Proofs.Ytmlkkdopogcggaa.Hp
open Go.RowKit Go.Proofs.YtmlkkdopogcggaaW.PrintWords
def wagtaillaw15_PageTorn.Pure : Prop := ∀ (x0 : S50) (a1 : ByteArray) (l2 : List (List Int)), (ok50 x0) → (a1.size ≤ 140737488351232) → (l2.length ≤ 9223372036854775807 ∧ ∀ x_ ∈ l2, x_.length ≤ 9223372036854775807 ∧ ∀ x__ ∈ x_, (Lit.int .u8 x__).wf = true) → ∃ _k : Nat, wagtaillaw15_PageTorn.f x0.f0 x0.f1 x0.f2 x0.f3 x0.f4 x0.f5 x0.f6 a1 l2 = some true
end Go.Proofs.Ytmlkkdopogcggaa.Hp
