/- The pure statement of the law ZerosErase: over numbers and lists alone. Laid by program (hprint.py). -/
import Derived.Test.YtmlkkdopogcggaaHp17
import Derived.Test.YtmlkkdopogcggaaHpK
namespace Go.Proofs.Ytmlkkdopogcggaa.Hp
open Go.RowKit Go.Proofs.YtmlkkdopogcggaaW.PrintWords
def wagtaillaw02_ZerosErase.Pure : Prop := ∀ (l0 : List Int) (l1 : List Int) (a2 : Int), (l0.length ≤ 9223372036854775807 ∧ ∀ x_ ∈ l0, (Lit.int .u8 x_).wf = true) → (l1.length ≤ 9223372036854775807 ∧ ∀ x_ ∈ l1, (Lit.int .u8 x_).wf = true) → ((Lit.int .i64 a2).wf = true) → ∃ k, wagtaillaw02_ZerosErase.f k l0 l1 a2 = some true
end Go.Proofs.Ytmlkkdopogcggaa.Hp
