/- The pure statement of the law ZerosCount: over numbers and lists alone. Laid by program (hprint.py). -/
import Derived.Test.YtmlkkdopogcggaaHp14
import Derived.Test.YtmlkkdopogcggaaHpK
namespace Go.Proofs.Ytmlkkdopogcggaa.Hp
open Go.RowKit Go.Proofs.YtmlkkdopogcggaaW.PrintWords
def wagtaillaw02_ZerosCount.Pure : Prop := ∀ (l0 : List Int) (a1 : Int), (l0.length ≤ 9223372036854775807 ∧ ∀ x_ ∈ l0, (Lit.int .u8 x_).wf = true) → ((Lit.int .i64 a1).wf = true) → ∃ k, wagtaillaw02_ZerosCount.f k l0 a1 = some true
end Go.Proofs.Ytmlkkdopogcggaa.Hp
