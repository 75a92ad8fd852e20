/- The pure statement of the law ZerosProgram: over numbers and lists alone. Laid by program (hprint.py). -/
import Derived.Test.YtmlkkdopogcggaaHp16
import Derived.Test.YtmlkkdopogcggaaHpK
namespace Go.Proofs.Ytmlkkdopogcggaa.Hp
open Go.RowKit Go.Proofs.YtmlkkdopogcggaaW.PrintWords
def wagtaillaw02_ZerosProgram.Pure : Prop := ∀ (l0 : List Int) (l1 : List Int) (l2 : List Int), (l0.length ≤ 9223372036854775807 ∧ ∀ x_ ∈ l0, (Lit.int .u8 x_).wf = true) → (l1.length ≤ 9223372036854775807 ∧ ∀ x_ ∈ l1, (Lit.int .u8 x_).wf = true) → (l2.length ≤ 9223372036854775807 ∧ ∀ x_ ∈ l2, (Lit.int .u8 x_).wf = true) → ∃ k, wagtaillaw02_ZerosProgram.f k l0 l1 l2 = some true
end Go.Proofs.Ytmlkkdopogcggaa.Hp
