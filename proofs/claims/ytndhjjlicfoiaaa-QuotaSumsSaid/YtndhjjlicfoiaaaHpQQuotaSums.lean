/- The pure statement of the law QuotaSums: over numbers and lists alone. Laid by program (hprint.py). -/
import Derived.Test.YtndhjjlicfoiaaaHp8
import Derived.Test.YtndhjjlicfoiaaaHpK
namespace Go.Proofs.Ytndhjjlicfoiaaa.Hp
open Go.RowKit Go.Proofs.YtndhjjlicfoiaaaW.PrintWords
def wagtaillaw28_QuotaSums.Pure : Prop := ∀ (l0 : List (S38)) (a1 : Int), (l0.length ≤ 9223372036854775807 ∧ ∀ x_ ∈ l0, ok38 x_) → ((Lit.int .i64 a1).wf = true) → ∃ _k : Nat, wagtaillaw28_QuotaSums.f l0 a1 = some true
end Go.Proofs.Ytndhjjlicfoiaaa.Hp
