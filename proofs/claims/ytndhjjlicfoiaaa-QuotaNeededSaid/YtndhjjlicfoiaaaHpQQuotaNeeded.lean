/- The pure statement of the law QuotaNeeded: over numbers and lists alone. Laid by program (hprint.py). -/
import Derived.Test.YtndhjjlicfoiaaaHp13
import Derived.Test.YtndhjjlicfoiaaaHpK
namespace Go.Proofs.Ytndhjjlicfoiaaa.Hp
open Go.RowKit Go.Proofs.YtndhjjlicfoiaaaW.PrintWords
def wagtaillaw28_QuotaNeeded.Pure : Prop := ∀ (l0 : List (S38)) (a1 : Int) (a2 : Int), (l0.length ≤ 9223372036854775807 ∧ ∀ x_ ∈ l0, ok38 x_) → ((Lit.int .i64 a1).wf = true) → ((Lit.int .i64 a2).wf = true) → ∃ k : Nat, wagtaillaw28_QuotaNeeded.f k l0 a1 a2 = some true
end Go.Proofs.Ytndhjjlicfoiaaa.Hp
