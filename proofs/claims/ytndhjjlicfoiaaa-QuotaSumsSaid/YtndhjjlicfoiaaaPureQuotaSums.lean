/- 'QuotaSums': for all records and budgets, what they use, of each priority and in all, and what is left, is what the document says. -/
import Derived.Test.YtndhjjlicfoiaaaHpQQuotaSums
import Derived.OpenShut
namespace Go.Proofs.Ytndhjjlicfoiaaa.Pure
set_option linter.unusedVariables false
open Go.RowKit Go.Proofs.Ytndhjjlicfoiaaa.Hp Go.Proofs.YtndhjjlicfoiaaaW.PrintWords Go.Proofs.YtndhjjlicfoiaaaW.PrintLast
theorem QuotaSums : wagtaillaw28_QuotaSums.Pure := by
  intro l b hl hb
  exact ⟨0, if_pos ⟨hl.1, fun x hx => (bounds_i64 (hl.2 x hx).2.2.2.1).1⟩⟩
end Go.Proofs.Ytndhjjlicfoiaaa.Pure
