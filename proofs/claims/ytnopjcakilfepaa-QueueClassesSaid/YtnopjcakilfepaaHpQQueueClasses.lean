/- The pure statement of the law QueueClasses: over numbers and lists alone. Laid by program (hprint.py). -/
import Derived.Test.YtnopjcakilfepaaHp9
import Derived.Test.YtnopjcakilfepaaHpK
namespace Go.Proofs.Ytnopjcakilfepaa.Hp
open Go.RowKit Go.Proofs.YtnopjcakilfepaaW.PrintWords
def wagtaillaw30_QueueClasses.Pure : Prop := ∀ (l0 : List (S29)) (a1 : Int), (l0.length ≤ 9223372036854775807 ∧ ∀ x_ ∈ l0, ok29 x_) → ((Lit.int .i64 a1).wf = true) → ∃ _k : Nat, wagtaillaw30_QueueClasses.f l0 a1 = some true
end Go.Proofs.Ytnopjcakilfepaa.Hp
