import Derived.Test.YtnopjcakilfepaaHp10
import Derived.Test.YtnopjcakilfepaaHpK
namespace Go.Proofs.Ytnopjcakilfepaa.Hp
open Go.RowKit Go.Proofs.YtnopjcakilfepaaW.PrintWords
def wagtaillaw30_QueueAhead.Pure : Prop := ∀ (l0 : List (S29)) (x1 : S29) (x2 : S29), (l0.length ≤ 9223372036854775807 ∧ ∀ x_ ∈ l0, ok29 x_) → (ok29 x1) → (ok29 x2) → ∃ _k : Nat, wagtaillaw30_QueueAhead.f l0 x1.f0 x1.f1 x1.f2 x1.f3 x1.f4 x1.f5 x1.f6 x1.f7 x2.f0 x2.f1 x2.f2 x2.f3 x2.f4 x2.f5 x2.f6 x2.f7 = some true
end Go.Proofs.Ytnopjcakilfepaa.Hp
