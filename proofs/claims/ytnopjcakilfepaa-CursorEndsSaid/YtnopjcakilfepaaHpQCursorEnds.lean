import Derived.Test.YtnopjcakilfepaaHp14
import Derived.Test.YtnopjcakilfepaaHpK
namespace Go.Proofs.Ytnopjcakilfepaa.Hp
open Go.RowKit Go.Proofs.YtnopjcakilfepaaW.PrintWords
def wagtaillaw33_CursorEnds.Pure : Prop := ∀ (l0 : List (S29)), (l0.length ≤ 9223372036854775807 ∧ ∀ x_ ∈ l0, ok29 x_) → ∃ _k : Nat, wagtaillaw33_CursorEnds.f l0 = some true
end Go.Proofs.Ytnopjcakilfepaa.Hp
