/- The pure statement of the law GeomPlaces: over numbers and lists alone. Laid by program (hprint.py). -/
import Derived.Test.YtmlkkdopogcggaaHp7
import Derived.Test.YtmlkkdopogcggaaHpK
namespace Go.Proofs.Ytmlkkdopogcggaa.Hp
open Go.RowKit Go.Proofs.YtmlkkdopogcggaaW.PrintWords
def wagtaillaw13_GeomPlaces.Pure : Prop := ∀ (x0 : S26) (x1 : S28) (a2 : Int), (ok26 x0) → (ok28 x1) → ((Lit.int .i64 a2).wf = true) → ∃ k, wagtaillaw13_GeomPlaces.f k x0.f0 x0.f1 x0.f2 x1.f0 x1.f1 a2 = some true
end Go.Proofs.Ytmlkkdopogcggaa.Hp
