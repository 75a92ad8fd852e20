/- The pure statement of the law CursorMoves: over numbers and lists alone. Laid by program (hprint.py). -/
import Derived.Test.YtnopjcakilfepaaHp12
import Derived.Test.YtnopjcakilfepaaHpK
namespace Go.Proofs.Ytnopjcakilfepaa.Hp
open Go.RowKit Go.Proofs.YtnopjcakilfepaaW.PrintWords
def wagtaillaw33_CursorMoves.Pure : Prop := ∀ (x0 : S65) (a1 : Int) (a2 : Bool), (ok65 x0) → ((Lit.int .u64 a1).wf = true) → ∃ _k : Nat, wagtaillaw33_CursorMoves.f x0.f0 x0.f1 x0.f2 x0.f3 a1 a2 = some true
end Go.Proofs.Ytnopjcakilfepaa.Hp
