/- The pure statement of the law NandNone: over numbers and lists alone. Laid by program (hprint.py). -/
import Derived.Test.YtnchdmidaigheaaHp14
import Derived.Test.YtnchdmidaigheaaHpK
namespace Go.Proofs.Ytnchdmidaigheaa.Hp
open Go.RowKit Go.Proofs.YtnchdmidaigheaaW.PrintWords
def wagtaillaw14_NandNone.Pure : Prop := ∀ (x0 : S37) (l1 : List Int), (ok37 x0) → (l1.length ≤ 9223372036854775807 ∧ ∀ x_ ∈ l1, (Lit.int .u8 x_).wf = true) → ∃ _k : Nat, wagtaillaw14_NandNone.f x0.f0 x0.f1 l1 = some true
end Go.Proofs.Ytnchdmidaigheaa.Hp
