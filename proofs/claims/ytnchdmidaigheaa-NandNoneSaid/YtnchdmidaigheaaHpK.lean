/- What is known of the values that come in, type by type. Laid by program (hprint.py). -/
import Derived.Test.YtnchdmidaigheaaHp0
import Derived.Test.YtnchdmidaigheaaRd
namespace Go.Proofs.Ytnchdmidaigheaa.Hp
open Go.RowKit Go.Proofs.YtnchdmidaigheaaW.PrintWords
/-- What is known of a value of type 37 that came in. -/
def ok37 (x : S37) : Prop := ((Lit.int .i64 x.f0).wf = true) ∧ ((Lit.int .i64 x.f1).wf = true)
theorem tk37 : Tk Try.prog k37 37 ok37 :=
  Tk.imp (Tk.iso (Tk.struct Try.underlying37 (by kernel_rfl) (Tks.cons (Tk.int Try.underlying3) rfl (by kernel_rfl) (Tks.last (Tk.int Try.underlying3) rfl (by kernel_rfl)))) (fun x : S37 => (x.f0, x.f1)) (fun p => ⟨p.1, p.2⟩) (fun _ => rfl)) (fun x h => h)
end Go.Proofs.Ytnchdmidaigheaa.Hp
