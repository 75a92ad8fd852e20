/- What is known of the values that come in, type by type. Laid by program (hprint.py). -/
import Derived.Test.YtndhjjlicfoiaaaHp0
import Derived.Test.YtndhjjlicfoiaaaRd
namespace Go.Proofs.Ytndhjjlicfoiaaa.Hp
open Go.RowKit Go.Proofs.YtndhjjlicfoiaaaW.PrintWords
/-- What is known of a value of type 38 that came in. -/
def ok38 (x : S38) : Prop := ((Lit.int .u64 x.f0).wf = true) ∧ ((Lit.int .u64 x.f1).wf = true) ∧ ((Lit.int .i64 x.f2).wf = true) ∧ ((Lit.int .i64 x.f3).wf = true) ∧ ((Lit.int .u64 x.f4).wf = true) ∧ (True) ∧ ((Lit.int .i64 x.f6).wf = true) ∧ (x.f7.length ≤ 9223372036854775807 ∧ ∀ x_ ∈ x.f7, (Lit.int .i64 x_).wf = true)
theorem tk38 : Tk Try.prog k38 38 ok38 :=
  Tk.imp (Tk.iso (Tk.struct Try.underlying38 (by kernel_rfl) (Tks.cons (Tk.int Try.underlying35) rfl (by kernel_rfl) (Tks.cons (Tk.int Try.underlying35) rfl (by kernel_rfl) (Tks.cons (Tk.int Try.underlying3) rfl (by kernel_rfl) (Tks.cons (Tk.int Try.underlying3) rfl (by kernel_rfl) (Tks.cons (Tk.int Try.underlying35) rfl (by kernel_rfl) (Tks.cons (Tk.bool Try.underlying4) rfl (by kernel_rfl) (Tks.cons (Tk.int Try.underlying3) rfl (by kernel_rfl) (Tks.last (Tk.slice (Tk.int Try.underlying3) Try.underlying36 (by kernel_rfl)) rfl (by kernel_rfl)))))))))) (fun x : S38 => (x.f0, x.f1, x.f2, x.f3, x.f4, x.f5, x.f6, x.f7)) (fun p => ⟨p.1, p.2.1, p.2.2.1, p.2.2.2.1, p.2.2.2.2.1, p.2.2.2.2.2.1, p.2.2.2.2.2.2.1, p.2.2.2.2.2.2.2⟩) (fun _ => rfl)) (fun x h => h)
end Go.Proofs.Ytndhjjlicfoiaaa.Hp
