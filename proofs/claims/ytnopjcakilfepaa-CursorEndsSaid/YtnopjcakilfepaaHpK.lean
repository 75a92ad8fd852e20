import Derived.Test.YtnopjcakilfepaaHp0
import Derived.Test.YtnopjcakilfepaaRd
namespace Go.Proofs.Ytnopjcakilfepaa.Hp
open Go.RowKit Go.Proofs.YtnopjcakilfepaaW.PrintWords
def ok29 (x : S29) : Prop := ((Lit.int .u64 x.f0).wf = true) ∧ ((Lit.int .u64 x.f1).wf = true) ∧ ((Lit.int .i64 x.f2).wf = true) ∧ ((Lit.int .i64 x.f3).wf = true) ∧ ((Lit.int .u64 x.f4).wf = true) ∧ (True) ∧ ((Lit.int .i64 x.f6).wf = true) ∧ (x.f7.length ≤ 9223372036854775807 ∧ ∀ x_ ∈ x.f7, (Lit.int .i64 x_).wf = true)
theorem tk29 : Tk Try.prog k29 29 ok29 :=
  Tk.imp (Tk.iso (Tk.struct Try.underlying29 (by kernel_rfl) (Tks.cons (Tk.int Try.underlying26) rfl (by kernel_rfl) (Tks.cons (Tk.int Try.underlying26) rfl (by kernel_rfl) (Tks.cons (Tk.int Try.underlying3) rfl (by kernel_rfl) (Tks.cons (Tk.int Try.underlying3) rfl (by kernel_rfl) (Tks.cons (Tk.int Try.underlying26) rfl (by kernel_rfl) (Tks.cons (Tk.bool Try.underlying4) rfl (by kernel_rfl) (Tks.cons (Tk.int Try.underlying3) rfl (by kernel_rfl) (Tks.last (Tk.slice (Tk.int Try.underlying3) Try.underlying27 (by kernel_rfl)) rfl (by kernel_rfl)))))))))) (fun x : S29 => (x.f0, x.f1, x.f2, x.f3, x.f4, x.f5, x.f6, x.f7)) (fun p => ⟨p.1, p.2.1, p.2.2.1, p.2.2.2.1, p.2.2.2.2.1, p.2.2.2.2.2.1, p.2.2.2.2.2.2.1, p.2.2.2.2.2.2.2⟩) (fun _ => rfl)) (fun x h => h)
def ok65 (x : S65) : Prop := (True) ∧ (True) ∧ ((Lit.int .u64 x.f2).wf = true) ∧ ((Lit.int .i64 x.f3).wf = true)
end Go.Proofs.Ytnopjcakilfepaa.Hp
