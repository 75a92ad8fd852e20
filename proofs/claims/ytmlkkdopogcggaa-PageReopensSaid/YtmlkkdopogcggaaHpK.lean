/- What is known of the values that come in, type by type. Laid by program (hprint.py). -/
import Derived.Test.YtmlkkdopogcggaaHp0
import Derived.Test.YtmlkkdopogcggaaRd
namespace Go.Proofs.Ytmlkkdopogcggaa.Hp
open Go.RowKit Go.Proofs.YtmlkkdopogcggaaW.PrintWords
/-- What is known of a value of type 26 that came in. -/
def ok26 (x : S26) : Prop := ((Lit.int .i64 x.f0).wf = true) ∧ ((Lit.int .i64 x.f1).wf = true) ∧ ((Lit.int .i64 x.f2).wf = true)
theorem tk26 : Tk Try.prog k26 26 ok26 :=
  Tk.imp (Tk.iso (Tk.struct Try.underlying26 (by kernel_rfl) (Tks.cons (Tk.int Try.underlying3) rfl (by kernel_rfl) (Tks.cons (Tk.int Try.underlying3) rfl (by kernel_rfl) (Tks.last (Tk.int Try.underlying3) rfl (by kernel_rfl))))) (fun x : S26 => (x.f0, x.f1, x.f2)) (fun p => ⟨p.1, p.2.1, p.2.2⟩) (fun _ => rfl)) (fun x h => h)
/-- What is known of a value of type 28 that came in. -/
def ok28 (x : S28) : Prop := ((Lit.int .i64 x.f0).wf = true) ∧ ((Lit.int .i64 x.f1).wf = true)
theorem tk28 : Tk Try.prog k28 28 ok28 :=
  Tk.imp (Tk.iso (Tk.struct Try.underlying28 (by kernel_rfl) (Tks.cons (Tk.int Try.underlying3) rfl (by kernel_rfl) (Tks.last (Tk.int Try.underlying3) rfl (by kernel_rfl)))) (fun x : S28 => (x.f0, x.f1)) (fun p => ⟨p.1, p.2⟩) (fun _ => rfl)) (fun x h => h)
/-- What is known of a value of type 50 that came in. -/
def ok50 (x : S50) : Prop := ((Lit.int .i64 x.f0).wf = true) ∧ ((Lit.int .i64 x.f1).wf = true) ∧ ((Lit.int .i64 x.f2).wf = true) ∧ ((Lit.int .u64 x.f3).wf = true) ∧ ((Lit.int .u64 x.f4).wf = true) ∧ ((Lit.int .i64 x.f5).wf = true) ∧ ((Lit.int .i64 x.f6).wf = true)
theorem tk50 : Tk Try.prog k50 50 ok50 :=
  Tk.imp (Tk.iso (Tk.struct Try.underlying50 (by kernel_rfl) (Tks.cons (Tk.int Try.underlying3) rfl (by kernel_rfl) (Tks.cons (Tk.int Try.underlying3) rfl (by kernel_rfl) (Tks.cons (Tk.int Try.underlying3) rfl (by kernel_rfl) (Tks.cons (Tk.int Try.underlying48) rfl (by kernel_rfl) (Tks.cons (Tk.int Try.underlying48) rfl (by kernel_rfl) (Tks.cons (Tk.int Try.underlying3) rfl (by kernel_rfl) (Tks.last (Tk.int Try.underlying3) rfl (by kernel_rfl))))))))) (fun x : S50 => (x.f0, x.f1, x.f2, x.f3, x.f4, x.f5, x.f6)) (fun p => ⟨p.1, p.2.1, p.2.2.1, p.2.2.2.1, p.2.2.2.2.1, p.2.2.2.2.2.1, p.2.2.2.2.2.2⟩) (fun _ => rfl)) (fun x h => h)
/-- What is known of a value of type 65 that came in. -/
def ok65 (x : S65) : Prop := (ok50 x.f0) ∧ (x.f1.size ≤ 9223372036854775807) ∧ ((Lit.int .u64 x.f2).wf = true) ∧ (x.f3.length ≤ 9223372036854775807 ∧ ∀ x_ ∈ x.f3, (Lit.int .u8 x_).wf = true)
theorem tk65 : Tk Try.prog k65 65 ok65 :=
  Tk.imp (Tk.iso (Tk.struct Try.underlying65 (by kernel_rfl) (Tks.cons tk50 rfl (by kernel_rfl) (Tks.cons (Tk.string Try.underlying9) rfl (by kernel_rfl) (Tks.cons (Tk.int Try.underlying48) rfl (by kernel_rfl) (Tks.last (Tk.slice (Tk.int Try.underlying5) Try.underlying35 (by kernel_rfl)) rfl (by kernel_rfl)))))) (fun x : S65 => (x.f0, x.f1, x.f2, x.f3)) (fun p => ⟨p.1, p.2.1, p.2.2.1, p.2.2.2⟩) (fun _ => rfl)) (fun x h => h)
end Go.Proofs.Ytmlkkdopogcggaa.Hp
