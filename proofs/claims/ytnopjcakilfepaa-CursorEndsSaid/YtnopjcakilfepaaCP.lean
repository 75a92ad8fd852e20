import Derived.Test.YtnopjcakilfepaaC4
namespace Go.Proofs.Ytnopjcakilfepaa.QS
set_option linter.unusedVariables false
set_option linter.unusedSimpArgs false
open Go.RowKit Go.Proofs.Ytnopjcakilfepaa.SS Go.Proofs.Ytnopjcakilfepaa.Hp Go.Proofs.YtnopjcakilfepaaW.PrintWords Go.Proofs.YtnopjcakilfepaaW.PrintLast Go.Proofs.YtnopjcakilfepaaW.PrintMore
def At (W : World) (ad : Addr) (x : R0) (A : Option Addr) (c : Nat) : Prop :=
  W.cell? ad = some (.int .u64 x.f0) ∧ W.cell? ⟨ad.block, ad.off + 1, none⟩ = some (.int .u64 x.f1) ∧ W.cell? ⟨ad.block, ad.off + 2, none⟩ = some (.int .i64 x.f2) ∧ W.cell? ⟨ad.block, ad.off + 3, none⟩ = some (.int .i64 x.f3) ∧
  W.cell? ⟨ad.block, ad.off + 4, none⟩ = some (.int .u64 x.f4) ∧ W.cell? ⟨ad.block, ad.off + 5, none⟩ = some (.bool x.f5) ∧ W.cell? ⟨ad.block, ad.off + 6, none⟩ = some (.int .i64 x.f6) ∧ W.cell? ⟨ad.block, ad.off + 7, none⟩ = some (.slice A x.f7.length c)
theorem At.below {W W' : World} {ad : Addr} {x : R0} {A : Option Addr} {c : Nat} (h : At W ad x A c) (hb : Below W.heap.size W W') : At W' ad x A c :=
  ⟨pw_cell_below hb h.1, pw_cell_below hb h.2.1, pw_cell_below hb h.2.2.1, pw_cell_below hb h.2.2.2.1, pw_cell_below hb h.2.2.2.2.1, pw_cell_below hb h.2.2.2.2.2.1, pw_cell_below hb h.2.2.2.2.2.2.1, pw_cell_below hb h.2.2.2.2.2.2.2⟩
def Pg (W : World) (x : R0) (A : Option Addr) (c : Nat) : Prop := x.f7.length ≤ c ∧ Kd.C (Kd.int .i64) W A x.f7.length x.f7
theorem Pg.below {W W' : World} {x : R0} {A : Option Addr} {c : Nat} (h : Pg W x A c) (hb : Below W.heap.size W W') : Pg W' x A c := ⟨h.1, Kd.C_below h.2 hb⟩
end Go.Proofs.Ytnopjcakilfepaa.QS
