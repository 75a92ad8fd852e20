import Derived.Test.YtnopjcakilfepaaHp0
import Derived.OpenShut
namespace Go.Proofs.Ytnopjcakilfepaa.QS
set_option linter.unusedVariables false
set_option linter.unusedSimpArgs false
open Go.RowKit Go.Proofs.Ytnopjcakilfepaa.Hp Go.Proofs.YtnopjcakilfepaaW.PrintWords Go.Proofs.YtnopjcakilfepaaW.PrintLast Go.Proofs.YtnopjcakilfepaaW.PrintMore
attribute [local go_sem] max2_int min2_int max_two min_two max_three min_three max_four min_four
structure Rec where
  id : Int
  first : Int
  prio : Int
  len : Int
  en : Int
  played : Bool
  lpn : Int
  A : Option Addr
  n : Nat
  c : Nat
def Rec.enc (x : Rec) : List Value := [.int .u64 x.id, .int .u64 x.first, .int .i64 x.prio, .int .i64 x.len, .int .u64 x.en, .bool x.played, .int .i64 x.lpn, .slice x.A x.n x.c]
def Rec.agg (x : Rec) : Value := .agg #[.int .u64 x.id, .int .u64 x.first, .int .i64 x.prio, .int .i64 x.len, .int .u64 x.en, .bool x.played, .int .i64 x.lpn, .slice x.A x.n x.c]
def RowB (W : World) (g : Nat) (d : List Rec) : Prop := ∃ cs : Array Value, W.heap[g]? = some (.cells cs 29 (0, 0)) ∧ ∀ j x, d[j]? = some x → ∀ i, i < 8 → cs[j * 8 + i]? = x.enc[i]?
def setRec (W : World) (g j : Nat) (x : Rec) : World :=
  (((((((W.setCell ⟨g, j * 8, none⟩ (.int .u64 x.id)).setCell ⟨g, j * 8 + 1, none⟩ (.int .u64 x.first)).setCell ⟨g, j * 8 + 2, none⟩ (.int .i64 x.prio)).setCell ⟨g, j * 8 + 3, none⟩ (.int .i64 x.len)).setCell ⟨g, j * 8 + 4, none⟩ (.int .u64 x.en)).setCell ⟨g, j * 8 + 5, none⟩ (.bool x.played)).setCell ⟨g, j * 8 + 6, none⟩ (.int .i64 x.lpn)).setCell ⟨g, j * 8 + 7, none⟩ (.slice x.A x.n x.c)
theorem RowB.below {W W' : World} {g : Nat} {d : List Rec} (h : RowB W g d) (hb : Below W.heap.size W W') : RowB W' g d := by
  obtain ⟨cs, hz, hc⟩ := h
  exact ⟨cs, blk_below hz hb, hc⟩
theorem RowB.cells {W : World} {g : Nat} {d : List Rec} (h : RowB W g d) {j : Nat} {x : Rec} (hj : d[j]? = some x) :
    W.cell? ⟨g, j * 8, none⟩ = some (.int .u64 x.id) ∧ W.cell? ⟨g, j * 8 + 1, none⟩ = some (.int .u64 x.first) ∧ W.cell? ⟨g, j * 8 + 2, none⟩ = some (.int .i64 x.prio) ∧ W.cell? ⟨g, j * 8 + 3, none⟩ = some (.int .i64 x.len) ∧ W.cell? ⟨g, j * 8 + 4, none⟩ = some (.int .u64 x.en) ∧ W.cell? ⟨g, j * 8 + 5, none⟩ = some (.bool x.played) ∧ W.cell? ⟨g, j * 8 + 6, none⟩ = some (.int .i64 x.lpn) ∧ W.cell? ⟨g, j * 8 + 7, none⟩ = some (.slice x.A x.n x.c) := by
  obtain ⟨cs, hz, hc⟩ := h
  have e := hc j x hj
  refine ⟨?_, ?_, ?_, ?_, ?_, ?_, ?_, ?_⟩
  · rw [blk_cell hz]; exact e 0 (by omega)
  · rw [blk_cell hz]; exact e 1 (by omega)
  · rw [blk_cell hz]; exact e 2 (by omega)
  · rw [blk_cell hz]; exact e 3 (by omega)
  · rw [blk_cell hz]; exact e 4 (by omega)
  · rw [blk_cell hz]; exact e 5 (by omega)
  · rw [blk_cell hz]; exact e 6 (by omega)
  · rw [blk_cell hz]; exact e 7 (by omega)
theorem RowB.frozen {W : World} {g : Nat} {d : List Rec} (h : RowB W g d) (i : Nat) : W.frozen? ⟨g, i, none⟩ = false := by
  obtain ⟨cs, hz, hc⟩ := h
  exact blk_frozen hz i
theorem RowB.set {W : World} {g : Nat} {d : List Rec} (h : RowB W g d) (j : Nat) (x : Rec) : RowB (setRec W g j x) g (d.set j x) := by
  obtain ⟨cs, hz, hc⟩ := h
  have h0 := blk_set hz (j * 8) (.int .u64 x.id)
  have h1 := blk_set h0 (j * 8 + 1) (.int .u64 x.first)
  have h2 := blk_set h1 (j * 8 + 2) (.int .i64 x.prio)
  have h3 := blk_set h2 (j * 8 + 3) (.int .i64 x.len)
  have h4 := blk_set h3 (j * 8 + 4) (.int .u64 x.en)
  have h5 := blk_set h4 (j * 8 + 5) (.bool x.played)
  have h6 := blk_set h5 (j * 8 + 6) (.int .i64 x.lpn)
  have h7 := blk_set h6 (j * 8 + 7) (.slice x.A x.n x.c)
  refine ⟨_, h7, fun k y hk i hi => ?_⟩
  rw [List.getElem?_set] at hk
  by_cases hjk : j = k
  · subst hjk
    rw [if_pos rfl] at hk
    by_cases hl : j < d.length
    · rw [if_pos hl] at hk
      obtain rfl := Option.some.inj hk
      have hlt : ∀ i, i < 8 → j * 8 + i < cs.size := by
        intro i hi
        have e := hc j _ (List.getElem?_eq_getElem hl) i hi
        have hs : (Rec.enc d[j])[i]? ≠ none := by
          have : (Rec.enc d[j]).length = 8 := rfl
          rw [List.getElem?_eq_getElem (by omega)]
          simp
        rw [← e] at hs
        rcases Nat.lt_or_ge (j * 8 + i) cs.size with h | h
        · exact h
        · exact absurd (Array.getElem?_eq_none h) hs
      have hi8 : i = 0 ∨ i = 1 ∨ i = 2 ∨ i = 3 ∨ i = 4 ∨ i = 5 ∨ i = 6 ∨ i = 7 := by omega
      have l7 := hlt 7 (by omega)
      rcases hi8 with rfl | rfl | rfl | rfl | rfl | rfl | rfl | rfl <;> simp [Array.getElem?_setIfInBounds, Rec.enc] <;> omega
    · rw [if_neg hl] at hk
      cases hk
  · rw [if_neg hjk] at hk
    rw [← hc k y hk i hi]
    have n0 : j * 8 ≠ k * 8 + i := by omega
    have n1 : j * 8 + 1 ≠ k * 8 + i := by omega
    have n2 : j * 8 + 2 ≠ k * 8 + i := by omega
    have n3 : j * 8 + 3 ≠ k * 8 + i := by omega
    have n4 : j * 8 + 4 ≠ k * 8 + i := by omega
    have n5 : j * 8 + 5 ≠ k * 8 + i := by omega
    have n6 : j * 8 + 6 ≠ k * 8 + i := by omega
    have n7 : j * 8 + 7 ≠ k * 8 + i := by omega
    simp [Array.getElem?_setIfInBounds, n0, n1, n2, n3, n4, n5, n6, n7]
structure Kp (g : Nat) (w0 w' : World) : Prop where
  os : w'.os = w0.os
  tape : w'.tape = w0.tape
  output : w'.output = w0.output
  size : w0.heap.size ≤ w'.heap.size
  block : ∀ k, k < w0.heap.size → k ≠ g → w'.heap[k]? = w0.heap[k]?
  same : ∀ cs t fr, w0.heap[g]? = some (.cells cs t fr) → ∃ cs' : Array Value, w'.heap[g]? = some (.cells cs' t fr) ∧ cs'.size = cs.size
theorem Kp.refl (g : Nat) (w : World) : Kp g w w := ⟨rfl, rfl, rfl, Nat.le_refl _, fun _ _ _ => rfl, fun cs t fr h => ⟨cs, h, rfl⟩⟩
theorem Kp.below {g : Nat} {w0 a b : World} (h : Kp g w0 a) (k : Below a.heap.size a b) : Kp g w0 b :=
  ⟨k.os.trans h.os, k.tape.trans h.tape, k.output.trans h.output, Nat.le_trans h.size k.size, fun i hi hne => (k.block i (Nat.lt_of_lt_of_le hi h.size)).trans (h.block i hi hne), fun cs t fr hc => by
    obtain ⟨cs', h1, h2⟩ := h.same cs t fr hc
    exact ⟨cs', (k.block g (Array.getElem?_eq_some_iff.1 h1).1).trans h1, h2⟩⟩
theorem kp_drew {g : Nat} {w0 W : World} (h : Kp g w0 W) : Kp g w0 W.drew := h.below (below_drew1 (Below.refl _ _))
theorem Kp.setCell {g : Nat} {w0 W : World} (h : Kp g w0 W) {o : Nat} (u : Value) : Kp g w0 (W.setCell ⟨g, o, none⟩ u) :=
  ⟨h.os, h.tape, h.output, by simpa using h.size, fun i hi hne => (Below.heap_setCell W ⟨g, o, none⟩ u i hne).trans (h.block i hi hne), fun cs t fr hc => by
    obtain ⟨cs', h1, h2⟩ := h.same cs t fr hc
    refine ⟨cs'.setIfInBounds o u, ?_, by simpa using h2⟩
    simp [World.setCell, Array.getElem?_modify, h1]⟩
theorem setRec_below {N : Nat} {w0 W : World} {g j : Nat} {x : Rec} (hB : Kp g w0 W) (hg : N ≤ g) : Kp g w0 (setRec W g j x) :=
  ((((((((hB.setCell _).setCell _).setCell _).setCell _).setCell _).setCell _).setCell _).setCell _)
theorem below_row {N : Nat} {w0 W W' : World} {g : Nat} {d : List Rec} (hB : Kp g w0 W) (hg : N ≤ g) (hR : RowB W g d) (hb : Below W.heap.size W W') : Kp g w0 W' := hB.below hb
section
variable {P : Program} {ops : Array Oper} {Q : Exit → Act → World → Prop}
theorem goesv_ {oi : Oper} {N : Option Tmp} {a : Act} {w : World} {K : Act → World → Prop} {t : Tmp} {f : FuncId} {fn : Func} {av : Array Operand} {ts : Array TypeId} (hf : P.funcs[f]? = some fn) (hname : (fn.name == "runtime.NumGoroutine") = false) (hb : fn.body.isSome = true) (args : Array Value)
    (hw : Region.wanted oi (yielded ops a.tmps) = true) (hN : oi.dst = N) (hop : oi.op = .call { callee := .value (.tmp t), args := av, argTypes := ts }) (ht : a.tmps[t]? = some (.func (.func f) #[] #[])) (hargs : av.map a.eval = args)
    (h : Calls P f args w fun e w' => ∃ v, e = .returned v ∧ K (a.put N v) w') : if Region.wanted oi (yielded ops a.tmps) = true then Oper.wp P oi a w K Q else K (a.put N undef) w := by
  refine call_ f args hw hN ?_ h
  have he := enters_ hf hname hb args w
  have ht2 : a.tmps.getD t undef = .func (.func f) #[] #[] := by simp [Array.getD_eq_getD_getElem?, ht]
  unfold execOp
  simp [hop, resolve, Deferred.ofValue, invoke, Act.eval, ht, hargs, he]
end
end Go.Proofs.Ytnopjcakilfepaa.QS
