/- Where a device lies in memory: what is turned and what stays. -/
import Derived.Test.YtnchdmidaigheaaND
import Derived.Test.YtnchdmidaigheaaWShare
namespace Go.Proofs.Ytnchdmidaigheaa.ND
set_option linter.unusedVariables false
set_option linter.unusedSimpArgs false
open Go.RowKit Go.Proofs.Ytnchdmidaigheaa.Hp Go.Proofs.YtnchdmidaigheaaW.PrintWords Go.Proofs.YtnchdmidaigheaaW.PrintLast Go.Proofs.YtnchdmidaigheaaW.PrintMore
/-- w has become W: but for the blocks of S nothing that w had has turned. -/
structure Turn (w W : World) (S : Nat → Prop) : Prop where
  os : W.os = w.os
  tape : W.tape = w.tape
  output : W.output = w.output
  size : w.heap.size ≤ W.heap.size
  block : ∀ k, k < w.heap.size → ¬ S k → W.heap[k]? = w.heap[k]?
theorem Turn.refl (w : World) (S : Nat → Prop) : Turn w w S := ⟨rfl, rfl, rfl, Nat.le_refl _, fun _ _ _ => rfl⟩
theorem Turn.of_below {w W : World} (h : Below w.heap.size w W) (S : Nat → Prop) : Turn w W S := ⟨h.os, h.tape, h.output, h.size, fun k hk _ => h.block k hk⟩
theorem Turn.mono {w W : World} {S S' : Nat → Prop} (h : Turn w W S) (hs : ∀ k, S k → S' k) : Turn w W S' := ⟨h.os, h.tape, h.output, h.size, fun k hk hn => h.block k hk (fun hS => hn (hs k hS))⟩
theorem Turn.trans {w W W2 : World} {S S2 : Nat → Prop} (h : Turn w W S) (k : Turn W W2 S2) (hs : ∀ k, S2 k → S k ∨ w.heap.size ≤ k) : Turn w W2 S :=
  ⟨k.os.trans h.os, k.tape.trans h.tape, k.output.trans h.output, Nat.le_trans h.size k.size, fun i hi hn => (k.block i (Nat.lt_of_lt_of_le hi h.size) (fun hS => by rcases hs i hS with h' | h'; exact hn h'; omega)).trans (h.block i hi hn)⟩
theorem Turn.below {w W W2 : World} {S : Nat → Prop} (h : Turn w W S) (hb : Below W.heap.size W W2) : Turn w W2 S := h.trans (Turn.of_below hb (fun _ => False)) (fun _ hk => hk.elim)
theorem Turn.grown {w W W2 : World} {S : Nat → Prop} {row : Option Nat} (h : Turn w W S) (hg : W.grownBy W2 row) (hr : ∀ k, row = some k → S k ∨ w.heap.size ≤ k) : Turn w W2 S :=
  h.trans (S2 := fun k => row = some k) ⟨hg.os, hg.tape, hg.output, hg.size, fun k hk hn => hg.block k hk (fun e => hn e.symm)⟩ (fun k hk => hr k hk)
theorem Turn.alloc {w W : World} {S : Nat → Prop} (h : Turn w W S) (o : Obj) : Turn w (W.alloc o) S := h.below (below_alloc (Below.refl _ _) o)
theorem Turn.setCell {w W : World} {S : Nat → Prop} (h : Turn w W S) {p : Addr} (hp : S p.block ∨ w.heap.size ≤ p.block) (u : Value) : Turn w (W.setCell p u) S :=
  h.trans (S2 := fun k => k = p.block) ⟨rfl, rfl, rfl, by simp, fun k _ hk => Below.heap_setCell W p u k hk⟩ (fun k hk => by rw [hk]; exact hp)
theorem Turn.to_below {w W w0 : World} {S : Nat → Prop} {B : Nat} (h : Turn w W S) (h0 : Below B w0 w) (hB : B ≤ w.heap.size) (hS : ∀ k, S k → B ≤ k) : Below B w0 W :=
  ⟨h.os.trans h0.os, h.tape.trans h0.tape, h.output.trans h0.output, Nat.le_trans h0.size h.size, fun k hk => (h.block k (Nat.lt_of_lt_of_le hk hB) (fun hs => by have := hS k hs; omega)).trans (h0.block k hk)⟩
theorem blk_turn {w W : World} {S : Nat → Prop} {g : Nat} {o : Obj} (hb : w.heap[g]? = some o) (h : Turn w W S) (hne : ¬ S g) : W.heap[g]? = some o := (h.block g (blk_lt hb) hne).trans hb
theorem F_turn {α : Type} {d : Kd α} {w W : World} {ok S : Nat → Prop} {A : Option Addr} {n : Nat} {xs : List α} (h : Kd.F d w ok A n xs) (ht : Turn w W S) (hne : ∀ k, ok k → k < w.heap.size → ¬ S k) : Kd.F d W ok A n xs := Kd.F_step h (fun k hk hlt => ht.block k hlt (hne k hk hlt))
/-- block g of type T begins with the cells vs -/
def Cells (W : World) (g T : Nat) (vs : List Value) : Prop := ∃ cs : Array Value, W.heap[g]? = some (.cells cs T (0, 0)) ∧ ∀ (j : Nat) (v : Value), vs[j]? = some v → cs[j]? = some v
section
variable {W W' : World} {g T : Nat} {vs : List Value}
theorem Cells.mk' {cs : Array Value} (h : W.heap[g]? = some (.cells cs T (0, 0))) : Cells W g T cs.toList := ⟨cs, h, fun j v hv => by rwa [Array.getElem?_toList] at hv⟩
theorem Cells.lt (h : Cells W g T vs) : g < W.heap.size := by obtain ⟨cs, h, _⟩ := h; exact blk_lt h
theorem Cells.cell (h : Cells W g T vs) {i : Nat} {v : Value} (hv : vs[i]? = some v) : W.cell? ⟨g, i, none⟩ = some v := by
  obtain ⟨cs, h, hc⟩ := h
  rw [blk_cell h]
  exact hc i v hv
theorem Cells.frozen (h : Cells W g T vs) (i : Nat) : W.frozen? ⟨g, i, none⟩ = false := by obtain ⟨cs, h, _⟩ := h; exact blk_frozen h i
theorem Cells.same (h : Cells W g T vs) (he : W'.heap[g]? = W.heap[g]?) : Cells W' g T vs := by obtain ⟨cs, h, hc⟩ := h; exact ⟨cs, he.trans h, hc⟩
theorem Cells.below (h : Cells W g T vs) (hb : Below W.heap.size W W') : Cells W' g T vs := h.same (hb.block g h.lt)
theorem Cells.turn {S : Nat → Prop} (h : Cells W g T vs) (ht : Turn W W' S) (hne : ¬ S g) : Cells W' g T vs := h.same (ht.block g h.lt hne)
theorem Cells.far (h : Cells W g T vs) {p : Addr} (hne : g ≠ p.block) (u : Value) : Cells (W.setCell p u) g T vs := h.same (Below.heap_setCell W p u g hne)
theorem Cells.set (h : Cells W g T vs) (i : Nat) (u : Value) : Cells (W.setCell ⟨g, i, none⟩ u) g T (vs.set i u) := by
  obtain ⟨cs, h, hc⟩ := h
  refine ⟨_, blk_set h i u, fun j v hv => ?_⟩
  rw [List.getElem?_set] at hv
  rw [Array.getElem?_setIfInBounds]
  by_cases hij : i = j
  · subst hij
    rw [if_pos rfl] at hv
    by_cases hl : i < vs.length
    · rw [if_pos hl] at hv
      have hs := hc i _ (List.getElem?_eq_getElem hl)
      rw [if_pos rfl, if_pos (Array.getElem?_eq_some_iff.1 hs).1]
      exact hv
    · rw [if_neg hl] at hv; cases hv
  · rw [if_neg hij] at hv ⊢
    exact hc j v hv
theorem Cells.of_own {base n c : Nat} (h : W.ownsRow base T 1 (.slice (some ⟨g, 0, none⟩) n c) n vs) : Cells W g T vs := by
  rcases h.2 with ⟨h', _⟩ | ⟨g', cap', cur, h', _, hg, _, _, _, htake⟩
  · simp at h'
  · simp only [Value.slice.injEq, Option.some.injEq, Addr.mk.injEq, and_true, true_and] at h'
    obtain ⟨rfl, rfl⟩ := h'
    refine ⟨cur, hg, fun j v hv => ?_⟩
    rw [← htake, List.getElem?_take] at hv
    split at hv
    · rwa [Array.getElem?_toList] at hv
    · cases hv
end
end Go.Proofs.Ytnchdmidaigheaa.ND
