/- A device in memory: what its blocks hold, and that this stands while nothing of it is turned. -/
import Derived.Test.YtnchdmidaigheaaDV
namespace Go.Proofs.Ytnchdmidaigheaa.ND
set_option linter.unusedVariables false
set_option linter.unusedSimpArgs false
open Go.RowKit Go.Proofs.Ytnchdmidaigheaa.Hp Go.Proofs.YtnchdmidaigheaaW.PrintWords Go.Proofs.YtnchdmidaigheaaW.PrintLast Go.Proofs.YtnchdmidaigheaaW.PrintMore
/-- the blocks of a device, and the slices that stand in it -/
structure Lay where
  g : Nat
  gm : Nat
  gp : Nat
  gn : Nat
  gw : Nat
  cm : Nat
  cp : Nat
  cn : Nat
  cw : Nat
  Af : Option Addr
  cf : Nat
/-- the blocks that calls may turn -/
def Lay.S (L : Lay) (k : Nat) : Prop := k = L.g ∨ k = L.gp ∨ k = L.gn ∨ k = L.gw
/-- the pages' bytes, each in a row that is only read -/
def Pages (W : World) (ok : Nat → Prop) (vs : List Value) (pages : List (List Int)) : Prop := vs.length = pages.length ∧ ∀ (i : Nat) (v : Value) (l : List Int), vs[i]? = some v → pages[i]? = some l → ∃ A c, v = .slice A 256 c ∧ 256 ≤ c ∧ Kd.F (Kd.int .u8) W ok A 256 l
def marks (D : Dv) : List Value := (List.range D.B.toNat).map fun (i : Nat) => .bool (D.mark (i : Int))
theorem marks_len (D : Dv) : (marks D).length = D.B.toNat := by unfold marks; rw [List.length_map, List.length_range]
def Lay.top (L : Lay) (D : Dv) : Array Value := #[.int .i64 D.B, .int .i64 D.P, .int .i64 D.C, .slice (some ⟨L.gm, 0, none⟩) (marks D).length L.cm, .slice (some ⟨L.gp, 0, none⟩) D.pages.length L.cp, .slice (some ⟨L.gn, 0, none⟩) D.next.length L.cn, .slice (some ⟨L.gw, 0, none⟩) D.wear.length L.cw, .slice L.Af D.faults.length L.cf, .int .i64 D.ops, .bool D.down]
structure DV (W : World) (ok : Nat → Prop) (L : Lay) (D : Dv) : Prop where
  top : W.heap[L.g]? = some (.cells (L.top D) 109 (0, 0))
  nx : Cells W L.gn 3 (D.next.map (Value.int .i64))
  we : Cells W L.gw 3 (D.wear.map (Value.int .i64))
  pg : ∃ vs, Cells W L.gp 38 vs ∧ Pages W ok vs D.pages
  mb : Cells W L.gm 4 (marks D)
  fl : Kd.F k65 W ok L.Af D.faults.length D.faults ∧ D.faults.length ≤ L.cf
  ne : L.gp ≠ L.g ∧ L.gn ≠ L.g ∧ L.gw ≠ L.g ∧ L.gp ≠ L.gn ∧ L.gp ≠ L.gw ∧ L.gn ≠ L.gw
  nm : ¬ L.S L.gm
  no : ∀ k, ok k → k < W.heap.size → ¬ L.S k
  ok : D.Ok
/-- all blocks of a device -/
def Lay.all (L : Lay) (ok : Nat → Prop) (k : Nat) : Prop := ok k ∨ L.S k ∨ k = L.gm
theorem Pages.step {W W' : World} {ok : Nat → Prop} {vs : List Value} {pages : List (List Int)} (h : Pages W ok vs pages) (hm : ∀ k, ok k → k < W.heap.size → W'.heap[k]? = W.heap[k]?) : Pages W' ok vs pages :=
  ⟨h.1, fun i v l hv hl => by obtain ⟨A, c, h1, h2, h3⟩ := h.2 i v l hv hl; exact ⟨A, c, h1, h2, Kd.F_step h3 hm⟩⟩
theorem Pages.mono {W : World} {ok ok' : Nat → Prop} {vs : List Value} {pages : List (List Int)} (h : Pages W ok vs pages) (ho : ∀ k, ok k → ok' k) : Pages W ok' vs pages :=
  ⟨h.1, fun i v l hv hl => by obtain ⟨A, c, h1, h2, h3⟩ := h.2 i v l hv hl; exact ⟨A, c, h1, h2, Kd.F_mono h3 ho⟩⟩
theorem Pages.bound {W : World} {ok : Nat → Prop} {vs : List Value} {pages : List (List Int)} (h : Pages W ok vs pages) : Pages W (fun k => ok k ∧ k < W.heap.size) vs pages :=
  ⟨h.1, fun i v l hv hl => by obtain ⟨A, c, h1, h2, h3⟩ := h.2 i v l hv hl; exact ⟨A, c, h1, h2, Kd.F_bound h3⟩⟩
/-- one page more is known -/
theorem Pages.set {W : World} {ok : Nat → Prop} {vs : List Value} {pages : List (List Int)} (h : Pages W ok vs pages) (i : Nat) {A : Option Addr} {c : Nat} {l : List Int} (hc : 256 ≤ c) (hF : Kd.F (Kd.int .u8) W ok A 256 l) : Pages W ok (vs.set i (.slice A 256 c)) (pages.set i l) := by
  refine ⟨by rw [List.length_set, List.length_set]; exact h.1, fun j v x hv hx => ?_⟩
  rw [List.getElem?_set] at hv hx
  by_cases hij : i = j
  · subst hij
    rw [if_pos rfl] at hv hx
    have hl : i < vs.length := by
      by_cases hl : i < vs.length
      · exact hl
      · rw [if_neg hl] at hv; cases hv
    rw [if_pos hl] at hv
    rw [if_pos (by have := h.1; omega)] at hx
    obtain rfl := Option.some.inj hv
    obtain rfl := Option.some.inj hx
    exact ⟨A, c, rfl, hc, hF⟩
  · rw [if_neg hij] at hv hx
    exact h.2 j v x hv hx
section
variable {W W' : World} {ok : Nat → Prop} {L : Lay} {D : Dv}
theorem DV.step (h : DV W ok L D) (hs : W.heap.size ≤ W'.heap.size) (hm : ∀ k, L.all ok k → k < W.heap.size → W'.heap[k]? = W.heap[k]?) (hn : ∀ k, ok k → k < W'.heap.size → ¬ L.S k) : DV W' ok L D where
  top := (hm _ (.inr (.inl (.inl rfl))) (blk_lt h.top)).trans h.top
  nx := h.nx.same (hm _ (.inr (.inl (.inr (.inr (.inl rfl))))) h.nx.lt)
  we := h.we.same (hm _ (.inr (.inl (.inr (.inr (.inr rfl))))) h.we.lt)
  pg := by
    obtain ⟨vs, h1, h2⟩ := h.pg
    exact ⟨vs, h1.same (hm _ (.inr (.inl (.inr (.inl rfl)))) h1.lt), h2.step (fun k hk hl => hm k (.inl hk) hl)⟩
  mb := h.mb.same (hm _ (.inr (.inr rfl)) h.mb.lt)
  fl := ⟨Kd.F_step h.fl.1 (fun k hk hl => hm k (.inl hk) hl), h.fl.2⟩
  ne := h.ne
  nm := h.nm
  no := hn
  ok := h.ok
theorem DV.lt (h : DV W ok L D) : ∀ k, L.S k → k < W.heap.size := by
  rintro k (rfl | rfl | rfl | rfl)
  · exact blk_lt h.top
  · obtain ⟨vs, h1, _⟩ := h.pg; exact h1.lt
  · exact h.nx.lt
  · exact h.we.lt
theorem DV.turn {S : Nat → Prop} (h : DV W ok L D) (ht : Turn W W' S) (hS : ∀ k, L.all ok k → k < W.heap.size → ¬ S k) : DV W' ok L D :=
  h.step ht.size (fun k hk hl => ht.block k hl (hS k hk hl)) (fun k hk _ hS' => h.no k hk (h.lt k hS') hS')
theorem DV.below (h : DV W ok L D) (hb : Below W.heap.size W W') : DV W' ok L D := h.turn (Turn.of_below hb (fun _ => False)) (fun _ _ _ hf => hf)
/-- the blocks that are only read may be told as those that were, and those since -/
theorem DV.mono {ok' : Nat → Prop} (h : DV W ok L D) (ho : ∀ k, ok k → ok' k) (hn : ∀ k, ok' k → k < W.heap.size → ¬ L.S k) : DV W ok' L D where
  top := h.top
  nx := h.nx
  we := h.we
  pg := by obtain ⟨vs, h1, h2⟩ := h.pg; exact ⟨vs, h1, h2.mono ho⟩
  mb := h.mb
  fl := ⟨Kd.F_mono h.fl.1 ho, h.fl.2⟩
  ne := h.ne
  nm := h.nm
  no := hn
  ok := h.ok
theorem DV.bound (h : DV W ok L D) : DV W (fun k => ok k ∧ k < W.heap.size) L D where
  top := h.top
  nx := h.nx
  we := h.we
  pg := by obtain ⟨vs, h1, h2⟩ := h.pg; exact ⟨vs, h1, h2.bound⟩
  mb := h.mb
  fl := ⟨Kd.F_bound h.fl.1, h.fl.2⟩
  ne := h.ne
  nm := h.nm
  no := fun k hk hl => h.no k hk.1 hl
  ok := h.ok
end
/-- what a call that turns the device leaves: new blocks are read too -/
def newer (W : World) (ok : Nat → Prop) (k : Nat) : Prop := ok k ∨ W.heap.size ≤ k
end Go.Proofs.Ytnchdmidaigheaa.ND
