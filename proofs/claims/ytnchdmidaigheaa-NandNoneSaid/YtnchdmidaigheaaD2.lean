/- A device's cells turned one at a time. -/
import Derived.Test.YtnchdmidaigheaaD1
import Derived.Test.YtnchdmidaigheaaWN
namespace Go.Proofs.Ytnchdmidaigheaa.ND
set_option linter.unusedVariables false
set_option linter.unusedSimpArgs false
open Go.RowKit Go.Proofs.Ytnchdmidaigheaa.Hp Go.Proofs.YtnchdmidaigheaaW.PrintWords Go.Proofs.YtnchdmidaigheaaW.PrintLast Go.Proofs.YtnchdmidaigheaaW.PrintMore
section
variable {W : World} {ok : Nat → Prop} {L : Lay} {D : Dv}
theorem DV.ro (h : DV W ok L D) {p : Addr} (hp : L.S p.block) (u : Value) : ∀ k, ok k → k < W.heap.size → (W.setCell p u).heap[k]? = W.heap[k]? := fun k hk hl => Below.heap_setCell W p u k (fun e => h.no k hk hl (e ▸ hp))
theorem gm_ne (h : DV W ok L D) : L.gm ≠ L.g ∧ L.gm ≠ L.gp ∧ L.gm ≠ L.gn ∧ L.gm ≠ L.gw := ⟨fun e => h.nm (.inl e), fun e => h.nm (.inr (.inl e)), fun e => h.nm (.inr (.inr (.inl e))), fun e => h.nm (.inr (.inr (.inr e)))⟩
theorem DV.set_down (h : DV W ok L D) (x : Bool) : DV (W.setCell ⟨L.g, 9, none⟩ (.bool x)) ok L { D with down := x } where
  top := blk_put h.top 9 (.bool x) rfl
  nx := h.nx.far h.ne.2.1 _
  we := h.we.far h.ne.2.2.1 _
  pg := by obtain ⟨vs, h1, h2⟩ := h.pg; exact ⟨vs, h1.far h.ne.1 _, h2.step (h.ro (.inl rfl) _)⟩
  mb := h.mb.far (gm_ne h).1 _
  fl := ⟨Kd.F_step h.fl.1 (h.ro (.inl rfl) _), h.fl.2⟩
  ne := h.ne
  nm := h.nm
  no := fun k hk hl => h.no k hk (by simpa using hl)
  ok := { h.ok with }
theorem DV.set_ops (h : DV W ok L D) (x : Int) : DV (W.setCell ⟨L.g, 8, none⟩ (.int .i64 x)) ok L { D with ops := x } where
  top := blk_put h.top 8 (.int .i64 x) rfl
  nx := h.nx.far h.ne.2.1 _
  we := h.we.far h.ne.2.2.1 _
  pg := by obtain ⟨vs, h1, h2⟩ := h.pg; exact ⟨vs, h1.far h.ne.1 _, h2.step (h.ro (.inl rfl) _)⟩
  mb := h.mb.far (gm_ne h).1 _
  fl := ⟨Kd.F_step h.fl.1 (h.ro (.inl rfl) _), h.fl.2⟩
  ne := h.ne
  nm := h.nm
  no := fun k hk hl => h.no k hk (by simpa using hl)
  ok := { h.ok with }
theorem DV.set_next (h : DV W ok L D) (n : Nat) (x : Int) (hx : 0 ≤ x ∧ x ≤ D.P) : DV (W.setCell ⟨L.gn, n, none⟩ (.int .i64 x)) ok L { D with next := D.next.set n x } where
  top := by
    have := blk_far h.top (p := ⟨L.gn, n, none⟩) h.ne.2.1.symm (.int .i64 x)
    rw [this]
    unfold Lay.top
    simp only [List.length_set]
    rfl
  nx := by
    have := h.nx.set n (.int .i64 x)
    rwa [← List.map_set] at this
  we := h.we.far (p := ⟨L.gn, n, none⟩) h.ne.2.2.2.2.2.symm _
  pg := by obtain ⟨vs, h1, h2⟩ := h.pg; exact ⟨vs, h1.far (p := ⟨L.gn, n, none⟩) h.ne.2.2.2.1 _, h2.step (h.ro (.inr (.inr (.inl rfl))) _)⟩
  mb := h.mb.far (p := ⟨L.gn, n, none⟩) (gm_ne h).2.2.1 _
  fl := ⟨Kd.F_step h.fl.1 (h.ro (.inr (.inr (.inl rfl))) _), h.fl.2⟩
  ne := h.ne
  nm := h.nm
  no := fun k hk hl => h.no k hk (by simpa using hl)
  ok := { h.ok with
    nl := by show ((D.next.set _ _).length : Int) = _; rw [List.length_set]; exact h.ok.nl
    nr := fun y hy => by
      rcases List.mem_or_eq_of_mem_set hy with h' | h'
      · exact h.ok.nr y h'
      · rw [h']; exact hx }
theorem DV.set_wear (h : DV W ok L D) (n : Nat) (x : Int) (hx : -9223372036854775808 ≤ x ∧ x ≤ 9223372036854775807) : DV (W.setCell ⟨L.gw, n, none⟩ (.int .i64 x)) ok L { D with wear := D.wear.set n x } where
  top := by
    have := blk_far h.top (p := ⟨L.gw, n, none⟩) h.ne.2.2.1.symm (.int .i64 x)
    rw [this]
    unfold Lay.top
    simp only [List.length_set]
    rfl
  nx := h.nx.far (p := ⟨L.gw, n, none⟩) h.ne.2.2.2.2.2 _
  we := by
    have := h.we.set n (.int .i64 x)
    rwa [← List.map_set] at this
  pg := by obtain ⟨vs, h1, h2⟩ := h.pg; exact ⟨vs, h1.far (p := ⟨L.gw, n, none⟩) h.ne.2.2.2.2.1 _, h2.step (h.ro (.inr (.inr (.inr rfl))) _)⟩
  mb := h.mb.far (p := ⟨L.gw, n, none⟩) (gm_ne h).2.2.2 _
  fl := ⟨Kd.F_step h.fl.1 (h.ro (.inr (.inr (.inr rfl))) _), h.fl.2⟩
  ne := h.ne
  nm := h.nm
  no := fun k hk hl => h.no k hk (by simpa using hl)
  ok := { h.ok with
    wl := by show ((D.wear.set _ _).length : Int) = _; rw [List.length_set]; exact h.ok.wl
    wr := fun y hy => by
      rcases List.mem_or_eq_of_mem_set hy with h' | h'
      · exact h.ok.wr y h'
      · rw [h']; exact hx }
theorem DV.set_page (h : DV W ok L D) (n : Nat) {A : Option Addr} {c : Nat} {l : List Int} (hc : 256 ≤ c) (hF : Kd.F (Kd.int .u8) W ok A 256 l) (hl : isBytes l ∧ l.length = 256) : DV (W.setCell ⟨L.gp, n, none⟩ (.slice A 256 c)) ok L { D with pages := D.pages.set n l } where
  top := by
    have := blk_far h.top (p := ⟨L.gp, n, none⟩) h.ne.1.symm (.slice A 256 c)
    rw [this]
    unfold Lay.top
    simp only [List.length_set]
    rfl
  nx := h.nx.far (p := ⟨L.gp, n, none⟩) h.ne.2.2.2.1.symm _
  we := h.we.far (p := ⟨L.gp, n, none⟩) h.ne.2.2.2.2.1.symm _
  pg := by
    obtain ⟨vs, h1, h2⟩ := h.pg
    exact ⟨_, h1.set n _, (h2.set n hc hF).step (h.ro (.inr (.inl rfl)) _)⟩
  mb := h.mb.far (p := ⟨L.gp, n, none⟩) (gm_ne h).2.1 _
  fl := ⟨Kd.F_step h.fl.1 (h.ro (.inr (.inl rfl)) _), h.fl.2⟩
  ne := h.ne
  nm := h.nm
  no := fun k hk hl => h.no k hk (by simpa using hl)
  ok := { h.ok with
    pl := by show ((D.pages.set _ _).length : Int) = _; rw [List.length_set]; exact h.ok.pl
    pw := fun y hy => by
      rcases List.mem_or_eq_of_mem_set hy with h' | h'
      · exact h.ok.pw y h'
      · rw [h']; exact hl }
end
set_option maxHeartbeats 1000000 in
set_option maxRecDepth 100000 in
theorem power_calls {W : World} {ok : Nat → Prop} {L : Lay} {D : Dv} (h : DV W ok L D) :
    Calls Try.prog 19 #[.pointer (some ⟨L.g, 0, none⟩)] W fun e w' => e = .returned (.tuple #[]) ∧ DV w' ok L D.power ∧ Turn W w' L.S := by
  have HD := Aside0.mk (h.set_down false)
  have HT := Aside0.mk ((Turn.refl W L.S).setCell (p := ⟨L.g, 9, none⟩) (.inl (.inl rfl)) (.bool false))
  have c9 := (top_cells h).2.2.2.2.2.2.2.2.2
  have f9 := blk_frozen h.top 9
  clear h
  go_enter Try.func19, Try.ntmps19
  go_wp2_with fail
  go_end0
  exact ⟨rfl, HD.out, HT.out⟩
set_option maxHeartbeats 1000000 in
set_option maxRecDepth 100000 in
theorem end_calls {W : World} {ok : Nat → Prop} {L : Lay} {D : Dv} (h : DV W ok L D) (hd : D.down = false) (k : Int) (hk : k = 0 ∨ k = 1 ∨ k = 2) :
    Calls Try.prog 68 #[.pointer (some ⟨L.g, 0, none⟩), .int .i64 k] W fun e w' => e = .returned (.int .i64 (ended k)) ∧ DV w' ok L { D with down := k == 2 } ∧ Turn W w' L.S := by
  have HS : Aside0 (D = { D with down := false }) := ⟨by rw [← hd]⟩
  rcases hk with rfl | rfl | rfl
  · have H := Aside0.mk h
    have HT := Aside0.mk (Turn.refl W L.S)
    clear h hd
    go_enter Try.func68, Try.ntmps68
    go_wp2_with fail
    go_ret
    exact ⟨rfl, HS.out ▸ H.out, HT.out⟩
  · have H := Aside0.mk h
    have HT := Aside0.mk (Turn.refl W L.S)
    clear h hd
    go_enter Try.func68, Try.ntmps68
    go_wp2_with fail
    go_ret
    exact ⟨rfl, HS.out ▸ H.out, HT.out⟩
  · have HD := Aside0.mk (h.set_down true)
    have HT := Aside0.mk ((Turn.refl W L.S).setCell (p := ⟨L.g, 9, none⟩) (.inl (.inl rfl)) (.bool true))
    have c9 := (top_cells h).2.2.2.2.2.2.2.2.2
    have f9 := blk_frozen h.top 9
    clear h hd
    go_enter Try.func68, Try.ntmps68
    go_wp2_with fail
    go_ret
    exact ⟨rfl, HD.out, HT.out⟩
end Go.Proofs.Ytnchdmidaigheaa.ND
