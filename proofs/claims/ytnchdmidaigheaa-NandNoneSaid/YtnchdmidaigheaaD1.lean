/- A device's calls that turn nothing: there, up, Marked, Next, Wear, Ops, Down, Sides. -/
import Derived.Test.YtnchdmidaigheaaDD
namespace Go.Proofs.Ytnchdmidaigheaa.ND
set_option linter.unusedVariables false
set_option linter.unusedSimpArgs false
open Go.RowKit Go.Proofs.Ytnchdmidaigheaa.Hp Go.Proofs.YtnchdmidaigheaaW.PrintWords Go.Proofs.YtnchdmidaigheaaW.PrintLast Go.Proofs.YtnchdmidaigheaaW.PrintMore
theorem top_cells {W : World} {ok : Nat → Prop} {L : Lay} {D : Dv} (h : DV W ok L D) :
    W.cell? ⟨L.g, 0, none⟩ = some (.int .i64 D.B) ∧ W.cell? ⟨L.g, 1, none⟩ = some (.int .i64 D.P) ∧ W.cell? ⟨L.g, 2, none⟩ = some (.int .i64 D.C) ∧ W.cell? ⟨L.g, 3, none⟩ = some (.slice (some ⟨L.gm, 0, none⟩) (marks D).length L.cm) ∧
    W.cell? ⟨L.g, 4, none⟩ = some (.slice (some ⟨L.gp, 0, none⟩) D.pages.length L.cp) ∧ W.cell? ⟨L.g, 5, none⟩ = some (.slice (some ⟨L.gn, 0, none⟩) D.next.length L.cn) ∧ W.cell? ⟨L.g, 6, none⟩ = some (.slice (some ⟨L.gw, 0, none⟩) D.wear.length L.cw) ∧
    W.cell? ⟨L.g, 7, none⟩ = some (.slice L.Af D.faults.length L.cf) ∧ W.cell? ⟨L.g, 8, none⟩ = some (.int .i64 D.ops) ∧ W.cell? ⟨L.g, 9, none⟩ = some (.bool D.down) :=
  ⟨blk_cell h.top 0, blk_cell h.top 1, blk_cell h.top 2, blk_cell h.top 3, blk_cell h.top 4, blk_cell h.top 5, blk_cell h.top 6, blk_cell h.top 7, blk_cell h.top 8, blk_cell h.top 9⟩
set_option maxHeartbeats 1000000 in
set_option maxRecDepth 100000 in
theorem there_calls {W : World} {ok : Nat → Prop} {L : Lay} {D : Dv} (h : DV W ok L D) (b : Int) :
    Calls Try.prog 62 #[.pointer (some ⟨L.g, 0, none⟩), .int .i64 b] W fun e w' => e = .returned (.bool (D.there b)) ∧ Below W.heap.size W w' := by
  obtain ⟨c0, -⟩ := top_cells h
  clear h
  obtain ⟨t, ht⟩ : ∃ t, t = D.there b := ⟨_, rfl⟩
  rw [← ht]
  unfold Dv.there at ht
  generalize L.g = g at c0 ⊢
  have B0 := Aside0.mk (Below.refl W.heap.size W)
  cases hb : decide (b ≥ 0) with
  | false =>
    rw [hb] at ht
    subst ht
    go_enter Try.func62, Try.ntmps62
    go_wp2_with fail
    go_ret
    exact ⟨rfl, B0.out⟩
  | true =>
    rw [hb, Bool.true_and] at ht
    rw [ht]
    clear ht
    go_enter Try.func62, Try.ntmps62
    go_wp2_with fail
    go_ret
    exact ⟨rfl, B0.out⟩
theorem marks_at {D : Dv} {n : Nat} (h : (n : Int) < D.B) : (marks D)[n]? = some (.bool (D.mark (n : Int))) := by
  unfold marks
  rw [List.getElem?_map, List.getElem?_range (by omega)]
  rfl
theorem ints_at {l : List Int} {n : Nat} (h : n < l.length) : (l.map (Value.int .i64))[n]? = some (.int .i64 (l.getD n 0)) := by
  rw [List.getElem?_map, List.getD_eq_getElem?_getD, List.getElem?_eq_getElem h]
  rfl
set_option maxHeartbeats 1000000 in
set_option maxRecDepth 100000 in
theorem marked_calls {W : World} {ok : Nat → Prop} {L : Lay} {D : Dv} (h : DV W ok L D) (b : Int) :
    Calls Try.prog 30 #[.pointer (some ⟨L.g, 0, none⟩), .int .i64 b] W fun e w' => e = .returned (.bool (D.there b && D.mark b)) ∧ Below W.heap.size W w' := by
  have HT := Aside0.mk (there_calls h b)
  have H := Aside0.mk h
  clear h
  cases hb : D.there b with
  | false =>
    rw [hb] at HT
    rw [Bool.false_and]
    clear hb
    go_enter Try.func30, Try.ntmps30
    go_wp2_with (go_at_call 62; refine HT.out.mono ?_; rintro e w2 ⟨rfl, hb⟩; have B0 := Aside0.mk hb; clear hb)
    go_ret
    exact ⟨rfl, B0.out⟩
  | true =>
    rw [hb] at HT
    obtain ⟨h0, h1⟩ := there_iff.1 hb
    obtain ⟨n, rfl⟩ := Int.eq_ofNat_of_zero_le h0
    have p1 := eq_true h0
    have q1 := eq_true (show (n : Int) < (((marks D).length : Nat) : Int) by rw [marks_len]; omega)
    rw [Bool.true_and]
    have H1 := Aside0.mk h1
    clear hb h0 h1
    go_enter Try.func30, Try.ntmps30
    go_wp2_with (go_at_call 62; refine HT.out.mono ?_; rintro e w2 ⟨rfl, hb⟩; have B0 := Aside0.mk hb; have c3 := (top_cells (H.out.below hb)).2.2.2.1; have ce := (H.out.below hb).mb.cell (marks_at H1.out); clear hb)
    go_ret
    exact ⟨rfl, B0.out⟩
set_option maxHeartbeats 1000000 in
set_option maxRecDepth 100000 in
theorem next_calls {W : World} {ok : Nat → Prop} {L : Lay} {D : Dv} (h : DV W ok L D) (b : Int) :
    Calls Try.prog 15 #[.pointer (some ⟨L.g, 0, none⟩), .int .i64 b] W fun e w' => e = .returned (.int .i64 (D.nextOf b)) ∧ Below W.heap.size W w' := by
  have HT := Aside0.mk (there_calls h b)
  have H := Aside0.mk h
  clear h
  cases hb : D.there b with
  | false =>
    rw [hb] at HT
    unfold Dv.nextOf
    rw [if_neg (by rw [hb]; decide)]
    clear hb
    go_enter Try.func15, Try.ntmps15
    go_wp2_with (go_at_call 62; refine HT.out.mono ?_; rintro e w2 ⟨rfl, hb⟩; have B0 := Aside0.mk hb; clear hb)
    go_ret
    exact ⟨rfl, B0.out⟩
  | true =>
    rw [hb] at HT
    obtain ⟨h0, h1⟩ := there_iff.1 hb
    obtain ⟨n, rfl⟩ := Int.eq_ofNat_of_zero_le h0
    have p1 := eq_true h0
    have q1 := eq_true (show (n : Int) < ((D.next.length : Nat) : Int) by have := H.out.ok.nl; omega)
    unfold Dv.nextOf
    rw [if_pos hb, Int.toNat_natCast]
    have H1 := Aside0.mk h1
    clear hb h0 h1
    go_enter Try.func15, Try.ntmps15
    go_wp2_with (go_at_call 62; refine HT.out.mono ?_; rintro e w2 ⟨rfl, hb⟩; have B0 := Aside0.mk hb; have c5 := (top_cells (H.out.below hb)).2.2.2.2.2.1; have ce := (H.out.below hb).nx.cell (ints_at (n := n) (by have := H.out.ok.nl; have := H1.out; omega)); clear hb)
    go_ret
    exact ⟨rfl, B0.out⟩
set_option maxHeartbeats 1000000 in
set_option maxRecDepth 100000 in
theorem wear_calls {W : World} {ok : Nat → Prop} {L : Lay} {D : Dv} (h : DV W ok L D) (b : Int) :
    Calls Try.prog 31 #[.pointer (some ⟨L.g, 0, none⟩), .int .i64 b] W fun e w' => e = .returned (.int .i64 (D.wearOf b)) ∧ Below W.heap.size W w' := by
  have HT := Aside0.mk (there_calls h b)
  have H := Aside0.mk h
  clear h
  cases hb : D.there b with
  | false =>
    rw [hb] at HT
    unfold Dv.wearOf
    rw [if_neg (by rw [hb]; decide)]
    clear hb
    go_enter Try.func31, Try.ntmps31
    go_wp2_with (go_at_call 62; refine HT.out.mono ?_; rintro e w2 ⟨rfl, hb⟩; have B0 := Aside0.mk hb; clear hb)
    go_ret
    exact ⟨rfl, B0.out⟩
  | true =>
    rw [hb] at HT
    obtain ⟨h0, h1⟩ := there_iff.1 hb
    obtain ⟨n, rfl⟩ := Int.eq_ofNat_of_zero_le h0
    have p1 := eq_true h0
    have q1 := eq_true (show (n : Int) < ((D.wear.length : Nat) : Int) by have := H.out.ok.wl; omega)
    unfold Dv.wearOf
    rw [if_pos hb, Int.toNat_natCast]
    have H1 := Aside0.mk h1
    clear hb h0 h1
    go_enter Try.func31, Try.ntmps31
    go_wp2_with (go_at_call 62; refine HT.out.mono ?_; rintro e w2 ⟨rfl, hb⟩; have B0 := Aside0.mk hb; have c6 := (top_cells (H.out.below hb)).2.2.2.2.2.2.1; have ce := (H.out.below hb).we.cell (ints_at (n := n) (by have := H.out.ok.wl; have := H1.out; omega)); clear hb)
    go_ret
    exact ⟨rfl, B0.out⟩
set_option maxHeartbeats 1000000 in
set_option maxRecDepth 100000 in
theorem ops_calls {W : World} {ok : Nat → Prop} {L : Lay} {D : Dv} (h : DV W ok L D) :
    Calls Try.prog 32 #[.pointer (some ⟨L.g, 0, none⟩)] W fun e w' => e = .returned (.int .i64 D.ops) ∧ Below W.heap.size W w' := by
  have c8 := (top_cells h).2.2.2.2.2.2.2.2.1
  have B0 := Aside0.mk (Below.refl W.heap.size W)
  clear h
  go_enter Try.func32, Try.ntmps32
  go_wp2_with fail
  go_ret
  exact ⟨rfl, B0.out⟩
set_option maxHeartbeats 1000000 in
set_option maxRecDepth 100000 in
theorem down_calls {W : World} {ok : Nat → Prop} {L : Lay} {D : Dv} (h : DV W ok L D) :
    Calls Try.prog 29 #[.pointer (some ⟨L.g, 0, none⟩)] W fun e w' => e = .returned (.bool D.down) ∧ Below W.heap.size W w' := by
  have c9 := (top_cells h).2.2.2.2.2.2.2.2.2
  have B0 := Aside0.mk (Below.refl W.heap.size W)
  clear h
  go_enter Try.func29, Try.ntmps29
  go_wp2_with fail
  go_ret
  exact ⟨rfl, B0.out⟩
set_option maxHeartbeats 1000000 in
set_option maxRecDepth 100000 in
theorem up_calls {W : World} {ok : Nat → Prop} {L : Lay} {D : Dv} (h : DV W ok L D) :
    Calls Try.prog 63 #[.pointer (some ⟨L.g, 0, none⟩)] W fun e w' => e = .returned (.int .i64 (if D.down = true then 9 else 0)) ∧ Below W.heap.size W w' := by
  have c9 := (top_cells h).2.2.2.2.2.2.2.2.2
  have B0 := Aside0.mk (Below.refl W.heap.size W)
  clear h
  cases hd : D.down with
  | true =>
    rw [hd] at c9
    clear hd
    go_enter Try.func63, Try.ntmps63
    go_wp2_with fail
    go_ret
    exact ⟨rfl, B0.out⟩
  | false =>
    rw [hd] at c9
    clear hd
    go_enter Try.func63, Try.ntmps63
    go_wp2_with fail
    go_ret
    exact ⟨rfl, B0.out⟩
end Go.Proofs.Ytnchdmidaigheaa.ND
