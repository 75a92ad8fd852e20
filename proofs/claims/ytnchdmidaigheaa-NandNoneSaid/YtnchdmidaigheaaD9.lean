/- A device's sides; words for a device that is made. -/
import Derived.Test.YtnchdmidaigheaaD8
namespace Go.Proofs.Ytnchdmidaigheaa.ND
set_option linter.unusedVariables false
set_option linter.unusedSimpArgs false
open Go.RowKit Go.Proofs.Ytnchdmidaigheaa.Hp Go.Proofs.YtnchdmidaigheaaW.PrintWords Go.Proofs.YtnchdmidaigheaaW.PrintLast Go.Proofs.YtnchdmidaigheaaW.PrintMore
theorem results_c {P : Program} {fn : Func} {p : Tmp} {ty : TypeId} (h : fn.results = #[.cell p ty]) (tmps : Array Value) (w : World) (g : Nat) (t : TypeId) (cs : Array Value) (fr : Nat × Nat) (d : TypeDesc)
    (hp : tmps.getD p undef = .pointer (some ⟨g, 0, none⟩)) (hg : w.heap[g]? = some (.cells cs t fr))
    (hu : P.underlying ty = some d) (hd : (match d with | .struct _ | .array _ _ => true | _ => false) = true) (hi : (P.info? ty).map (·.size) = some cs.size) :
    (results fn tmps).run P w = .ok (.agg cs) w := by
  have hp' : tmps[p]?.getD undef = .pointer (some ⟨g, 0, none⟩) := by simpa using hp
  simp [results, h, hp', asAddr, run_loadVar_row w g t ty cs fr d hg hu hd hi]
set_option maxHeartbeats 1000000 in
set_option maxRecDepth 100000 in
theorem sides_calls {W : World} {ok : Nat → Prop} {L : Lay} {D : Dv} (h : DV W ok L D) :
    Calls Try.prog 23 #[.pointer (some ⟨L.g, 0, none⟩)] W fun e w' => e = .returned (.agg #[.int .i64 D.B, .int .i64 D.P, .int .i64 D.C]) ∧ Below W.heap.size W w' := by
  have hz1 := heap_alloc_new W (.cells #[.int .i64 0, .int .i64 0, .int .i64 0] 23)
  have hb1 := below_alloc (Below.refl W.heap.size W) (.cells #[.int .i64 0, .int .i64 0, .int .i64 0] 23)
  have H1 := Aside0.mk (h.below hb1)
  obtain ⟨g, hg⟩ : ∃ g, g = W.heap.size := ⟨_, rfl⟩
  clear h
  go_enter Try.func23, Try.ntmps23
  go_upto_region 1 with fail
  generalize W.alloc (.cells #[.int .i64 0, .int .i64 0, .int .i64 0] 23) = W2 at hz1 hb1 H1 ⊢
  rw [← hg] at hz1 ⊢
  have h1 := blk_put hz1 0 (.int .i64 D.B) (cs' := #[.int .i64 D.B, .int .i64 0, .int .i64 0]) rfl
  have h2 := blk_put h1 1 (.int .i64 D.P) (cs' := #[.int .i64 D.B, .int .i64 D.P, .int .i64 0]) rfl
  have h3 := blk_put h2 2 (.int .i64 D.C) (cs' := #[.int .i64 D.B, .int .i64 D.P, .int .i64 D.C]) rfl
  have HST := Aside0.mk h3
  have HB := Aside0.mk (((hb1.setCell (p := ⟨g, 0, none⟩) (Nat.le_of_eq hg.symm) (.int .i64 D.B)).setCell (p := ⟨g, 1, none⟩) (Nat.le_of_eq hg.symm) (.int .i64 D.P)).setCell (p := ⟨g, 2, none⟩) (Nat.le_of_eq hg.symm) (.int .i64 D.C))
  have hh := top_cells H1.out
  have c0 := hh.1
  have c1 := hh.2.1
  have c2 := hh.2.2.1
  have d0 := blk_cell hz1 0
  have d1 := blk_cell hz1 1
  have d2 := blk_cell hz1 2
  have f0 := blk_frozen hz1 0
  have f1 := blk_frozen hz1 1
  have f2 := blk_frozen hz1 2
  clear hh h1 h2 h3 hb1 hz1 hg
  go_wp2_with fail
  (try simp only [Exit.inBlock, Exit.then])
  refine bodyPost_ret (results_c rfl _ _ g 23 _ (0, 0) _ rfl HST.out Try.underlying23 rfl (by kernel_rfl)) rfl ?_
  exact ⟨rfl, HB.out⟩
/-- append to a row of the call's own, of whatever elements -/
theorem app_any {W : World} (base ty T e : TypeId) (hT : Try.prog.underlying T = some (.slice e)) {z : Value} {sz bytes : Nat} (hinf : (Try.prog.info? e).map (fun i => (i.zero, i.size, i.bytes)) = some (some z, sz, bytes)) (hz : z.cells.size = sz) (hs : 0 < sz) (hb0 : 0 < bytes) (hb1 : bytes ≤ 1000)
    (v : Value) (n : Nat) (xs : List Value) (ho : W.ownsRow base e sz v n xs) (ad : Addr) (m c : Nat) (ys : List Value) (hl : ys.length = m * sz) (hc : ∀ (j : Nat) (u : Value), ys[j]? = some u → W.cell? (ad.add j) = some u) (h1 : ∀ u ∈ ys, u.oneCell' = true) (hn : n + m ≤ 100000) (hb : base ≤ W.heap.size) :
    ∃ v' w', (Builtin.append_ #[T, T] ty #[v, .slice (some ad) m c]).run Try.prog W = .ok v' w' ∧ w'.ownsRow base e sz v' (n + m) (xs ++ ys) ∧ W.grownBy w' v.ownBlock ∧ (v'.ownBlock = v.ownBlock ∨ v'.ownBlock = some W.heap.size) := by
  obtain ⟨i0, hi, hzz⟩ := Option.map_eq_some_iff.1 hinf
  simp only [Prod.mk.injEq] at hzz
  have hmul : (n + m) * bytes ≤ 100000 * 1000 := Nat.mul_le_mul hn hb1
  obtain ⟨v', w', h1, h2, h3, _, h5⟩ := run_append_own_at (P := Try.prog) W base T ty e i0 _ sz bytes hT hi hzz.1 hzz.2.1 hzz.2.2 hz hs v n xs ho ad m c ys hl hc h1 (by unfold maxLen; omega) (by omega) hb
  exact ⟨v', w', h1, h2, h3, h5⟩
end Go.Proofs.Ytnchdmidaigheaa.ND
