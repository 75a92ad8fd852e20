import Derived.Test.YtnopjcakilfepaaCP
import Derived.Deep.Upon
namespace Go.Proofs.Ytnopjcakilfepaa.QS
set_option linter.unusedVariables false
set_option linter.unusedSimpArgs false
open Go.RowKit Go.Proofs.Ytnopjcakilfepaa.SS Go.Proofs.Ytnopjcakilfepaa.Hp Go.Proofs.YtnopjcakilfepaaW.PrintWords Go.Proofs.YtnopjcakilfepaaW.PrintLast Go.Proofs.YtnopjcakilfepaaW.PrintMore
section
variable {P : Program} {ops : Array Oper} {Q : Exit → Act → World → Prop}
theorem app_step {oi : Oper} {N : Option Tmp} {a : Act} {w : World} {K : Act → World → Prop} (hw : Region.wanted oi (yielded ops a.tmps) = true) (hN : oi.dst = N) {ts tx : Tmp} {t : TypeId} (ho : oi.op = .call { callee := .builtin .append, args := #[.tmp ts, .tmp tx], argTypes := #[t, t] })
    {v xv : Value} (hs : a.tmps[ts]? = some v) (hx : a.tmps[tx]? = some xv) {v' : Value} {w' : World} (hr : (Builtin.append_ #[t, t] oi.type #[v, xv]).run P w = .ok v' w') (h : K (a.put N v') w') :
    if Region.wanted oi (yielded ops a.tmps) = true then Oper.wp P oi a w K Q else K (a.put N undef) w := by
  rw [if_pos hw]
  subst hN
  have e1 : a.eval (.tmp ts) = v := by simp [Act.eval, Array.getD_eq_getD_getElem?, hs]
  have e2 : a.eval (.tmp tx) = xv := by simp [Act.eval, Array.getD_eq_getD_getElem?, hx]
  unfold Oper.wp execOp
  simp only [ho, resolve, invoke, builtin, Sem.run_bind, Sem.run_pure, Result.andThen_ok, List.map_toArray, List.map_cons, List.map_nil, e1, e2, hr]
  exact h
end
theorem app_own {W : World} (base : Nat) (ty : TypeId) (v : Value) (n : Nat) (xs : List Value) (ho : W.ownsRow base 29 8 v n xs) (ad : Addr) (m c : Nat) (ys : List Value) (hl : ys.length = m * 8) (hc : ∀ j u, ys[j]? = some u → W.cell? (ad.add j) = some u) (h1 : ∀ u ∈ ys, u.oneCell' = true) (hn : n + m ≤ 100000) (hb : base ≤ W.heap.size) :
    ∃ v' w', (Builtin.append_ #[22, 22] ty #[v, .slice (some ad) m c]).run Try.prog W = .ok v' w' ∧ w'.ownsRow base 29 8 v' (n + m) (xs ++ ys) ∧ W.grownBy w' v.ownBlock ∧ (v'.ownBlock = v.ownBlock ∨ v'.ownBlock = some W.heap.size) := by
  obtain ⟨i0, hi, hz⟩ := Option.map_eq_some_iff.1 inf_rec
  simp only [Prod.mk.injEq] at hz
  obtain ⟨v', w', h1, h2, h3, _, h5⟩ := run_append_own_at (P := Try.prog) W base 22 ty 29 i0 _ 8 80 Try.underlying22 hi hz.1 hz.2.1 hz.2.2 rfl (by decide) v n xs ho ad m c ys hl hc h1 (by unfold maxLen; omega) (by omega) hb
  exact ⟨v', w', h1, h2, h3, h5⟩
theorem app_empty {W : World} (base : Nat) (ty : TypeId) (g : Nat) (ho : W.ownsRow base 29 8 (.slice (some ⟨g, 0, none⟩) 0 0) 0 []) (A : Option Addr) (m c : Nat) (ys : List Value) (hl : ys.length = m * 8) (hA : A = none → m = 0) (hc : ∀ ad, A = some ad → ∀ j u, ys[j]? = some u → W.cell? (ad.add j) = some u) (h1 : ∀ u ∈ ys, u.oneCell' = true) (hn : m ≤ 100000) (hb : base ≤ W.heap.size) :
    ∃ v' w', (Builtin.append_ #[22, 22] ty #[.slice (some ⟨g, 0, none⟩) 0 0, .slice A m c]).run Try.prog W = .ok v' w' ∧ w'.ownsRow base 29 8 v' m ys ∧ Below W.heap.size W w' ∧ (v'.ownBlock = some g ∨ v'.ownBlock = some W.heap.size) := by
  obtain ⟨i0, hi, hz⟩ := Option.map_eq_some_iff.1 inf_rec
  simp only [Prod.mk.injEq] at hz
  rcases Nat.eq_zero_or_pos m with h0 | h0
  · subst h0
    obtain rfl : ys = [] := List.eq_nil_of_length_eq_zero (by omega)
    have hsrc : Src Try.prog i0.size 22 (.slice A 0 c) 0 [] W := by
      cases A with
      | none => exact Src.ofNil W Try.underlying22 c
      | some ad => exact Src.ofSlice W Try.underlying22 ad 0 c [] (by simp) (by simp) (by simp)
    exact ⟨_, W, run_append_nothing W 22 22 ty 29 i0 Try.underlying22 hi _ 0 0 (Nat.le_refl _) _ hsrc, ho, Below.refl _ _, .inl rfl⟩
  · obtain ⟨ad, rfl⟩ : ∃ ad, A = some ad := by
      cases A with
      | none => have := hA rfl; omega
      | some ad => exact ⟨ad, rfl⟩
    obtain ⟨v', w', hr, h2, h3, h5⟩ := app_own base ty _ 0 [] ho ad m c ys hl (hc ad rfl) h1 (by omega) hb
    have hsrc : Src Try.prog i0.size 22 (.slice (some ad) m c) m ys W := Src.ofSlice W Try.underlying22 ad m c ys (by rw [hz.2.1]; exact hl) (hc ad rfl) h1
    have hgr := run_append_grow_src (P := Try.prog) W 22 22 ty 29 i0 _ Try.underlying22 hi hz.1 (some ⟨g, 0, none⟩) 0 0 [] (run_firstCells_some W.drew i0.size 0 ⟨g, 0, none⟩ 0 0 [] (by simp) (by simp)) _ m ys hsrc (by omega) (by omega) (by
      rw [hz.2.2]
      exact growslice_fits (need := 0 + m) (old := 0) (bytes := 80) (by omega) (by omega))
    rw [hr] at hgr
    injection hgr with he1 he2
    refine ⟨v', w', hr, by rw [Nat.zero_add, List.nil_append] at h2; exact h2, ?_, ?_⟩
    · rw [he2]
      exact below_alloc (below_drew1 (Below.refl _ _)) _
    · rcases h5 with h5 | h5
      · exact .inl h5
      · exact .inr h5
theorem own_C {W : World} {base : Nat} {v : Value} {ps : List Rp} (ho : W.ownsRow base 29 8 v ps.length ((ps.map recOf).flatMap Rec.enc)) (hg : ∀ p ∈ ps, Pg W p.1 p.2.1 p.2.2) (hn : ps.length ≤ 100000) :
    ∃ A c, v = .slice A ps.length c ∧ ps.length ≤ c ∧ Kd.C k29 W A (ps.map (·.1)).length (ps.map (·.1)) := by
  obtain ⟨A, c, rfl⟩ := own_slice ho
  refine ⟨A, c, rfl, own_le ho, rfl, by rw [List.length_map]; omega, fun h0 => ?_⟩
  rw [List.length_map] at h0
  obtain ⟨g, cap, hv, _, _⟩ := ho.form h0
  injection hv with hv _ _
  subst hv
  refine ⟨_, rfl, fun i x hx => ?_⟩
  rw [List.getElem?_map] at hx
  obtain ⟨p, hp, rfl⟩ := Option.map_eq_some_iff.1 hx
  have hgp := hg p (List.mem_of_getElem? hp)
  refine ⟨(recOf p).enc, rfl, k29_mk W p.1 hgp.1 hgp.2, fun k u hu => ?_⟩
  have hk : k < 8 := (List.getElem?_eq_some_iff.1 hu).1
  have e := encs_at (ps.map recOf) i (recOf p) (by rw [List.getElem?_map, hp]; rfl) k hk
  exact ho.cells (g := g) rfl _ u (by rw [show (k29.sz : Nat) = 8 from rfl, e]; exact hu)
theorem store8 {g N : Nat} {w0 W : World} {y0 y1 y2 y3 y4 y5 y6 y7 : Value} (x : R0) (A7 : Option Addr) (c7 : Nat) (hz : W.heap[g]? = some (.cells #[y0, y1, y2, y3, y4, y5, y6, y7] 29 (0, 0)) ∧ N ≤ g) (hb2 : Below N w0 W) :
    Below N w0 ((((((((W.setCell ⟨g, 0, none⟩ (.int .u64 x.f0)).setCell ⟨g, 1, none⟩ (.int .u64 x.f1)).setCell ⟨g, 2, none⟩ (.int .i64 x.f2)).setCell ⟨g, 3, none⟩ (.int .i64 x.f3)).setCell ⟨g, 4, none⟩ (.int .u64 x.f4)).setCell ⟨g, 5, none⟩ (.bool x.f5)).setCell ⟨g, 6, none⟩ (.int .i64 x.f6)).setCell ⟨g, 7, none⟩ (.slice A7 x.f7.length c7)) ∧
    ((((((((W.setCell ⟨g, 0, none⟩ (.int .u64 x.f0)).setCell ⟨g, 1, none⟩ (.int .u64 x.f1)).setCell ⟨g, 2, none⟩ (.int .i64 x.f2)).setCell ⟨g, 3, none⟩ (.int .i64 x.f3)).setCell ⟨g, 4, none⟩ (.int .u64 x.f4)).setCell ⟨g, 5, none⟩ (.bool x.f5)).setCell ⟨g, 6, none⟩ (.int .i64 x.f6)).setCell ⟨g, 7, none⟩ (.slice A7 x.f7.length c7)).heap[g]? = some (.cells #[.int .u64 x.f0, .int .u64 x.f1, .int .i64 x.f2, .int .i64 x.f3, .int .u64 x.f4, .bool x.f5, .int .i64 x.f6, .slice A7 x.f7.length c7] 29 (0, 0)) := by
  have h0 := blk_put hz.1 0 (.int .u64 x.f0) (cs' := #[.int .u64 x.f0, y1, y2, y3, y4, y5, y6, y7]) rfl
  have h1 := blk_put h0 1 (.int .u64 x.f1) (cs' := #[.int .u64 x.f0, .int .u64 x.f1, y2, y3, y4, y5, y6, y7]) rfl
  have h2 := blk_put h1 2 (.int .i64 x.f2) (cs' := #[.int .u64 x.f0, .int .u64 x.f1, .int .i64 x.f2, y3, y4, y5, y6, y7]) rfl
  have h3 := blk_put h2 3 (.int .i64 x.f3) (cs' := #[.int .u64 x.f0, .int .u64 x.f1, .int .i64 x.f2, .int .i64 x.f3, y4, y5, y6, y7]) rfl
  have h4 := blk_put h3 4 (.int .u64 x.f4) (cs' := #[.int .u64 x.f0, .int .u64 x.f1, .int .i64 x.f2, .int .i64 x.f3, .int .u64 x.f4, y5, y6, y7]) rfl
  have h5 := blk_put h4 5 (.bool x.f5) (cs' := #[.int .u64 x.f0, .int .u64 x.f1, .int .i64 x.f2, .int .i64 x.f3, .int .u64 x.f4, .bool x.f5, y6, y7]) rfl
  have h6 := blk_put h5 6 (.int .i64 x.f6) (cs' := #[.int .u64 x.f0, .int .u64 x.f1, .int .i64 x.f2, .int .i64 x.f3, .int .u64 x.f4, .bool x.f5, .int .i64 x.f6, y7]) rfl
  have h7 := blk_put h6 7 (.slice A7 x.f7.length c7) (cs' := #[.int .u64 x.f0, .int .u64 x.f1, .int .i64 x.f2, .int .i64 x.f3, .int .u64 x.f4, .bool x.f5, .int .i64 x.f6, .slice A7 x.f7.length c7]) rfl
  have hg := hz.2
  exact ⟨(((((((hb2.setCell (p := ⟨g, 0, none⟩) hg _).setCell (p := ⟨g, 1, none⟩) hg _).setCell (p := ⟨g, 2, none⟩) hg _).setCell (p := ⟨g, 3, none⟩) hg _).setCell (p := ⟨g, 4, none⟩) hg _).setCell (p := ⟨g, 5, none⟩) hg _).setCell (p := ⟨g, 6, none⟩) hg _).setCell (p := ⟨g, 7, none⟩) hg _, h7⟩
theorem ne_of_hat {v' : Value} {g s k : Nat} (h : v'.ownBlock = some g ∨ v'.ownBlock = some s) (h1 : g ≠ k) (h2 : k < s) : v'.ownBlock ≠ some k := by
  intro e
  rcases h with h | h
  · rw [h] at e; exact h1 (Option.some.inj e)
  · rw [h] at e; have := Option.some.inj e; omega
end Go.Proofs.Ytnopjcakilfepaa.QS
