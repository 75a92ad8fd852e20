/- Faults in a row of the call's own. -/
import Derived.Test.YtnchdmidaigheaaD9
import Derived.Deep.Upon
namespace Go.Proofs.Ytnchdmidaigheaa.ND
set_option linter.unusedVariables false
set_option linter.unusedSimpArgs false
open Go.RowKit Go.Proofs.Ytnchdmidaigheaa.Hp Go.Proofs.YtnchdmidaigheaaW.PrintWords Go.Proofs.YtnchdmidaigheaaW.PrintLast Go.Proofs.YtnchdmidaigheaaW.PrintMore
section
variable {P : Program} {ops : Array Oper} {rest : List Oper} {Q : Exit → Act → World → Prop}
/-- append in a region that does not draw, by whatever its run is known to be -/
theorem app_wp {o : Oper} {a : Act} {w w' : World} (hgd : o.guard = none) (s x : Operand) (t : TypeId)
    (ho : o.op = .call { callee := .builtin .append, args := #[s, x], argTypes := #[t, t] }) {v xv v' : Value} (hs : a.eval s = v) (hx : a.eval x = xv)
    (hr : (Builtin.append_ #[t, t] o.type #[v, xv]).run P w = .ok v' w') (h : wpList P ops Q rest (a.put o.dst v') w') : wpList P ops Q (o :: rest) a w := by
  refine wpList_plain hgd fun K hK => ?_
  unfold Oper.wp execOp
  simp only [ho, resolve, invoke, builtin, Sem.run_bind, Sem.run_pure, Result.andThen_ok, List.map_toArray, List.map_cons, List.map_nil, hs, hx, hr]
  exact hK _ _ h
end
/-- append([]byte(nil), l...): a copy -/
theorem bytes_copy {W : World} {A : Option Addr} {c : Nat} {l : List Int} (gl : Kd.C (Kd.int .u8) W A l.length l) (hl : l.length ≤ 1000) :
    ∃ v' w', (Builtin.append_ #[38, 38] 38 #[.slice none 0 0, .slice A l.length c]).run Try.prog W = .ok v' w' ∧ w'.ownsRow W.heap.size 5 1 v' l.length (nums .u8 l) ∧ Below W.heap.size W w' := by
  rcases Nat.eq_zero_or_pos l.length with h0 | h0
  · obtain rfl := List.eq_nil_of_length_eq_zero h0
    obtain ⟨i0, hi, hzz⟩ := Option.map_eq_some_iff.1 (show (Try.prog.info? 5).map (fun i => (i.zero, i.size, i.bytes)) = some (some (.int .u8 0), 1, 1) by kernel_rfl)
    simp only [Prod.mk.injEq] at hzz
    have hsrc : Src Try.prog i0.size 38 (.slice A 0 c) 0 [] W := by
      cases A with
      | none => exact Src.ofNil W Try.underlying38 c
      | some ad => exact Src.ofSlice W Try.underlying38 ad 0 c [] (by simp) (by simp) (by simp)
    exact ⟨_, W, run_append_nothing W 38 38 38 5 i0 Try.underlying38 hi _ 0 0 (Nat.le_refl _) _ hsrc, World.ownsRow_nil _ _ _ _, Below.refl _ _⟩
  · obtain ⟨ad, rfl, hcc⟩ := gl.2.2 h0
    obtain ⟨v', w', h1, h2, h3, _⟩ := app_any W.heap.size 38 38 5 Try.underlying38 (z := .int .u8 0) (sz := 1) (bytes := 1) (by kernel_rfl) rfl (by decide) (by decide) (by decide) (.slice none 0 0) 0 [] (World.ownsRow_nil _ _ _ _) ad l.length c (nums .u8 l) (by simp [nums]) (fun j u hu => by
      unfold nums at hu
      rw [List.getElem?_map] at hu
      obtain ⟨x, hx, rfl⟩ := Option.map_eq_some_iff.1 hu
      obtain ⟨cs, hcl, hK, hc⟩ := hcc j x hx
      have hk : cs = [.int .u8 x] := hK
      subst hk
      have := hc 0 _ rfl
      have h' : W.cell? (ad.add (j * 1 + 0)) = some (.int .u8 x) := this
      rwa [Nat.mul_one, Nat.add_zero] at h') (fun u hu => by
      unfold nums at hu
      obtain ⟨x, _, rfl⟩ := List.mem_map.1 hu
      rfl) (by omega) (Nat.le_refl _)
    rw [Nat.zero_add, List.nil_append] at h2
    exact ⟨v', w', h1, h2, ⟨h3.os, h3.tape, h3.output, h3.size, fun k hk => h3.block k hk (by simp [Value.ownBlock])⟩⟩
/-- a row of bytes of the call's own, read with its footprint -/
theorem own_F {W : World} {base : Nat} {v : Value} {l : List Int} (h : W.ownsRow base 5 1 v l.length (nums .u8 l)) : ∃ A c, v = .slice A l.length c ∧ l.length ≤ c ∧ Kd.F (Kd.int .u8) W (fun k => base ≤ k) A l.length l := by
  have hR : Kd.R (Kd.int .u8) 5 W base (fun k => base ≤ k) v l := Kd.R_of_own (ok := fun k => base ≤ k) h (fun k hk => own_base h k hk)
  obtain ⟨A, c, rfl, hc, _⟩ := Kd.R_reads hR
  exact ⟨A, c, rfl, hc, Kd.R_F hR⟩
abbrev Fp := Flt × Option Addr × Nat
def encF (p : Fp) : List Value := [.int .i64 p.1.f0, .int .i64 p.1.f1, .slice p.2.1 p.1.f2.length p.2.2]
theorem encFs_len (ps : List Fp) : (ps.flatMap encF).length = ps.length * 3 := by
  induction ps with
  | nil => rfl
  | cons p r ih => rw [List.flatMap_cons, List.length_append, ih, List.length_cons]; show 3 + _ = _; omega
theorem encFs_at : ∀ (ps : List Fp) (i : Nat) (p : Fp), ps[i]? = some p → ∀ j, j < 3 → (ps.flatMap encF)[i * 3 + j]? = (encF p)[j]?
  | [], i, p, h, j, hj => by simp at h
  | q :: r, 0, p, h, j, hj => by
    obtain rfl : q = p := by simpa using h
    rw [List.flatMap_cons, List.getElem?_append_left (by show _ < 3; omega)]
    congr 1
    omega
  | q :: r, i + 1, p, h, j, hj => by
    rw [List.flatMap_cons, List.getElem?_append_right (by show 3 ≤ _; omega)]
    have := encFs_at r i p (by simpa using h) j hj
    rw [← this]
    congr 1
    show (i + 1) * 3 + j - 3 = i * 3 + j
    omega
/-- faults, each with its mask's row -/
def FRow (W : World) (ok : Nat → Prop) (ps : List Fp) : Prop := ∀ p ∈ ps, p.1.f2.length ≤ p.2.2 ∧ Kd.F (Kd.int .u8) W ok p.2.1 p.1.f2.length p.1.f2
theorem FRow.step {W W' : World} {ok : Nat → Prop} {ps : List Fp} (h : FRow W ok ps) (hm : ∀ k, ok k → k < W.heap.size → W'.heap[k]? = W.heap[k]?) : FRow W' ok ps := fun p hp => ⟨(h p hp).1, Kd.F_step (h p hp).2 hm⟩
theorem FRow.snoc {W : World} {ok : Nat → Prop} {ps : List Fp} (h : FRow W ok ps) {p : Fp} (h1 : p.1.f2.length ≤ p.2.2) (h2 : Kd.F (Kd.int .u8) W ok p.2.1 p.1.f2.length p.1.f2) : FRow W ok (ps ++ [p]) := fun q hq => by
  rcases List.mem_append.1 hq with hq | hq
  · exact h q hq
  · rw [List.mem_singleton.1 hq]; exact ⟨h1, h2⟩
abbrev okw (W5 : World) (v : Value) (k : Nat) : Prop := W5.heap.size ≤ k ∧ some k ≠ v.ownBlock
theorem fault_app {W6 W : World} {vf : Value} {n : Nat} {ps : List Fp} (ho : W.ownsRow W6.heap.size 65 3 vf n (ps.flatMap encF)) (hg : FRow W (okw W6 vf) ps) {p : Fp} (h1 : p.1.f2.length ≤ p.2.2) (h2 : Kd.F (Kd.int .u8) W (okw W6 vf) p.2.1 p.1.f2.length p.1.f2) {gx : Nat} (hx : W.heap[gx]? = some (.cells #[.int .i64 p.1.f0, .int .i64 p.1.f1, .slice p.2.1 p.1.f2.length p.2.2] 65 (0, 0))) (hn : n + 1 ≤ 100000) (hs : W6.heap.size ≤ W.heap.size) :
    ∃ v' w', (Builtin.append_ #[25, 25] 25 #[vf, .slice (some ⟨gx, 0, none⟩) 1 1]).run Try.prog W = .ok v' w' ∧ w'.ownsRow W6.heap.size 65 3 v' (n + 1) ((ps ++ [p]).flatMap encF) ∧ FRow w' (okw W6 v') (ps ++ [p]) ∧ W.grownBy w' vf.ownBlock := by
  obtain ⟨v', w', e1, e2, e3, e4⟩ := app_any W6.heap.size 25 25 65 Try.underlying25 (z := .agg #[.int .i64 0, .int .i64 0, .slice none 0 0]) (sz := 3) (bytes := 40) (by kernel_rfl) rfl (by decide) (by decide) (by decide) vf n _ ho ⟨gx, 0, none⟩ 1 1 (encF p) rfl (fun j u hu => by rw [add_plain, blk_cell hx, ← hu]; show (encF p).toArray[j]? = _; rw [List.getElem?_toArray]) (fun u hu => by
    unfold encF at hu
    simp only [List.mem_cons, List.not_mem_nil, or_false] at hu
    rcases hu with rfl | rfl | rfl <;> rfl) hn hs
  refine ⟨v', w', e1, by rw [List.flatMap_append]; simpa using e2, ?_, e3⟩
  have hat : v'.ownBlock = vf.ownBlock ∨ ∃ b, v'.ownBlock = some b ∧ W.heap.size ≤ b := by
    rcases e4 with e4 | e4
    · exact .inl e4
    · exact .inr ⟨_, e4, Nat.le_refl _⟩
  intro q hq
  have := (hg.snoc h1 h2) q hq
  exact ⟨this.1, Kd.F_after (ok := fun k => W6.heap.size ≤ k) this.2 e3 hat⟩
theorem own_moved {w w1 : World} {base : Nat} {e : TypeId} {size n : Nat} {v : Value} {xs : List Value} (h : w.ownsRow base e size v n xs) (hm : ∀ k, v.ownBlock = some k → k < w.heap.size → w1.heap[k]? = w.heap[k]?) : w1.ownsRow base e size v n xs := own_move h (fun k hk => hm k hk (own_lt h k hk))
/-- the row of faults, read with its footprint -/
theorem faults_F {W : World} {base : Nat} {v : Value} {ps : List Fp} {ok : Nat → Prop} (ho : W.ownsRow base 65 3 v ps.length (ps.flatMap encF)) (hg : FRow W ok ps) (hok : ∀ k, v.ownBlock = some k → ok k) (hn : ps.length ≤ 1000) :
    ∃ A c, v = .slice A ps.length c ∧ ps.length ≤ c ∧ Kd.F k65 W ok A ps.length (ps.map (·.1)) := by
  obtain ⟨A, c, rfl⟩ := own_slice ho
  refine ⟨A, c, rfl, own_le ho, fun W' hW => ?_⟩
  have ho' := own_moved ho (fun k hk hlt => hW k (hok k hk) hlt)
  refine ⟨by rw [List.length_map], by omega, fun h0 => ?_⟩
  obtain ⟨g, cap, hv, _, _⟩ := ho'.form h0
  injection hv with hv _ _
  subst hv
  refine ⟨_, rfl, fun i x hx => ?_⟩
  rw [List.getElem?_map] at hx
  obtain ⟨p, hp, rfl⟩ := Option.map_eq_some_iff.1 hx
  have hgp := hg p (List.mem_of_getElem? hp)
  refine ⟨encF p, rfl, k65_mk W' p.1 hgp.1 (hgp.2 W' hW), fun k u hu => ?_⟩
  have hk : k < 3 := (List.getElem?_eq_some_iff.1 hu).1
  have e := encFs_at ps i p hp k hk
  exact ho'.cells (g := g) rfl _ u (by rw [show (k65.sz : Nat) = 3 from rfl, e]; exact hu)
end Go.Proofs.Ytnchdmidaigheaa.ND
