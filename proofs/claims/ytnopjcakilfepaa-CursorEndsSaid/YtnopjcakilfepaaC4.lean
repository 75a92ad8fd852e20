import Derived.Test.YtnopjcakilfepaaC3
namespace Go.Proofs.Ytnopjcakilfepaa.QS
set_option linter.unusedVariables false
set_option linter.unusedSimpArgs false
open Go.RowKit Go.Proofs.Ytnopjcakilfepaa.SS Go.Proofs.Ytnopjcakilfepaa.Hp Go.Proofs.YtnopjcakilfepaaW.PrintWords Go.Proofs.YtnopjcakilfepaaW.PrintLast Go.Proofs.YtnopjcakilfepaaW.PrintMore
theorem results_ct {P : Program} {fn : Func} {p q : Tmp} {ty : TypeId} (h : fn.results = #[.cell p ty, .tmp q]) (tmps : Array Value) (w : World) (g : Nat) (t : TypeId) (cs : Array Value) (fr : Nat × Nat) (d : TypeDesc) (v : Value)
    (hp : tmps.getD p undef = .pointer (some ⟨g, 0, none⟩)) (hq : tmps.getD q undef = v) (hg : w.heap[g]? = some (.cells cs t fr))
    (hu : P.underlying ty = some d) (hd : (match d with | .struct _ | .array _ _ => true | _ => false) = true) (hi : (P.info? ty).map (·.size) = some cs.size) :
    (results fn tmps).run P w = .ok (.tuple #[.agg cs, v]) w := by
  have hp' : tmps[p]?.getD undef = .pointer (some ⟨g, 0, none⟩) := by simpa using hp
  have hq' : tmps[q]?.getD undef = v := by simpa using hq
  simp [results, h, hp', hq', asAddr, run_loadVar_row w g t ty cs fr d hg hu hd hi]
def lightL (l : List R0) : Prop := l.length ≤ 1000 ∧ ∀ x ∈ l, x.f7.length ≤ 1000
def waits (l : List R0) : List R0 := l.filter fun x => !x.f5
def orderOf (l : List R0) : List R0 := ssort ltS (waits l)
def classOf (l : List R0) (p : Int) : List R0 := ssort ltS (l.filter fun x => !x.f5 && (x.f2 == p))
theorem order_len (l : List R0) : (orderOf l).length ≤ l.length := by unfold orderOf waits; rw [ssort_length]; exact List.length_filter_le _ _
theorem sorted_calls {W : World} {base : Nat} {ok : Nat → Prop} {v : Value} {l : List R0} (hn : l.length ≤ 100000) (h : Kd.R k29 29 W base ok v l) :
    Calls Try.prog 48 #[v] W fun e w' => e = .returned v ∧ Kd.R k29 29 w' base ok v (ssort ltS l) ∧ W.grownBy w' v.ownBlock := by
  have HS := Aside0.mk (sort_R ltQ ltS (fun _ _ => rfl) ltQ_ord cmp_sorted hn h)
  clear h hn
  go_enter Try.func48, Try.ntmps48
  go_wp2_with (go_at_call 63; refine HS.out.mono ?_; rintro e w2 ⟨rfl, hr, hg⟩; replace hr := Aside0.mk hr; replace hg := Aside0.mk hg)
  go_ret
  exact ⟨rfl, hr.out, hg.out⟩
theorem order1_calls (x : R0) (A : Option Addr) (c : Nat) (w : World) :
    Calls Try.prog 50 #[.agg #[.int .u64 x.f0, .int .u64 x.f1, .int .i64 x.f2, .int .i64 x.f3, .int .u64 x.f4, .bool x.f5, .int .i64 x.f6, .slice A x.f7.length c]] w fun e w' => e = .returned (.bool true) ∧ Below w.heap.size w w' := by
  go_enter Try.func50, Try.ntmps50
  go_wp2_with fail
  go_ret
  exact ⟨rfl, below_alloc (Below.refl _ _) _⟩
set_option maxHeartbeats 4000000 in
theorem order_calls (l : List R0) (hl : lightL l) (A : Option Addr) (cp : Nat) (w : World) (hC : Kd.C k29 w A l.length l) :
    Calls Try.prog 13 #[.slice A l.length cp] w fun e w' => ∃ v, e = .returned v ∧ Kd.R k29 29 w' w.heap.size (fun k => w.heap.size ≤ k) v (orderOf l) ∧ Below w.heap.size w w' := by
  have hsome := some_calls 50 _ #[] Try.func50 (by kernel_rfl) rfl (fun _ => true) l A cp w hl.1 hl.2 hC (fun W hW x Ap cpp => order1_calls x Ap cpp W)
  have e1 : (l.filter fun x => !x.f5 && (fun _ => true) x) = waits l := by unfold waits; congr 1; funext x; simp
  rw [e1] at hsome
  have hlen : (waits l).length ≤ 100000 := by have := List.length_filter_le (fun x : R0 => !x.f5) l; have := hl.1; unfold waits; omega
  replace hsome := Aside0.mk hsome
  replace hlen := Aside0.mk hlen
  clear hC hl e1
  go_enter Try.func13, Try.ntmps13
  go_wp2_with (first | (go_at_call 49; refine hsome.out.mono ?_; rintro e w2 ⟨v, rfl, hr, hb⟩; replace hr := Aside0.mk hr; replace hb := Aside0.mk hb) | (go_at_call 48; refine (sorted_calls hlen.out hr.out).mono ?_; rintro e w3 ⟨rfl, hr3, hg3⟩; replace hr3 := Aside0.mk hr3; replace hg3 := Aside0.mk hg3))
  go_ret
  exact ⟨v, rfl, hr3.out, pw_below_grown hb.out _ hb.out.size hg3.out (fun k hk => hr3.out.1 k hk)⟩
theorem c_far {W : World} {A : Option Addr} {xs : List Int} (h : Kd.C (Kd.int .i64) W A xs.length xs) {g : Nat} (hne : ∀ ad, 0 < xs.length → A = some ad → ad.block ≠ g) (o : Nat) (u : Value) : Kd.C (Kd.int .i64) (W.setCell ⟨g, o, none⟩ u) A xs.length xs := by
  refine ⟨rfl, h.2.1, fun h0 => ?_⟩
  obtain ⟨ad, rfl, hc⟩ := h.2.2 h0
  refine ⟨ad, rfl, fun j p hj => ?_⟩
  obtain ⟨c, h1, h2, h3⟩ := hc j p hj
  refine ⟨c, h1, h2, fun i u' hu => ?_⟩
  rw [← h3 i u' hu]
  refine World.cell?_of_block ?_
  exact Below.heap_setCell _ _ _ _ (by rw [add_block]; exact hne ad h0 rfl)
theorem c_far8 {W : World} {A : Option Addr} {xs : List Int} (h : Kd.C (Kd.int .i64) W A xs.length xs) {g : Nat} (hne : ∀ ad, 0 < xs.length → A = some ad → ad.block ≠ g) (u0 u1 u2 u3 u4 u5 u6 u7 : Value) :
    Kd.C (Kd.int .i64) ((((((((W.setCell ⟨g, 0, none⟩ u0).setCell ⟨g, 1, none⟩ u1).setCell ⟨g, 2, none⟩ u2).setCell ⟨g, 3, none⟩ u3).setCell ⟨g, 4, none⟩ u4).setCell ⟨g, 5, none⟩ u5).setCell ⟨g, 6, none⟩ u6).setCell ⟨g, 7, none⟩ u7) A xs.length xs :=
  c_far (c_far (c_far (c_far (c_far (c_far (c_far (c_far h hne _ _) hne _ _) hne _ _) hne _ _) hne _ _) hne _ _) hne _ _) hne _ _
def headOr (l : List R0) : R0 := l.headD z29
set_option maxHeartbeats 4000000 in
theorem next_calls2 (l : List R0) (hl : lightL l) (A : Option Addr) (cp : Nat) (w : World) (hC : Kd.C k29 w A l.length l) (x : R0) (hx : x = headOr (orderOf l)) :
    Calls Try.prog 15 #[.slice A l.length cp] w fun e w' => ∃ (A7 : Option Addr) (c7 : Nat), e = .returned (.tuple #[.agg #[.int .u64 x.f0, .int .u64 x.f1, .int .i64 x.f2, .int .i64 x.f3, .int .u64 x.f4, .bool x.f5, .int .i64 x.f6, .slice A7 x.f7.length c7], .bool (!(orderOf l).isEmpty)]) ∧
      x.f7.length ≤ c7 ∧ Kd.C (Kd.int .i64) w' A7 x.f7.length x.f7 ∧ (∀ ad, 0 < x.f7.length → A7 = some ad → w.heap.size < ad.block) ∧ Below w.heap.size w w' := by
  have HZ : Aside0 _ := ⟨heap_alloc_new w (.cells #[.int .u64 0, .int .u64 0, .int .i64 0, .int .i64 0, .int .u64 0, .bool false, .int .i64 0, .slice none 0 0] 29)⟩
  have hb1 := below_alloc (Below.refl w.heap.size w) (.cells #[.int .u64 0, .int .u64 0, .int .i64 0, .int .i64 0, .int .u64 0, .bool false, .int .i64 0, .slice none 0 0] 29)
  have HO := Aside0.mk (order_calls l hl A cp _ (Kd.C_below hC hb1))
  replace hb1 := Aside0.mk hb1
  have HL := Aside0.mk (order_len l)
  have HL2 := Aside0.mk hl.1
  clear hC hl
  obtain ⟨o, ho⟩ : ∃ o, o = orderOf l := ⟨_, rfl⟩
  rw [← ho] at HO HL hx ⊢
  clear ho
  go_enter Try.func15, Try.ntmps15
  go_upto_region 2 with (go_at_call 13; refine HO.out.mono ?_; rintro e w2 ⟨v, rfl, hr, hb⟩)
  have hz2 := blk_below HZ.out hb
  have hb2 := below_then hb1.out hb1.out.size hb
  have d0 := blk_cell hz2 0
  have d1 := blk_cell hz2 1
  have d2 := blk_cell hz2 2
  have d3 := blk_cell hz2 3
  have d4 := blk_cell hz2 4
  have d5 := blk_cell hz2 5
  have d6 := blk_cell hz2 6
  have d7 := blk_cell hz2 7
  have e0 := blk_frozen hz2 0
  have e1 := blk_frozen hz2 1
  have e2 := blk_frozen hz2 2
  have e3 := blk_frozen hz2 3
  have e4 := blk_frozen hz2 4
  have e5 := blk_frozen hz2 5
  have e6 := blk_frozen hz2 6
  have e7 := blk_frozen hz2 7
  obtain ⟨Ao, co, rfl, hlo, hCo⟩ := Kd.R_reads hr
  have hst : ∀ (y : R0) (A7 : Option Addr) (c7 : Nat), _ := fun (y : R0) (A7 : Option Addr) (c7 : Nat) => blk_set (blk_set (blk_set (blk_set (blk_set (blk_set (blk_set (blk_set hz2 0 (.int .u64 y.f0)) 1 (.int .u64 y.f1)) 2 (.int .i64 y.f2)) 3 (.int .i64 y.f3)) 4 (.int .u64 y.f4)) 5 (.bool y.f5)) 6 (.int .i64 y.f6)) 7 (.slice A7 y.f7.length c7)
  have hbs : ∀ (y : R0) (A7 : Option Addr) (c7 : Nat), _ := fun (y : R0) (A7 : Option Addr) (c7 : Nat) => (((((((hb2.setCell (p := ⟨w.heap.size, 0, none⟩) (Nat.le_refl _) (.int .u64 y.f0)).setCell (p := ⟨w.heap.size, 1, none⟩) (Nat.le_refl _) (.int .u64 y.f1)).setCell (p := ⟨w.heap.size, 2, none⟩) (Nat.le_refl _) (.int .i64 y.f2)).setCell (p := ⟨w.heap.size, 3, none⟩) (Nat.le_refl _) (.int .i64 y.f3)).setCell (p := ⟨w.heap.size, 4, none⟩) (Nat.le_refl _) (.int .u64 y.f4)).setCell (p := ⟨w.heap.size, 5, none⟩) (Nat.le_refl _) (.bool y.f5)).setCell (p := ⟨w.heap.size, 6, none⟩) (Nat.le_refl _) (.int .i64 y.f6)).setCell (p := ⟨w.heap.size, 7, none⟩) (Nat.le_refl _) (.slice A7 y.f7.length c7)
  have hfar : ∀ (A : Option Addr) (xs : List Int), Kd.C (Kd.int .i64) w2 A xs.length xs → (∀ ad, 0 < xs.length → A = some ad → ad.block ≠ w.heap.size) → ∀ (y : R0) (A7 : Option Addr) (c7 : Nat), Kd.C (Kd.int .i64) _ A xs.length xs := fun A xs h hne (y : R0) (A7 : Option Addr) (c7 : Nat) => c_far8 h hne (.int .u64 y.f0) (.int .u64 y.f1) (.int .i64 y.f2) (.int .i64 y.f3) (.int .u64 y.f4) (.bool y.f5) (.int .i64 y.f6) (.slice A7 y.f7.length c7)
  replace hst := Aside0.mk hst
  replace hbs := Aside0.mk hbs
  replace hfar := Aside0.mk hfar
  clear hb hz2 hb2
  cases o with
  | nil =>
    clear hr hCo hlo
    subst hx
    go_wp2_with fail
    refine bodyPost_ret (results_ct rfl _ _ w.heap.size 29 _ (0, 0) _ _ rfl rfl (hst.out z29 none 0) Try.underlying29 rfl (by kernel_rfl)) rfl ?_
    exact ⟨none, 0, rfl, Nat.le_refl _, Kd.C_nil _ _, fun ad _ h => (by cases h), hbs.out z29 none 0⟩
  | cons y r =>
    have hxy : x = y := hx
    subst hxy
    obtain ⟨ps, hps, hown, hgood⟩ := rows_of_R hr
    obtain ⟨p, rest, rfl⟩ : ∃ p rest, ps = p :: rest := by
      cases ps with
      | nil => cases hps
      | cons p rest => exact ⟨p, rest, rfl⟩
    have hp1 : p.1 = x := by injection hps
    have hgp := hgood p (by simp)
    obtain ⟨g, cap, hv, _, _⟩ := hown.form (by simp)
    injection hv with hv _ _
    subst hv
    have hcc : ∀ j u, (recOf p).enc[j]? = some u → w2.cell? ⟨g, j, none⟩ = some u := fun j u hu => by
      have hj : j < 8 := (List.getElem?_eq_some_iff.1 hu).1
      have h2 := hown.cells (g := g) rfl j u (by
        have e1 := encs_at ((p :: rest).map recOf) 0 (recOf p) rfl j hj
        rw [Nat.zero_mul, Nat.zero_add] at e1
        rw [e1]; exact hu)
      rwa [add_plain] at h2
    have hx0 := hcc 0 _ rfl
    have hx1 := hcc 1 _ rfl
    have hx2 := hcc 2 _ rfl
    have hx3 := hcc 3 _ rfl
    have hx4 := hcc 4 _ rfl
    have hx5 := hcc 5 _ rfl
    have hx6 := hcc 6 _ rfl
    have hx7 := hcc 7 _ rfl
    obtain ⟨x', A7, c7⟩ := p
    obtain rfl : x' = x := hp1
    replace hx0 : w2.cell? ⟨g, 0, none⟩ = some (.int .u64 x'.f0) := hx0
    replace hx1 : w2.cell? ⟨g, 1, none⟩ = some (.int .u64 x'.f1) := hx1
    replace hx2 : w2.cell? ⟨g, 2, none⟩ = some (.int .i64 x'.f2) := hx2
    replace hx3 : w2.cell? ⟨g, 3, none⟩ = some (.int .i64 x'.f3) := hx3
    replace hx4 : w2.cell? ⟨g, 4, none⟩ = some (.int .u64 x'.f4) := hx4
    replace hx5 : w2.cell? ⟨g, 5, none⟩ = some (.bool x'.f5) := hx5
    replace hx6 : w2.cell? ⟨g, 6, none⟩ = some (.int .i64 x'.f6) := hx6
    replace hx7 : w2.cell? ⟨g, 7, none⟩ = some (.slice A7 x'.f7.length c7) := hx7
    have hgp' : (Kd.int .i64).R 3 w2 _ _ (.slice A7 x'.f7.length c7) x'.f7 := hgp
    obtain ⟨_, hl7, hC7⟩ := Kd.R_reads' hgp'
    have hne7 : ∀ ad, 0 < x'.f7.length → A7 = some ad → ad.block ≠ w.heap.size := fun ad _ h => by
      subst h
      have := Kd.R_base hgp' ad.block rfl
      simp at this
      omega
    have HN7 : Aside0 (∀ ad, 0 < x'.f7.length → A7 = some ad → w.heap.size < ad.block) := ⟨fun ad _ h => by
      subst h
      have := Kd.R_base hgp' ad.block rfl
      simp at this
      omega⟩
    have HF := Aside0.mk (hfar.out A7 x'.f7 hC7 hne7 x' A7 c7)
    have HS := Aside0.mk (hst.out x' A7 c7)
    have HBS := Aside0.mk (hbs.out x' A7 c7)
    replace hl7 := Aside0.mk hl7
    have HLP := Aside0.mk (show (0 : Int) < (((x' :: r).length : Nat) : Int) by first | (simp; done) | (simp; omega))
    clear hgp hgp' hgood hown hps hcc hC7 hne7 hr hCo hlo hx hfar hst hbs
    have tl : ((((x' :: r).length : Nat) : Int) == 0) = false := by first | (simp; done) | (simp; omega)
    have tz : decide ((0 : Int) < (((x' :: r).length : Nat) : Int)) = true := decide_eq_true HLP.out
    have tp : (0 < (x' :: r).length) = True := eq_true (by simp)
    go_wp2_with fail
    refine bodyPost_ret (results_ct rfl _ _ w.heap.size 29 _ (0, 0) _ _ rfl rfl HS.out Try.underlying29 rfl (by kernel_rfl)) rfl ?_
    exact ⟨A7, c7, rfl, hl7.out, HF.out, HN7.out, HBS.out⟩
end Go.Proofs.Ytnopjcakilfepaa.QS
