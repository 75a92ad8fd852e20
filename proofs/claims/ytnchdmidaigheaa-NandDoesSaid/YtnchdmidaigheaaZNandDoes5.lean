/- Parts of the proof of the statement NandDoes, laid together (6 of 7). -/
import Derived.Test.YtnchdmidaigheaaZNandDoes4
namespace Go.Proofs.Ytnchdmidaigheaa.ND
set_option linter.unusedVariables false
set_option linter.unusedSimpArgs false
open Go.RowKit Go.Proofs.Ytnchdmidaigheaa.Hp Go.Proofs.YtnchdmidaigheaaW.PrintWords Go.Proofs.YtnchdmidaigheaaW.PrintLast Go.Proofs.YtnchdmidaigheaaW.PrintMore
def marksTo (B : Nat) (bad : List Int) (i : Nat) : List Value := (List.range B).map fun (j : Nat) => .bool ((bad.take i).any fun x => x == (j : Int))
theorem marksTo_len (B : Nat) (bad : List Int) (i : Nat) : (marksTo B bad i).length = B := by unfold marksTo; rw [List.length_map, List.length_range]
theorem marksTo_at (B : Nat) (bad : List Int) (i j : Nat) : (marksTo B bad i)[j]? = if j < B then some (.bool ((bad.take i).any fun x => x == (j : Int))) else none := by
  unfold marksTo
  rw [List.getElem?_map]
  split
  · rename_i h
    rw [List.getElem?_range h]
    rfl
  · rename_i h
    rw [List.getElem?_eq_none (by rw [List.length_range]; omega)]
    rfl
theorem any_take {bad : List Int} {i : Nat} {x : Int} (hx : bad[i]? = some x) (p : Int → Bool) : (bad.take (i + 1)).any p = ((bad.take i).any p || p x) := by
  rw [List.take_add_one, hx, List.any_append]
  simp
theorem marksTo_hit {B : Nat} {bad : List Int} {i n : Nat} (hx : bad[i]? = some (n : Int)) (hn : n < B) : marksTo B bad (i + 1) = (marksTo B bad i).set n (.bool true) := by
  apply List.ext_getElem?
  intro j
  rw [List.getElem?_set, marksTo_at, marksTo_at, marksTo_len, any_take hx]
  by_cases hj : n = j
  · subst hj
    rw [if_pos hn, if_pos rfl, if_pos hn]
    simp
  · rw [if_neg hj]
    have : ((n : Int) == (j : Int)) = false := by simp; omega
    rw [this, Bool.or_false]
theorem marksTo_miss {B : Nat} {bad : List Int} {i : Nat} {x : Int} (hx' : bad[i]? = some x) (hx : ¬ (0 ≤ x ∧ x < (B : Int))) : marksTo B bad (i + 1) = marksTo B bad i := by
  apply List.ext_getElem?
  intro j
  rw [marksTo_at, marksTo_at, any_take hx']
  split
  · have : (x == (j : Int)) = false := by simp; omega
    rw [this, Bool.or_false]
  · rfl
theorem marksTo_zero (B : Nat) (bad : List Int) : marksTo B bad 0 = List.replicate B (.bool false) := by
  apply List.ext_getElem?
  intro j
  rw [marksTo_at, List.getElem?_replicate, List.take_zero]
  rfl
theorem marksTo_all {B P C : Int} {bad : List Int} {fs : List Flt} : marksTo B.toNat bad bad.length = marks (newDv B P C bad fs) := by
  unfold marksTo
  rw [List.take_length]
  rfl
theorem made_cells (z : Value) (n : Nat) {W : World} {g T : Nat} (h : W.heap[g]? = some (.cells (madeCells #[z] n) T (0, 0))) : Cells W g T (List.replicate n z) := by
  have := Cells.mk' h
  rwa [toList_madeCells_one] at this
theorem Ones_256 : zeros_Ones.f 300 256 = some (List.replicate 256 255) := by decide +kernel
abbrev okv (W5 : World) (v : Value) (k : Nat) : Prop := W5.heap.size ≤ k ∧ some k ≠ v.ownBlock
theorem ones_fresh {W5 w w2 : World} {vp v : Value} {n e T : Nat} {vs : List Value} (ho : w.ownsRow W5.heap.size T 1 vp n vs) (hR : Kd.R (Kd.int .u8) e w2 w.heap.size (fun _ => True) v (List.replicate 256 255)) (hs : W5.heap.size ≤ w.heap.size) : ∃ A c, v = .slice A 256 c ∧ 256 ≤ c ∧ Kd.F (Kd.int .u8) w2 (okv W5 vp) A 256 (List.replicate 256 255) := by
  obtain ⟨A, c, rfl, hc, _⟩ := Kd.R_reads hR
  rw [List.length_replicate] at hc
  have h := Kd.R_F (Kd.R_mono (Kd.R_bound hR) (fun k hk => (⟨Nat.le_trans hs hk.2.1, fun e => by have := own_lt ho k e.symm; have := hk.2.1; omega⟩ : okv W5 vp k)))
  rw [List.length_replicate] at h
  exact ⟨A, c, by rw [List.length_replicate], hc, h⟩
theorem Pages.snoc {W : World} {ok : Nat → Prop} {vs : List Value} {ps : List (List Int)} (h : Pages W ok vs ps) {A : Option Addr} {c : Nat} {l : List Int} (hc : 256 ≤ c) (hF : Kd.F (Kd.int .u8) W ok A 256 l) : Pages W ok (vs ++ [.slice A 256 c]) (ps ++ [l]) := by
  refine ⟨by rw [List.length_append, List.length_append, h.1]; rfl, fun i v x hv hx => ?_⟩
  rcases Nat.lt_or_ge i vs.length with hi | hi
  · rw [List.getElem?_append_left hi] at hv
    rw [List.getElem?_append_left (by have := h.1; omega)] at hx
    exact h.2 i v x hv hx
  · have hi' : i = vs.length := by
      have := (List.getElem?_eq_some_iff.1 hv).1
      rw [List.length_append] at this
      have e : [Value.slice A 256 c].length = 1 := rfl
      omega
    subst hi'
    rw [List.getElem?_append_right (Nat.le_refl _), Nat.sub_self] at hv
    rw [List.getElem?_append_right (by have := h.1; omega), show vs.length - ps.length = 0 by have := h.1; omega] at hx
    obtain rfl := Option.some.inj hv
    obtain rfl := Option.some.inj hx
    exact ⟨A, c, rfl, hc, hF⟩
theorem page_app {W5 W : World} {vp : Value} {n : Nat} {vs : List Value} {ps : List (List Int)} (ho : W.ownsRow W5.heap.size 38 1 vp n vs) (hp : Pages W (okv W5 vp) vs ps) {A : Option Addr} {c : Nat} {l : List Int} (hc : 256 ≤ c) (hF : Kd.F (Kd.int .u8) W (okv W5 vp) A 256 l) {gx : Nat} (hx : W.heap[gx]? = some (.cells #[.slice A 256 c] 38 (0, 0))) (hn : n + 1 ≤ 100000) (hs : W5.heap.size ≤ W.heap.size) :
    ∃ v' w', (Builtin.append_ #[107, 107] 107 #[vp, .slice (some ⟨gx, 0, none⟩) 1 1]).run Try.prog W = .ok v' w' ∧ w'.ownsRow W5.heap.size 38 1 v' (n + 1) (vs ++ [.slice A 256 c]) ∧ Pages w' (okv W5 v') (vs ++ [.slice A 256 c]) (ps ++ [l]) ∧ W.grownBy w' vp.ownBlock := by
  obtain ⟨v', w', h1, h2, h3, h4⟩ := app_any W5.heap.size 107 107 38 Try.underlying107 (z := .slice none 0 0) (sz := 1) (bytes := 24) (by kernel_rfl) rfl (by decide) (by decide) (by decide) vp n vs ho ⟨gx, 0, none⟩ 1 1 [.slice A 256 c] rfl (fun j u hu => by rw [add_plain, blk_cell hx, ← hu]; show (#[Value.slice A 256 c])[j]? = _; rw [← List.getElem?_toArray]) (fun u hu => by rw [List.mem_singleton.1 hu]; rfl) hn hs
  refine ⟨v', w', h1, h2, ?_, h3⟩
  have hat : v'.ownBlock = vp.ownBlock ∨ ∃ b, v'.ownBlock = some b ∧ W.heap.size ≤ b := by
    rcases h4 with h4 | h4
    · exact .inl h4
    · exact .inr ⟨_, h4, Nat.le_refl _⟩
  have hsn := hp.snoc hc hF
  exact ⟨hsn.1, fun i v x hv hx => by obtain ⟨A', c', e1, e2, e3⟩ := hsn.2 i v x hv hx; exact ⟨A', c', e1, e2, Kd.F_after (ok := fun k => W5.heap.size ≤ k) e3 h3 hat⟩⟩
section
variable {P : Program} {ops : Array Oper} {Q : Exit → Act → World → Prop}
theorem app_step {oi : Oper} {N : Option Tmp} {a : Act} {w : World} {K : Act → World → Prop} (hw : Region.wanted oi (yielded ops a.tmps) = true) (hN : oi.dst = N) {ts tx : Tmp} {t : TypeId} (ho : oi.op = .call { callee := .builtin .append, args := #[.tmp ts, .tmp tx], argTypes := #[t, t] })
    {v xv : Value} (hs : a.tmps[ts]? = some v) (hx : a.tmps[tx]? = some xv) {v' : Value} {w' : World} (hr : (Builtin.append_ #[t, t] oi.type #[v, xv]).run P w = .ok v' w') (h : K (a.put N v') w') :
    if Region.wanted oi (yielded ops a.tmps) = true then Oper.wp P oi a w K Q else K (a.put N undef) w := by
  rw [if_pos hw]
  subst hN
  have e1 : a.eval (.tmp ts) = v := by simp [Act.eval, Array.getD_eq_getD_getElem?, hs]
  have e2 : a.eval (.tmp tx) = xv := by simp [Act.eval, Array.getD_eq_getD_getElem?, hx]
  unfold Oper.wp execOp
  simp only [ho, resolve, invoke, builtin, Sem.run_bind, Sem.run_pure, Result.andThen_ok, List.map_toArray, List.map_cons, List.map_nil, e1, e2, hr]
  exact h
end
def NewTo (W : World) (B P C : Int) (bad : List Int) (fs : List Flt) (e : Ending) (w' : World) : Prop :=
  Below W.heap.size W w' ∧ (rightG B P C = true → ∃ L : Lay, e = .returned (.tuple #[.pointer (some ⟨L.g, 0, none⟩), .int .i64 0]) ∧ DV w' (fun k => W.heap.size ≤ k ∧ ¬ L.S k) L (newDv B P C bad fs) ∧ ∀ k, L.S k ∨ k = L.gm → W.heap.size ≤ k) ∧
  (rightG B P C = false → e = .returned (.tuple #[.pointer none, .int .i64 3]))
def new4.T4 : Bool × List (List Nat × List Nat) := (true, [([], []), ([], []), ([1], [1]), ([2, 2], [2]), ([], []), ([4], [4]), ([5, 5], [5]), ([], []), ([7], [7]), ([8, 8], [8]), ([0, 3, 6, 9], [0, 3, 6, 9]), ([10], [10]), ([11, 0, 1, 2, 3, 4, 5, 6, 7, 8, 9, 10, 11], [11])])
def new4.B4 : List Nat := [0, 0, 2, 6, 0, 16, 48, 0, 128, 384, 1023, 2047, 4095]
theorem new4.tab4 : rtab .any (opsOf Try.f14 4) = new4.T4 := by kernel_rfl
theorem new4.bits4 : waitsOk new4.T4.2 new4.B4 = true := by kernel_rfl
def new13.T13 : Bool × List (List Nat × List Nat) := (true, [([], []), ([], []), ([1], [1]), ([2], [2]), ([3], [3]), ([], []), ([5], [5]), ([4, 6, 5], [4, 6]), ([0, 0, 1, 2, 3, 4, 5, 6, 7], [0]), ([8, 0, 1, 2, 3, 4, 5, 6, 7], [8]), ([9, 7, 7, 0, 1, 2, 3, 4, 5, 6, 7], [7, 9])])
def new13.B13 : List Nat := [0, 0, 2, 6, 14, 0, 32, 126, 255, 511, 1023]
theorem new13.tab13 : rtab .any (opsOf Try.f14 13) = new13.T13 := by kernel_rfl
theorem new13.bits13 : waitsOk new13.T13.2 new13.B13 = true := by kernel_rfl
def new19.T19 : Bool × List (List Nat × List Nat) := (true, [([], []), ([], []), ([1], [1]), ([2], [2]), ([3], [3]), ([], []), ([5], [5]), ([4, 6], [4, 6]), ([0, 0, 1, 2, 3, 4, 5, 6, 7], [0]), ([8, 0, 1, 2, 3, 4, 5, 6, 7], [8]), ([9, 7, 7, 0, 1, 2, 3, 4, 5, 6, 7], [7, 9])])
def new19.B19 : List Nat := [0, 0, 2, 6, 14, 0, 32, 126, 255, 511, 1023]
theorem new19.tab19 : rtab .any (opsOf Try.f14 19) = new19.T19 := by kernel_rfl
theorem new19.bits19 : waitsOk new19.T19.2 new19.B19 = true := by kernel_rfl
set_option maxHeartbeats 4000000 in
set_option maxRecDepth 100000 in
theorem new_calls {W : World} (B P C : Int) (bad : List Int) (fs : List Flt) (Ab Af : Option Addr) (cb cf : Nat) (hb : Kd.C (Kd.int .i64) W Ab bad.length bad) (hf : Kd.C k65 W Af fs.length fs) (hbl : bad.length ≤ 1000) (hfl : fs.length ≤ 1000) (hfm : ∀ f ∈ fs, isBytes f.f2 ∧ f.f2.length ≤ 1000) :
    Calls Try.prog 14 #[.agg #[.int .i64 B, .int .i64 P, .int .i64 C], .slice Ab bad.length cb, .slice Af fs.length cf] W fun e w' => NewTo W B P C bad fs e w' := by
  have HIN := Aside0.mk (And.intro hb (And.intro hf (And.intro hbl (And.intro hfl hfm))))
  have hz3 := heap_alloc_new W (.cells #[.int .i64 B, .int .i64 P, .int .i64 C] 23)
  have hb3 := below_alloc (Below.refl W.heap.size W) (.cells #[.int .i64 B, .int .i64 P, .int .i64 C] 23)
  obtain ⟨g3, hg3⟩ : ∃ g, g = W.heap.size := ⟨_, rfl⟩
  clear hb hf hbl hfl hfm
  go_enter Try.func14, Try.ntmps14
  go_upto_region 1 with fail
  generalize W.alloc (.cells #[.int .i64 B, .int .i64 P, .int .i64 C] 23) = W2 at hz3 hb3 ⊢
  rw [← hg3] at hz3 ⊢
  have HG3 := Aside0.mk hg3
  have HZ2 := Aside0.mk hz3
  have HB2 := Aside0.mk hb3
  have HCK := Aside0.mk (fun w => geom_Check.calls B P C _ w rfl)
  have c0 := blk_cell hz3 0
  have c1 := blk_cell hz3 1
  have c2 := blk_cell hz3 2
  clear hg3 hz3 hb3
  cases hr : rightG B P C with
  | false =>
    have hr' : (within B 8 34 && (within P 4 32 && within C 0 8)) = false := hr
    rw [if_neg (by rw [hr']; decide)] at HCK
    have HRF := Aside0.mk hr
    clear hr hr'
    go_wp2_with (go_at_call 60; refine (HCK.out _).mono ?_; rintro e w3 ⟨rfl, hb⟩; have HB3 := Aside0.mk (below_then HB2.out HB2.out.size hb); clear hb)
    go_ret2
    refine ⟨HB3.out, ⟨fun h => ?_, fun _ => rfl⟩⟩
    rw [HRF.out] at h
    cases h
  | true =>
    have hr' : (within B 8 34 && (within P 4 32 && within C 0 8)) = true := hr
    rw [if_pos hr'] at HCK
    have HRG := Aside0.mk hr
    obtain ⟨hb1, hb2, hp1, hp2, hc1, hc2⟩ : 8 ≤ B ∧ B ≤ 34 ∧ 4 ≤ P ∧ P ≤ 32 ∧ 0 ≤ C ∧ C ≤ 8 := by
      unfold within at hr'
      simp only [Bool.and_eq_true, decide_eq_true_eq] at hr'
      obtain ⟨⟨h1, h2⟩, ⟨h3, h4⟩, h5, h6⟩ := hr'
      exact ⟨h1, h2, h3, h4, h5, h6⟩
    obtain ⟨Bn, rfl⟩ := Int.eq_ofNat_of_zero_le (show 0 ≤ B by omega)
    obtain ⟨Pn, rfl⟩ := Int.eq_ofNat_of_zero_le (show 0 ≤ P by omega)
    have HGM := Aside0.mk (And.intro hb1 (And.intro hb2 (And.intro hp1 hp2)))
    clear hr hr' hb1 hb2 hp1 hp2 hc1 hc2
    go_upto_region 4 with (go_at_call 60; refine (HCK.out _).mono ?_; rintro e w3 ⟨rfl, hb⟩; have HB23 := Aside0.mk hb; have HB3 := Aside0.mk (below_then HB2.out HB2.out.size hb); clear hb c0 c1 c2)
    have HZ3 := Aside0.mk (blk_below HZ2.out HB23.out)
    have HMB := Aside0.mk (print_make_of (P := Try.prog) 106 4 (.bool false) 1 Try.underlying106 (by kernel_rfl) rfl (by decide) Bn (by have := HGM.out; omega))
    have HMI := Aside0.mk (print_make_of (P := Try.prog) 24 3 (.int .i64 0) 8 Try.underlying24 (by kernel_rfl) rfl (by decide) Bn (by have := HGM.out; omega))
    have B0 := Aside0.mk (below_drew1 (Below.refl w3.heap.size w3))
    clear HCK HZ2 HB2 HB23
    refine start_ (n := 13) (S := fun w' => True) (ds := []) #[false, false, false, false, false, false, false, false, false, false, false, false, false] (by kernel_rfl) rfl rfl trivial (fun hHeld => ?_)
    refine with_tabW new4.tab4 new4.bits4 (fun HT_ HW_ => ?_)
    generalize w3.drew = wq at B0 hHeld ⊢
    refine inv_at [0, 1, 2, 3, 4, 5, 6, 7, 8, 9, 10, 11, 12] (fun a0_ b a w' => ∃ (gm : Nat) (gn : Nat) (gw : Nat) (g9 : Nat) (m3_ : Value) (m6_ : Value) (m9_ : Value) (m10_ : Value) (m11_ : Value) (m12_ : Value), a = putSel a0_ b [(0, 19, .agg #[.int .i64 (Bn : Int), .int .i64 (Pn : Int), .int .i64 C]), (1, 20, .pointer (some ⟨g3, 0, none⟩)), (2, 21, .int .i64 (Bn : Int)), (3, 22, m3_), (4, 23, .pointer (some ⟨g3, 0, none⟩)), (5, 24, .int .i64 (Bn : Int)), (6, 25, m6_), (7, 26, .pointer (some ⟨g3, 0, none⟩)), (8, 27, .int .i64 (Bn : Int)), (9, 28, m9_), (10, 29, m10_), (11, 30, m11_), (12, 9, m12_)] ∧ (Below w3.heap.size w3 w') ∧ (b 3 = true → w'.heap[gm]? = some (.cells (madeCells #[.bool false] Bn) 4 (0, 0)) ∧ w3.heap.size ≤ gm) ∧ (b 6 = true → w'.heap[gn]? = some (.cells (madeCells #[.int .i64 0] Bn) 3 (0, 0)) ∧ w3.heap.size ≤ gn) ∧ (b 9 = true → w'.heap[gw]? = some (.cells (madeCells #[.int .i64 0] Bn) 3 (0, 0)) ∧ w3.heap.size ≤ gw) ∧ (b 3 = true → b 6 = true → gm ≠ gn) ∧ (b 3 = true → b 9 = true → gm ≠ gw) ∧ (b 6 = true → b 9 = true → gn ≠ gw) ∧ (b 11 = true → w'.heap[g9]? = some (.cells #[.int .i64 (Bn : Int), .int .i64 (Pn : Int), .int .i64 C, .slice (some ⟨gm, 0, none⟩) Bn Bn, .slice none 0 0, .slice (some ⟨gn, 0, none⟩) Bn Bn, .slice (some ⟨gw, 0, none⟩) Bn Bn, .slice none 0 0, .int .i64 0, .bool false] 109 (0, 0)) ∧ w3.heap.size ≤ g9 ∧ gm ≠ g9 ∧ gn ≠ g9 ∧ gw ≠ g9) ∧ (b 3 = true → (m3_ : Value) = .slice (some ⟨gm, 0, none⟩) Bn Bn) ∧ (b 6 = true → (m6_ : Value) = .slice (some ⟨gn, 0, none⟩) Bn Bn) ∧ (b 9 = true → (m9_ : Value) = .slice (some ⟨gw, 0, none⟩) Bn Bn) ∧ (b 10 = true → (m10_ : Value) = .agg #[.int .i64 (Bn : Int), .int .i64 (Pn : Int), .int .i64 C, .slice (some ⟨gm, 0, none⟩) Bn Bn, .slice none 0 0, .slice (some ⟨gn, 0, none⟩) Bn Bn, .slice (some ⟨gw, 0, none⟩) Bn Bn, .slice none 0 0, .int .i64 0, .bool false]) ∧ (b 11 = true → (m11_ : Value) = .pointer (some ⟨g9, 0, none⟩)) ∧ (b 12 = true → (m12_ : Value) = .pointer (some ⟨g9, 0, none⟩))) HT_.out HW_.out (by kernel_rfl) (by kernel_rfl) ?_ ?_ ?_
    · exact ⟨0, 0, 0, 0, .bool false, .bool false, .bool false, .bool false, .bool false, .bool false, by simp only [putSel, Bool.false_eq_true, if_false], B0.out, fun h_ => absurd h_ (by decide), fun h_ => absurd h_ (by decide), fun h_ => absurd h_ (by decide), fun h_ => absurd h_ (by decide), fun h_ => absurd h_ (by decide), fun h_ => absurd h_ (by decide), fun h_ => absurd h_ (by decide), fun h_ => absurd h_ (by decide), fun h_ => absurd h_ (by decide), fun h_ => absurd h_ (by decide), fun h_ => absurd h_ (by decide), fun h_ => absurd h_ (by decide), fun h_ => absurd h_ (by decide)⟩
    · skip
      clear B0
      refine steps_cons ?_ ?_
      · rintro b a w' ⟨gm, gn, gw, g9, m3_, m6_, m9_, m10_, m11_, m12_, ha, Q_B0, Q_Zgm, Q_Zgn, Q_Zgw, Q_Nmn, Q_Nmw, Q_Nnw, Q_Z9, Q_X3_, Q_X6_, Q_X9_, Q_X10_, Q_X11_, Q_X12_⟩ hb_ hon hoff
        refine ⟨_, rfl, fun K hK => ?_⟩
        have e3 : a.tmps[3]? = some (.pointer (some ⟨g3, 0, none⟩)) := by rw [ha]; exact (putSel_off rfl).trans rfl
        replace ha := Aside0.mk ha
        have B0 := Aside0.mk Q_B0
        have c0_ := blk_cell (blk_below HZ3.out B0.out) 0
        have c1_ := blk_cell (blk_below HZ3.out B0.out) 1
        have c2_ := blk_cell (blk_below HZ3.out B0.out) 2
        refine value_ (w1 := w') (v := .agg #[.int .i64 (Bn : Int), .int .i64 (Pn : Int), .int .i64 C]) (by rfl) rfl ?_ ?_
        · go_simp
          (try simp only [i64_w])
          try rfl
        refine hK.out _ _ ⟨gm, gn, gw, g9, m3_, m6_, m9_, m10_, m11_, m12_, (by rw [ha.out]; exact putSel_upk 0 hb_ rfl rfl rfl), Q_B0, Q_Zgm, Q_Zgn, Q_Zgw, Q_Nmn, Q_Nmw, Q_Nnw, fun h0_ => absurd ((hoff 11 (by kernel_rfl)).symm.trans h0_) (by decide), Q_X3_, Q_X6_, Q_X9_, fun h0_ => absurd ((hoff 10 (by kernel_rfl)).symm.trans h0_) (by decide), fun h0_ => absurd ((hoff 11 (by kernel_rfl)).symm.trans h0_) (by decide), fun h0_ => absurd ((hoff 12 (by kernel_rfl)).symm.trans h0_) (by decide)⟩
      refine steps_cons ?_ ?_
      · rintro b a w' ⟨gm, gn, gw, g9, m3_, m6_, m9_, m10_, m11_, m12_, ha, Q_B0, Q_Zgm, Q_Zgn, Q_Zgw, Q_Nmn, Q_Nmw, Q_Nnw, Q_Z9, Q_X3_, Q_X6_, Q_X9_, Q_X10_, Q_X11_, Q_X12_⟩ hb_ hon hoff
        refine ⟨_, rfl, fun K hK => ?_⟩
        have e3 : a.tmps[3]? = some (.pointer (some ⟨g3, 0, none⟩)) := by rw [ha]; exact (putSel_off rfl).trans rfl
        replace ha := Aside0.mk ha
        have B0 := Aside0.mk Q_B0
        refine value_ (w1 := w') (v := .pointer (some ⟨g3, 0, none⟩)) (by rfl) rfl ?_ ?_
        · go_simp
          (try simp only [i64_w])
          try rfl
        refine hK.out _ _ ⟨gm, gn, gw, g9, m3_, m6_, m9_, m10_, m11_, m12_, (by rw [ha.out]; exact putSel_upk 1 hb_ rfl rfl rfl), Q_B0, fun h0_ => absurd ((hoff 3 (by kernel_rfl)).symm.trans h0_) (by decide), Q_Zgn, Q_Zgw, fun h0_ _ => absurd ((hoff 3 (by kernel_rfl)).symm.trans h0_) (by decide), fun h0_ _ => absurd ((hoff 3 (by kernel_rfl)).symm.trans h0_) (by decide), Q_Nnw, fun h0_ => absurd ((hoff 11 (by kernel_rfl)).symm.trans h0_) (by decide), fun h0_ => absurd ((hoff 3 (by kernel_rfl)).symm.trans h0_) (by decide), Q_X6_, Q_X9_, fun h0_ => absurd ((hoff 10 (by kernel_rfl)).symm.trans h0_) (by decide), fun h0_ => absurd ((hoff 11 (by kernel_rfl)).symm.trans h0_) (by decide), fun h0_ => absurd ((hoff 12 (by kernel_rfl)).symm.trans h0_) (by decide)⟩
      refine steps_cons ?_ ?_
      · rintro b a w' ⟨gm, gn, gw, g9, m3_, m6_, m9_, m10_, m11_, m12_, ha, Q_B0, Q_Zgm, Q_Zgn, Q_Zgw, Q_Nmn, Q_Nmw, Q_Nnw, Q_Z9, Q_X3_, Q_X6_, Q_X9_, Q_X10_, Q_X11_, Q_X12_⟩ hb_ hon hoff
        refine ⟨_, rfl, fun K hK => ?_⟩
        have e20 : a.tmps[20]? = some (.pointer (some ⟨g3, 0, none⟩)) := by rw [ha]; exact putSel_on (e := (1, 20, .pointer (some ⟨g3, 0, none⟩))) 1 rfl rfl (hon 1 (by kernel_rfl)) rfl
        replace ha := Aside0.mk ha
        have B0 := Aside0.mk Q_B0
        have c_ := blk_cell (blk_below HZ3.out B0.out) 0
        refine value_ (w1 := w') (v := .int .i64 (Bn : Int)) (by rfl) rfl ?_ ?_
        · go_simp
          (try simp only [i64_w])
          try rfl
        refine hK.out _ _ ⟨gm, gn, gw, g9, m3_, m6_, m9_, m10_, m11_, m12_, (by rw [ha.out]; exact putSel_upk 2 hb_ rfl rfl rfl), Q_B0, fun h0_ => absurd ((hoff 3 (by kernel_rfl)).symm.trans h0_) (by decide), Q_Zgn, Q_Zgw, fun h0_ _ => absurd ((hoff 3 (by kernel_rfl)).symm.trans h0_) (by decide), fun h0_ _ => absurd ((hoff 3 (by kernel_rfl)).symm.trans h0_) (by decide), Q_Nnw, fun h0_ => absurd ((hoff 11 (by kernel_rfl)).symm.trans h0_) (by decide), fun h0_ => absurd ((hoff 3 (by kernel_rfl)).symm.trans h0_) (by decide), Q_X6_, Q_X9_, fun h0_ => absurd ((hoff 10 (by kernel_rfl)).symm.trans h0_) (by decide), fun h0_ => absurd ((hoff 11 (by kernel_rfl)).symm.trans h0_) (by decide), fun h0_ => absurd ((hoff 12 (by kernel_rfl)).symm.trans h0_) (by decide)⟩
      refine steps_cons ?_ ?_
      · rintro b a w' ⟨gm, gn, gw, g9, m3_, m6_, m9_, m10_, m11_, m12_, ha, Q_B0, Q_Zgm, Q_Zgn, Q_Zgw, Q_Nmn, Q_Nmw, Q_Nnw, Q_Z9, Q_X3_, Q_X6_, Q_X9_, Q_X10_, Q_X11_, Q_X12_⟩ hb_ hon hoff
        refine ⟨_, rfl, fun K hK => ?_⟩
        have e21 : a.tmps[21]? = some (.int .i64 (Bn : Int)) := by rw [ha]; exact putSel_on (e := (2, 21, .int .i64 (Bn : Int))) 2 rfl rfl (hon 2 (by kernel_rfl)) rfl
        replace ha := Aside0.mk ha
        have B0 := Aside0.mk Q_B0
        have mk_ := HMB.out
        refine value_ (w1 := w'.alloc (Obj.cells (madeCells #[.bool false] Bn) 4)) (v := .slice (some ⟨w'.heap.size, 0, none⟩) Bn Bn) (by rfl) rfl (by first | (go_simp; done) | (go_simp; rfl)) ?_
        have hb := below_alloc (Below.refl w'.heap.size w') (Obj.cells (madeCells #[.bool false] Bn) 4)
        refine hK.out _ _ ⟨w'.heap.size, gn, gw, g9, (.slice (some ⟨w'.heap.size, 0, none⟩) Bn Bn), m6_, m9_, m10_, m11_, m12_, (by rw [ha.out]; exact putSel_upk 3 hb_ rfl rfl rfl), below_then B0.out B0.out.size hb, fun _ => ⟨heap_alloc_new w' _, B0.out.size⟩, fun h0_ => ⟨blk_below (Q_Zgn h0_).1 hb, (Q_Zgn h0_).2⟩, fun h0_ => ⟨blk_below (Q_Zgw h0_).1 hb, (Q_Zgw h0_).2⟩, fun h0_ h1_ => Nat.ne_of_gt (blk_lt (Q_Zgn h1_).1), fun h0_ h1_ => Nat.ne_of_gt (blk_lt (Q_Zgw h1_).1), Q_Nnw, fun h0_ => absurd ((hoff 11 (by kernel_rfl)).symm.trans h0_) (by decide), fun _ => rfl, Q_X6_, Q_X9_, fun h0_ => absurd ((hoff 10 (by kernel_rfl)).symm.trans h0_) (by decide), fun h0_ => absurd ((hoff 11 (by kernel_rfl)).symm.trans h0_) (by decide), fun h0_ => absurd ((hoff 12 (by kernel_rfl)).symm.trans h0_) (by decide)⟩
      refine steps_cons ?_ ?_
      · rintro b a w' ⟨gm, gn, gw, g9, m3_, m6_, m9_, m10_, m11_, m12_, ha, Q_B0, Q_Zgm, Q_Zgn, Q_Zgw, Q_Nmn, Q_Nmw, Q_Nnw, Q_Z9, Q_X3_, Q_X6_, Q_X9_, Q_X10_, Q_X11_, Q_X12_⟩ hb_ hon hoff
        refine ⟨_, rfl, fun K hK => ?_⟩
        have e3 : a.tmps[3]? = some (.pointer (some ⟨g3, 0, none⟩)) := by rw [ha]; exact (putSel_off rfl).trans rfl
        replace ha := Aside0.mk ha
        have B0 := Aside0.mk Q_B0
        refine value_ (w1 := w') (v := .pointer (some ⟨g3, 0, none⟩)) (by rfl) rfl ?_ ?_
        · go_simp
          (try simp only [i64_w])
          try rfl
        refine hK.out _ _ ⟨gm, gn, gw, g9, m3_, m6_, m9_, m10_, m11_, m12_, (by rw [ha.out]; exact putSel_upk 4 hb_ rfl rfl rfl), Q_B0, Q_Zgm, fun h0_ => absurd ((hoff 6 (by kernel_rfl)).symm.trans h0_) (by decide), Q_Zgw, fun _ h1_ => absurd ((hoff 6 (by kernel_rfl)).symm.trans h1_) (by decide), Q_Nmw, fun h0_ _ => absurd ((hoff 6 (by kernel_rfl)).symm.trans h0_) (by decide), fun h0_ => absurd ((hoff 11 (by kernel_rfl)).symm.trans h0_) (by decide), Q_X3_, fun h0_ => absurd ((hoff 6 (by kernel_rfl)).symm.trans h0_) (by decide), Q_X9_, fun h0_ => absurd ((hoff 10 (by kernel_rfl)).symm.trans h0_) (by decide), fun h0_ => absurd ((hoff 11 (by kernel_rfl)).symm.trans h0_) (by decide), fun h0_ => absurd ((hoff 12 (by kernel_rfl)).symm.trans h0_) (by decide)⟩
      refine steps_cons ?_ ?_
      · rintro b a w' ⟨gm, gn, gw, g9, m3_, m6_, m9_, m10_, m11_, m12_, ha, Q_B0, Q_Zgm, Q_Zgn, Q_Zgw, Q_Nmn, Q_Nmw, Q_Nnw, Q_Z9, Q_X3_, Q_X6_, Q_X9_, Q_X10_, Q_X11_, Q_X12_⟩ hb_ hon hoff
        refine ⟨_, rfl, fun K hK => ?_⟩
        have e23 : a.tmps[23]? = some (.pointer (some ⟨g3, 0, none⟩)) := by rw [ha]; exact putSel_on (e := (4, 23, .pointer (some ⟨g3, 0, none⟩))) 4 rfl rfl (hon 4 (by kernel_rfl)) rfl
        replace ha := Aside0.mk ha
        have B0 := Aside0.mk Q_B0
        have c_ := blk_cell (blk_below HZ3.out B0.out) 0
        refine value_ (w1 := w') (v := .int .i64 (Bn : Int)) (by rfl) rfl ?_ ?_
        · go_simp
          (try simp only [i64_w])
          try rfl
        refine hK.out _ _ ⟨gm, gn, gw, g9, m3_, m6_, m9_, m10_, m11_, m12_, (by rw [ha.out]; exact putSel_upk 5 hb_ rfl rfl rfl), Q_B0, Q_Zgm, fun h0_ => absurd ((hoff 6 (by kernel_rfl)).symm.trans h0_) (by decide), Q_Zgw, fun _ h1_ => absurd ((hoff 6 (by kernel_rfl)).symm.trans h1_) (by decide), Q_Nmw, fun h0_ _ => absurd ((hoff 6 (by kernel_rfl)).symm.trans h0_) (by decide), fun h0_ => absurd ((hoff 11 (by kernel_rfl)).symm.trans h0_) (by decide), Q_X3_, fun h0_ => absurd ((hoff 6 (by kernel_rfl)).symm.trans h0_) (by decide), Q_X9_, fun h0_ => absurd ((hoff 10 (by kernel_rfl)).symm.trans h0_) (by decide), fun h0_ => absurd ((hoff 11 (by kernel_rfl)).symm.trans h0_) (by decide), fun h0_ => absurd ((hoff 12 (by kernel_rfl)).symm.trans h0_) (by decide)⟩
      refine steps_cons ?_ ?_
      · rintro b a w' ⟨gm, gn, gw, g9, m3_, m6_, m9_, m10_, m11_, m12_, ha, Q_B0, Q_Zgm, Q_Zgn, Q_Zgw, Q_Nmn, Q_Nmw, Q_Nnw, Q_Z9, Q_X3_, Q_X6_, Q_X9_, Q_X10_, Q_X11_, Q_X12_⟩ hb_ hon hoff
        refine ⟨_, rfl, fun K hK => ?_⟩
        have e24 : a.tmps[24]? = some (.int .i64 (Bn : Int)) := by rw [ha]; exact putSel_on (e := (5, 24, .int .i64 (Bn : Int))) 5 rfl rfl (hon 5 (by kernel_rfl)) rfl
        replace ha := Aside0.mk ha
        have B0 := Aside0.mk Q_B0
        have mk_ := HMI.out
        refine value_ (w1 := w'.alloc (Obj.cells (madeCells #[.int .i64 0] Bn) 3)) (v := .slice (some ⟨w'.heap.size, 0, none⟩) Bn Bn) (by rfl) rfl (by first | (go_simp; done) | (go_simp; rfl)) ?_
        have hb := below_alloc (Below.refl w'.heap.size w') (Obj.cells (madeCells #[.int .i64 0] Bn) 3)
        refine hK.out _ _ ⟨gm, w'.heap.size, gw, g9, m3_, (.slice (some ⟨w'.heap.size, 0, none⟩) Bn Bn), m9_, m10_, m11_, m12_, (by rw [ha.out]; exact putSel_upk 6 hb_ rfl rfl rfl), below_then B0.out B0.out.size hb, fun h0_ => ⟨blk_below (Q_Zgm h0_).1 hb, (Q_Zgm h0_).2⟩, fun _ => ⟨heap_alloc_new w' _, B0.out.size⟩, fun h0_ => ⟨blk_below (Q_Zgw h0_).1 hb, (Q_Zgw h0_).2⟩, fun h0_ h1_ => Nat.ne_of_lt (blk_lt (Q_Zgm h0_).1), Q_Nmw, fun h0_ h1_ => Nat.ne_of_gt (blk_lt (Q_Zgw h1_).1), fun h0_ => absurd ((hoff 11 (by kernel_rfl)).symm.trans h0_) (by decide), Q_X3_, fun _ => rfl, Q_X9_, fun h0_ => absurd ((hoff 10 (by kernel_rfl)).symm.trans h0_) (by decide), fun h0_ => absurd ((hoff 11 (by kernel_rfl)).symm.trans h0_) (by decide), fun h0_ => absurd ((hoff 12 (by kernel_rfl)).symm.trans h0_) (by decide)⟩
      refine steps_cons ?_ ?_
      · rintro b a w' ⟨gm, gn, gw, g9, m3_, m6_, m9_, m10_, m11_, m12_, ha, Q_B0, Q_Zgm, Q_Zgn, Q_Zgw, Q_Nmn, Q_Nmw, Q_Nnw, Q_Z9, Q_X3_, Q_X6_, Q_X9_, Q_X10_, Q_X11_, Q_X12_⟩ hb_ hon hoff
        refine ⟨_, rfl, fun K hK => ?_⟩
        have e3 : a.tmps[3]? = some (.pointer (some ⟨g3, 0, none⟩)) := by rw [ha]; exact (putSel_off rfl).trans rfl
        replace ha := Aside0.mk ha
        have B0 := Aside0.mk Q_B0
        refine value_ (w1 := w') (v := .pointer (some ⟨g3, 0, none⟩)) (by rfl) rfl ?_ ?_
        · go_simp
          (try simp only [i64_w])
          try rfl
        refine hK.out _ _ ⟨gm, gn, gw, g9, m3_, m6_, m9_, m10_, m11_, m12_, (by rw [ha.out]; exact putSel_upk 7 hb_ rfl rfl rfl), Q_B0, Q_Zgm, Q_Zgn, fun h0_ => absurd ((hoff 9 (by kernel_rfl)).symm.trans h0_) (by decide), Q_Nmn, fun _ h1_ => absurd ((hoff 9 (by kernel_rfl)).symm.trans h1_) (by decide), fun _ h1_ => absurd ((hoff 9 (by kernel_rfl)).symm.trans h1_) (by decide), fun h0_ => absurd ((hoff 11 (by kernel_rfl)).symm.trans h0_) (by decide), Q_X3_, Q_X6_, fun h0_ => absurd ((hoff 9 (by kernel_rfl)).symm.trans h0_) (by decide), fun h0_ => absurd ((hoff 10 (by kernel_rfl)).symm.trans h0_) (by decide), fun h0_ => absurd ((hoff 11 (by kernel_rfl)).symm.trans h0_) (by decide), fun h0_ => absurd ((hoff 12 (by kernel_rfl)).symm.trans h0_) (by decide)⟩
      refine steps_cons ?_ ?_
      · rintro b a w' ⟨gm, gn, gw, g9, m3_, m6_, m9_, m10_, m11_, m12_, ha, Q_B0, Q_Zgm, Q_Zgn, Q_Zgw, Q_Nmn, Q_Nmw, Q_Nnw, Q_Z9, Q_X3_, Q_X6_, Q_X9_, Q_X10_, Q_X11_, Q_X12_⟩ hb_ hon hoff
        refine ⟨_, rfl, fun K hK => ?_⟩
        have e26 : a.tmps[26]? = some (.pointer (some ⟨g3, 0, none⟩)) := by rw [ha]; exact putSel_on (e := (7, 26, .pointer (some ⟨g3, 0, none⟩))) 7 rfl rfl (hon 7 (by kernel_rfl)) rfl
        replace ha := Aside0.mk ha
        have B0 := Aside0.mk Q_B0
        have c_ := blk_cell (blk_below HZ3.out B0.out) 0
        refine value_ (w1 := w') (v := .int .i64 (Bn : Int)) (by rfl) rfl ?_ ?_
        · go_simp
          (try simp only [i64_w])
          try rfl
        refine hK.out _ _ ⟨gm, gn, gw, g9, m3_, m6_, m9_, m10_, m11_, m12_, (by rw [ha.out]; exact putSel_upk 8 hb_ rfl rfl rfl), Q_B0, Q_Zgm, Q_Zgn, fun h0_ => absurd ((hoff 9 (by kernel_rfl)).symm.trans h0_) (by decide), Q_Nmn, fun _ h1_ => absurd ((hoff 9 (by kernel_rfl)).symm.trans h1_) (by decide), fun _ h1_ => absurd ((hoff 9 (by kernel_rfl)).symm.trans h1_) (by decide), fun h0_ => absurd ((hoff 11 (by kernel_rfl)).symm.trans h0_) (by decide), Q_X3_, Q_X6_, fun h0_ => absurd ((hoff 9 (by kernel_rfl)).symm.trans h0_) (by decide), fun h0_ => absurd ((hoff 10 (by kernel_rfl)).symm.trans h0_) (by decide), fun h0_ => absurd ((hoff 11 (by kernel_rfl)).symm.trans h0_) (by decide), fun h0_ => absurd ((hoff 12 (by kernel_rfl)).symm.trans h0_) (by decide)⟩
      refine steps_cons ?_ ?_
      · rintro b a w' ⟨gm, gn, gw, g9, m3_, m6_, m9_, m10_, m11_, m12_, ha, Q_B0, Q_Zgm, Q_Zgn, Q_Zgw, Q_Nmn, Q_Nmw, Q_Nnw, Q_Z9, Q_X3_, Q_X6_, Q_X9_, Q_X10_, Q_X11_, Q_X12_⟩ hb_ hon hoff
        refine ⟨_, rfl, fun K hK => ?_⟩
        have e27 : a.tmps[27]? = some (.int .i64 (Bn : Int)) := by rw [ha]; exact putSel_on (e := (8, 27, .int .i64 (Bn : Int))) 8 rfl rfl (hon 8 (by kernel_rfl)) rfl
        replace ha := Aside0.mk ha
        have B0 := Aside0.mk Q_B0
        have mk_ := HMI.out
        refine value_ (w1 := w'.alloc (Obj.cells (madeCells #[.int .i64 0] Bn) 3)) (v := .slice (some ⟨w'.heap.size, 0, none⟩) Bn Bn) (by rfl) rfl (by first | (go_simp; done) | (go_simp; rfl)) ?_
        have hb := below_alloc (Below.refl w'.heap.size w') (Obj.cells (madeCells #[.int .i64 0] Bn) 3)
        refine hK.out _ _ ⟨gm, gn, w'.heap.size, g9, m3_, m6_, (.slice (some ⟨w'.heap.size, 0, none⟩) Bn Bn), m10_, m11_, m12_, (by rw [ha.out]; exact putSel_upk 9 hb_ rfl rfl rfl), below_then B0.out B0.out.size hb, fun h0_ => ⟨blk_below (Q_Zgm h0_).1 hb, (Q_Zgm h0_).2⟩, fun h0_ => ⟨blk_below (Q_Zgn h0_).1 hb, (Q_Zgn h0_).2⟩, fun _ => ⟨heap_alloc_new w' _, B0.out.size⟩, Q_Nmn, fun h0_ h1_ => Nat.ne_of_lt (blk_lt (Q_Zgm h0_).1), fun h0_ h1_ => Nat.ne_of_lt (blk_lt (Q_Zgn h0_).1), fun h0_ => absurd ((hoff 11 (by kernel_rfl)).symm.trans h0_) (by decide), Q_X3_, Q_X6_, fun _ => rfl, fun h0_ => absurd ((hoff 10 (by kernel_rfl)).symm.trans h0_) (by decide), fun h0_ => absurd ((hoff 11 (by kernel_rfl)).symm.trans h0_) (by decide), fun h0_ => absurd ((hoff 12 (by kernel_rfl)).symm.trans h0_) (by decide)⟩
      refine steps_cons ?_ ?_
      · rintro b a w' ⟨gm, gn, gw, g9, m3_, m6_, m9_, m10_, m11_, m12_, ha, Q_B0, Q_Zgm, Q_Zgn, Q_Zgw, Q_Nmn, Q_Nmw, Q_Nnw, Q_Z9, Q_X3_, Q_X6_, Q_X9_, Q_X10_, Q_X11_, Q_X12_⟩ hb_ hon hoff
        refine ⟨_, rfl, fun K hK => ?_⟩
        have e19 : a.tmps[19]? = some (.agg #[.int .i64 (Bn : Int), .int .i64 (Pn : Int), .int .i64 C]) := by rw [ha]; exact putSel_on (e := (0, 19, .agg #[.int .i64 (Bn : Int), .int .i64 (Pn : Int), .int .i64 C])) 0 rfl rfl (hon 0 (by kernel_rfl)) rfl
        have e22 : a.tmps[22]? = some (m3_) := by rw [ha]; exact putSel_on (e := (3, 22, m3_)) 3 rfl rfl (hon 3 (by kernel_rfl)) rfl
        rw [Q_X3_ (hon 3 (by kernel_rfl))] at e22
        have e25 : a.tmps[25]? = some (m6_) := by rw [ha]; exact putSel_on (e := (6, 25, m6_)) 6 rfl rfl (hon 6 (by kernel_rfl)) rfl
        rw [Q_X6_ (hon 6 (by kernel_rfl))] at e25
        have e28 : a.tmps[28]? = some (m9_) := by rw [ha]; exact putSel_on (e := (9, 28, m9_)) 9 rfl rfl (hon 9 (by kernel_rfl)) rfl
        rw [Q_X9_ (hon 9 (by kernel_rfl))] at e28
        replace ha := Aside0.mk ha
        have B0 := Aside0.mk Q_B0
        have Zgm := Aside0.mk (Q_Zgm (hon 3 (by kernel_rfl)))
        have Zgn := Aside0.mk (Q_Zgn (hon 6 (by kernel_rfl)))
        have Zgw := Aside0.mk (Q_Zgw (hon 9 (by kernel_rfl)))
        have Nmn := Aside0.mk (Q_Nmn (hon 3 (by kernel_rfl)) (hon 6 (by kernel_rfl)))
        have Nmw := Aside0.mk (Q_Nmw (hon 3 (by kernel_rfl)) (hon 9 (by kernel_rfl)))
        have Nnw := Aside0.mk (Q_Nnw (hon 6 (by kernel_rfl)) (hon 9 (by kernel_rfl)))
        refine value_ (w1 := w') (v := .agg #[.int .i64 (Bn : Int), .int .i64 (Pn : Int), .int .i64 C, .slice (some ⟨gm, 0, none⟩) Bn Bn, .slice none 0 0, .slice (some ⟨gn, 0, none⟩) Bn Bn, .slice (some ⟨gw, 0, none⟩) Bn Bn, .slice none 0 0, .int .i64 0, .bool false]) (by rfl) rfl ?_ ?_
        · go_simp
          (try simp only [i64_w])
          try rfl
        refine hK.out _ _ ⟨gm, gn, gw, g9, m3_, m6_, m9_, (.agg #[.int .i64 (Bn : Int), .int .i64 (Pn : Int), .int .i64 C, .slice (some ⟨gm, 0, none⟩) Bn Bn, .slice none 0 0, .slice (some ⟨gn, 0, none⟩) Bn Bn, .slice (some ⟨gw, 0, none⟩) Bn Bn, .slice none 0 0, .int .i64 0, .bool false]), m11_, m12_, (by rw [ha.out]; exact putSel_upk 10 hb_ rfl rfl rfl), Q_B0, Q_Zgm, Q_Zgn, Q_Zgw, Q_Nmn, Q_Nmw, Q_Nnw, fun h0_ => absurd ((hoff 11 (by kernel_rfl)).symm.trans h0_) (by decide), Q_X3_, Q_X6_, Q_X9_, fun _ => rfl, fun h0_ => absurd ((hoff 11 (by kernel_rfl)).symm.trans h0_) (by decide), fun h0_ => absurd ((hoff 12 (by kernel_rfl)).symm.trans h0_) (by decide)⟩
      refine steps_cons ?_ ?_
      · rintro b a w' ⟨gm, gn, gw, g9, m3_, m6_, m9_, m10_, m11_, m12_, ha, Q_B0, Q_Zgm, Q_Zgn, Q_Zgw, Q_Nmn, Q_Nmw, Q_Nnw, Q_Z9, Q_X3_, Q_X6_, Q_X9_, Q_X10_, Q_X11_, Q_X12_⟩ hb_ hon hoff
        refine ⟨_, rfl, fun K hK => ?_⟩
        have e29 : a.tmps[29]? = some (m10_) := by rw [ha]; exact putSel_on (e := (10, 29, m10_)) 10 rfl rfl (hon 10 (by kernel_rfl)) rfl
        rw [Q_X10_ (hon 10 (by kernel_rfl))] at e29
        replace ha := Aside0.mk ha
        have B0 := Aside0.mk Q_B0
        have Zgm := Aside0.mk (Q_Zgm (hon 3 (by kernel_rfl)))
        have Zgn := Aside0.mk (Q_Zgn (hon 6 (by kernel_rfl)))
        have Zgw := Aside0.mk (Q_Zgw (hon 9 (by kernel_rfl)))
        have Nmn := Aside0.mk (Q_Nmn (hon 3 (by kernel_rfl)) (hon 6 (by kernel_rfl)))
        have Nmw := Aside0.mk (Q_Nmw (hon 3 (by kernel_rfl)) (hon 9 (by kernel_rfl)))
        have Nnw := Aside0.mk (Q_Nnw (hon 6 (by kernel_rfl)) (hon 9 (by kernel_rfl)))
        refine value_ (w1 := w'.alloc (Obj.cells #[.int .i64 (Bn : Int), .int .i64 (Pn : Int), .int .i64 C, .slice (some ⟨gm, 0, none⟩) Bn Bn, .slice none 0 0, .slice (some ⟨gn, 0, none⟩) Bn Bn, .slice (some ⟨gw, 0, none⟩) Bn Bn, .slice none 0 0, .int .i64 0, .bool false] 109)) (v := .pointer (some ⟨w'.heap.size, 0, none⟩)) (by rfl) rfl (by first | (go_simp; done) | (go_simp; rfl)) ?_
        have hb := below_alloc (Below.refl w'.heap.size w') (Obj.cells #[.int .i64 (Bn : Int), .int .i64 (Pn : Int), .int .i64 C, .slice (some ⟨gm, 0, none⟩) Bn Bn, .slice none 0 0, .slice (some ⟨gn, 0, none⟩) Bn Bn, .slice (some ⟨gw, 0, none⟩) Bn Bn, .slice none 0 0, .int .i64 0, .bool false] 109)
        refine hK.out _ _ ⟨gm, gn, gw, w'.heap.size, m3_, m6_, m9_, m10_, (.pointer (some ⟨w'.heap.size, 0, none⟩)), m12_, (by rw [ha.out]; exact putSel_upk 11 hb_ rfl rfl rfl), below_then B0.out B0.out.size hb, fun _ => ⟨blk_below Zgm.out.1 hb, Zgm.out.2⟩, fun _ => ⟨blk_below Zgn.out.1 hb, Zgn.out.2⟩, fun _ => ⟨blk_below Zgw.out.1 hb, Zgw.out.2⟩, Q_Nmn, Q_Nmw, Q_Nnw, fun _ => ⟨heap_alloc_new w' _, B0.out.size, Nat.ne_of_lt (blk_lt Zgm.out.1), Nat.ne_of_lt (blk_lt Zgn.out.1), Nat.ne_of_lt (blk_lt Zgw.out.1)⟩, Q_X3_, Q_X6_, Q_X9_, Q_X10_, fun _ => rfl, fun h0_ => absurd ((hoff 12 (by kernel_rfl)).symm.trans h0_) (by decide)⟩
      refine steps_cons ?_ ?_
      · rintro b a w' ⟨gm, gn, gw, g9, m3_, m6_, m9_, m10_, m11_, m12_, ha, Q_B0, Q_Zgm, Q_Zgn, Q_Zgw, Q_Nmn, Q_Nmw, Q_Nnw, Q_Z9, Q_X3_, Q_X6_, Q_X9_, Q_X10_, Q_X11_, Q_X12_⟩ hb_ hon hoff
        refine ⟨_, rfl, fun K hK => ?_⟩
        have e30 : a.tmps[30]? = some (m11_) := by rw [ha]; exact putSel_on (e := (11, 30, m11_)) 11 rfl rfl (hon 11 (by kernel_rfl)) rfl
        rw [Q_X11_ (hon 11 (by kernel_rfl))] at e30
        replace ha := Aside0.mk ha
        have B0 := Aside0.mk Q_B0
        have Zgm := Aside0.mk (Q_Zgm (hon 3 (by kernel_rfl)))
        have Zgn := Aside0.mk (Q_Zgn (hon 6 (by kernel_rfl)))
        have Zgw := Aside0.mk (Q_Zgw (hon 9 (by kernel_rfl)))
        have Nmn := Aside0.mk (Q_Nmn (hon 3 (by kernel_rfl)) (hon 6 (by kernel_rfl)))
        have Nmw := Aside0.mk (Q_Nmw (hon 3 (by kernel_rfl)) (hon 9 (by kernel_rfl)))
        have Nnw := Aside0.mk (Q_Nnw (hon 6 (by kernel_rfl)) (hon 9 (by kernel_rfl)))
        have Z9 := Aside0.mk (Q_Z9 (hon 11 (by kernel_rfl)))
        refine value_ (w1 := w') (v := .pointer (some ⟨g9, 0, none⟩)) (by rfl) rfl ?_ ?_
        · go_simp
          (try simp only [i64_w])
          try rfl
        refine hK.out _ _ ⟨gm, gn, gw, g9, m3_, m6_, m9_, m10_, m11_, (.pointer (some ⟨g9, 0, none⟩)), (by rw [ha.out]; exact putSel_upk 12 hb_ rfl rfl rfl), Q_B0, Q_Zgm, Q_Zgn, Q_Zgw, Q_Nmn, Q_Nmw, Q_Nnw, Q_Z9, Q_X3_, Q_X6_, Q_X9_, Q_X10_, Q_X11_, fun _ => rfl⟩
      exact steps_nil
    rintro b a w4 hall ⟨gm, gn, gw, g9, m3_, m6_, m9_, m10_, m11_, m12_, ha, Q_B0, Q_Zgm, Q_Zgn, Q_Zgw, Q_Nmn, Q_Nmw, Q_Nnw, Q_Z9, Q_X3_, Q_X6_, Q_X9_, Q_X10_, Q_X11_, Q_X12_⟩
    clear B0
    have hb0_ := hall 0 (by kernel_rfl)
    have hb1_ := hall 1 (by kernel_rfl)
    have hb2_ := hall 2 (by kernel_rfl)
    have hb3_ := hall 3 (by kernel_rfl)
    have hb4_ := hall 4 (by kernel_rfl)
    have hb5_ := hall 5 (by kernel_rfl)
    have hb6_ := hall 6 (by kernel_rfl)
    have hb7_ := hall 7 (by kernel_rfl)
    have hb8_ := hall 8 (by kernel_rfl)
    have hb9_ := hall 9 (by kernel_rfl)
    have hb10_ := hall 10 (by kernel_rfl)
    have hb11_ := hall 11 (by kernel_rfl)
    have hb12_ := hall 12 (by kernel_rfl)
    subst ha
    obtain rfl := Q_X3_ hb3_
    obtain rfl := Q_X6_ hb6_
    obtain rfl := Q_X9_ hb9_
    obtain rfl := Q_X10_ hb10_
    obtain rfl := Q_X11_ hb11_
    obtain rfl := Q_X12_ hb12_
    simp only [putSel, hb0_, hb1_, hb2_, hb3_, hb4_, hb5_, hb6_, hb7_, hb8_, hb9_, hb10_, hb11_, hb12_, if_true, Act.put, List.setIfInBounds_toArray, List.set_cons_zero, List.set_cons_succ]
    have B0 := Aside0.mk Q_B0
    clear Q_B0
    have Zgm := Aside0.mk (Q_Zgm hb3_)
    clear Q_Zgm
    have Zgn := Aside0.mk (Q_Zgn hb6_)
    clear Q_Zgn
    have Zgw := Aside0.mk (Q_Zgw hb9_)
    clear Q_Zgw
    have Nmn := Aside0.mk (Q_Nmn hb3_ hb6_)
    clear Q_Nmn
    have Nmw := Aside0.mk (Q_Nmw hb3_ hb9_)
    clear Q_Nmw
    have Nnw := Aside0.mk (Q_Nnw hb6_ hb9_)
    clear Q_Nnw
    have Z9 := Aside0.mk (Q_Z9 hb11_)
    clear Q_Z9
    clear hall hb0_ hb1_ hb2_ hb3_ hb4_ hb5_ hb6_ hb7_ hb8_ hb9_ hb10_ hb11_ hb12_
    have HB4 := Aside0.mk (below_then HB3.out HB3.out.size B0.out)
    have HZ4 := Aside0.mk (blk_below HZ3.out B0.out)
    have HG3S : Aside0 (g3 < w3.heap.size ∧ W.heap.size ≤ w3.heap.size) := ⟨blk_lt HZ3.out, HB3.out.size⟩
    clear B0 HMB HMI HZ3 HB3
    go_wp2_with fail
    go_loopg [33] (bad.length + 1) (fun kq v33 w' => ∃ i : Nat, v33 = .int .i64 (i : Int) ∧ Aside0 (i ≤ bad.length ∧ kq + i = bad.length + 1) ∧ Aside0 (Cells w' gm 4 (marksTo Bn bad i)) ∧ Aside0 (Turn w4 w' (fun k => k = gm)))
    case atStart => exact ⟨0, rfl, ⟨Nat.zero_le _, rfl⟩, ⟨by rw [marksTo_zero]; exact made_cells _ _ Zgm.out.1⟩, ⟨Turn.refl _ _⟩⟩
    case round =>
      obtain ⟨i, rfl, HI, HC, HT⟩ := hrel
      by_cases hi : i < bad.length
      case neg =>
        have t1 : decide ((i : Int) < (bad.length : Int)) = false := decide_eq_false (by omega)
        have t2 : decide (i < bad.length) = false := decide_eq_false (by omega)
        have hie : i = bad.length := by have := HI.out.1; omega
        have hM := HC.out
        have e0 : marksTo Bn bad bad.length = marks (newDv (Bn : Int) (Pn : Int) C bad fs) := marksTo_all (B := (Bn : Int)) (P := (Pn : Int)) (C := C) (fs := fs)
        rw [hie, e0] at hM
        clear e0
        have hB5 : Below W.heap.size W wr := HT.out.to_below HB4.out HB4.out.size (fun k hk => by have := Zgm.out.2; have := HG3S.out.2; omega)
        have hz3 := blk_turn HZ4.out HT.out (fun e => by have := Zgm.out.2; have := HG3S.out.1; omega)
        have hz9 := blk_turn Z9.out.1 HT.out (fun e => Z9.out.2.2.1 e.symm)
        have hzn := blk_turn Zgn.out.1 HT.out (fun e => Nmn.out e.symm)
        have hzw := blk_turn Zgw.out.1 HT.out (fun e => Nmw.out e.symm)
        clear hi hie HI HC HT
        generalize wr = W5 at hM hB5 hz3 hz9 hzn hzw ⊢
        have HM5 := Aside0.mk hM
        have HB5 := Aside0.mk hB5
        have Z3_5 := Aside0.mk hz3
        have Z9_5 := Aside0.mk hz9
        have Zn_5 := Aside0.mk hzn
        have Zw_5 := Aside0.mk hzw
        obtain ⟨NP, hNP⟩ : ∃ x, x = Bn * Pn := ⟨_, rfl⟩
        have hNI : (NP : Int) = (Bn : Int) * (Pn : Int) := by rw [hNP, Int.natCast_mul]
        have hNL : NP ≤ 34 * 32 := by rw [hNP]; exact Nat.mul_le_mul (by have := HGM.out; omega) (by have := HGM.out; omega)
        have HNP := Aside0.mk (And.intro hNI hNL)
        obtain ⟨hw1, hw2⟩ := wrap_id (x := (Bn : Int) * (Pn : Int)) (by omega) (by omega)
        rw [← hNI] at hw1 hw2
        have hw1' : IntKind.i64.wrap ((Bn : Int) * (Pn : Int)) = (NP : Int) := by rw [← hNI]; exact hw1
        have hw2' : wrap64 ((Bn : Int) * (Pn : Int)) = (NP : Int) := by rw [← hNI]; exact hw2
        have z0 := blk_cell hz3 0
        have z1 := blk_cell hz3 1
        clear hw1 hw2 hM hB5 hz3 hz9 hzn hzw hNP hNI hNL HB4 HZ4
        go_wp2_with fail
        clear hw1' hw2' z0 z1 t1 t2
        go_loopg [57] (NP + 1) (fun kq v57 w' => ∃ j : Nat, v57 = .int .i64 (j : Int) ∧ Aside0 (j ≤ NP ∧ kq + j = NP + 1) ∧ ∃ vp vs, Aside0 (w'.heap[g9]? = some (.cells #[.int .i64 (Bn : Int), .int .i64 (Pn : Int), .int .i64 C, .slice (some ⟨gm, 0, none⟩) Bn Bn, vp, .slice (some ⟨gn, 0, none⟩) Bn Bn, .slice (some ⟨gw, 0, none⟩) Bn Bn, .slice none 0 0, .int .i64 0, .bool false] 109 (0, 0))) ∧ Aside0 (w'.ownsRow W5.heap.size 38 1 vp j vs ∧ Pages w' (okv W5 vp) vs (List.replicate j (List.replicate 256 255))) ∧ Aside0 (Turn W5 w' (fun k => k = g9)))
        case atStart => exact ⟨0, rfl, ⟨Nat.zero_le _, rfl⟩, .slice none 0 0, [], Z9_5, ⟨World.ownsRow_nil _ _ _ _, rfl, fun i v l hv _ => by simp at hv⟩, ⟨Turn.refl _ _⟩⟩
        case round =>
          obtain ⟨j, rfl, HJ, vp, vs, Z9r, HP, HTr⟩ := hrel
          by_cases hj : j < NP
          case neg =>
            have t1 : decide ((j : Int) < (NP : Int)) = false := decide_eq_false (by omega)
            have t2 : decide (j < NP) = false := decide_eq_false (by omega)
            obtain rfl : j = NP := by have := HJ.out.1; omega
            have hnp : 0 < j := by have := HNP.out.1; have := HGM.out; have h8 : 8 * (Pn : Int) ≤ (Bn : Int) * (Pn : Int) := Int.mul_le_mul_of_nonneg_right (by omega) (by omega); omega
            obtain ⟨gp, cp, rfl, hgp, hgp2⟩ := HP.out.1.form hnp
            have hB6 : Below W.heap.size W wr := HTr.out.to_below HB5.out HB5.out.size (fun k hk => by have := Z9.out.2.1; have := HG3S.out.2; omega)
            have hM6 := HM5.out.turn HTr.out (fun e => Z9.out.2.2.1 e)
            have hzn := blk_turn Zn_5.out HTr.out (fun e => Z9.out.2.2.2.1 e)
            have hzw := blk_turn Zw_5.out HTr.out (fun e => Z9.out.2.2.2.2 e)
            have HLT9 : Aside0 (g9 < W5.heap.size ∧ gm < W5.heap.size ∧ gn < W5.heap.size ∧ gw < W5.heap.size ∧ W5.heap.size ≤ gp ∧ W.heap.size ≤ W5.heap.size) := ⟨blk_lt Z9_5.out, HM5.out.lt, blk_lt Zn_5.out, blk_lt Zw_5.out, hgp, HB5.out.size⟩
            have hz9 := Z9r.out
            have hP := HP.out
            clear hnp hgp HP HTr HJ hj Z9r
            generalize wr = W6 at hB6 hM6 hzn hzw hz9 hP hgp2 ⊢
            have HB6 := Aside0.mk hB6
            have HM6 := Aside0.mk hM6
            have Zn_6 := Aside0.mk hzn
            have Zw_6 := Aside0.mk hzw
            have Z9_6 := Aside0.mk hz9
            have HP6 := Aside0.mk hP
            have HGP6 := Aside0.mk hgp2
            clear hB6 hM6 hzn hzw hz9 hP hgp2 HM5 HB5 Z3_5 Z9_5 Zn_5 Zw_5
            go_wp2_with fail
            clear t1 t2
            go_loopg [72] (fs.length + 1) (fun kq v72 w' => ∃ i : Nat, v72 = .int .i64 (i : Int) ∧ Aside0 (i ≤ fs.length ∧ kq + i = fs.length + 1) ∧ ∃ (vf : Value) (ps : List Fp), Aside0 (ps.map (·.1) = fs.take i) ∧ Aside0 (w'.heap[g9]? = some (.cells #[.int .i64 (Bn : Int), .int .i64 (Pn : Int), .int .i64 C, .slice (some ⟨gm, 0, none⟩) Bn Bn, .slice (some ⟨gp, 0, none⟩) j cp, .slice (some ⟨gn, 0, none⟩) Bn Bn, .slice (some ⟨gw, 0, none⟩) Bn Bn, vf, .int .i64 0, .bool false] 109 (0, 0))) ∧ Aside0 (w'.ownsRow W6.heap.size 65 3 vf i (ps.flatMap encF) ∧ FRow w' (okw W6 vf) ps) ∧ Aside0 (Turn W6 w' (fun k => k = g9)))
            case atStart => exact ⟨0, rfl, ⟨Nat.zero_le _, rfl⟩, .slice none 0 0, [], ⟨rfl⟩, Z9_6, ⟨World.ownsRow_nil _ _ _ _, fun p hp => by simp at hp⟩, ⟨Turn.refl _ _⟩⟩
            case round =>
              obtain ⟨i, rfl, HI, vf, ps, HPS, Z9r, HF, HTr⟩ := hrel
              by_cases hi : i < fs.length
              case neg =>
                have t1 : decide ((i : Int) < (fs.length : Int)) = false := decide_eq_false (by omega)
                have t2 : decide (i < fs.length) = false := decide_eq_false (by omega)
                have hie : i = fs.length := by have := HI.out.1; omega
                have hps : ps.map (·.1) = fs := by have := HPS.out; rwa [hie, List.take_length] at this
                have hpl : ps.length = fs.length := by rw [← hps, List.length_map]
                have ho : wr.ownsRow W6.heap.size 65 3 vf ps.length (ps.flatMap encF) := by rw [hpl, ← hie]; exact HF.out.1
                have hro : FRow wr (fun k => W6.heap.size ≤ k) ps := fun p hp => ⟨(HF.out.2 p hp).1, Kd.F_mono (HF.out.2 p hp).2 (fun k hk => hk.1)⟩
                obtain ⟨Af', cf', rfl, hcf, hFF⟩ := faults_F ho hro (fun k hk => own_base ho k hk) (by rw [hpl]; exact HIN.out.2.2.2.1)
                rw [hps] at hFF
                rw [hpl] at hFF hcf
                have hBW : Below W.heap.size W wr := HTr.out.to_below HB6.out HB6.out.size (fun k hk => by have := Z9.out.2.1; have := HG3S.out.2; omega)
                have h6 := HB6.out.size
                have hlt := HLT9.out
                have hsn := blk_lt Zn_6.out
                have hsw := blk_lt Zw_6.out
                have hs9 := blk_lt Z9_6.out
                have hg6 := HGP6.out
                have hpn : ((Bn : Int) * (Pn : Int)).toNat = j := by rw [← HNP.out.1]; exact Int.toNat_natCast _
                have hw : W.heap.size ≤ g9 ∧ W.heap.size ≤ gm ∧ W.heap.size ≤ gn ∧ W.heap.size ≤ gw := ⟨Nat.le_trans HG3S.out.2 Z9.out.2.1, Nat.le_trans HG3S.out.2 Zgm.out.2, Nat.le_trans HG3S.out.2 Zgn.out.2, Nat.le_trans HG3S.out.2 Zgw.out.2⟩
                have e9 := Z9.out.2.2
                have emn := Nmn.out
                have emw := Nmw.out
                have enw := Nnw.out
                obtain ⟨L, hL⟩ : ∃ L : Lay, L = ⟨g9, gm, gp, gn, gw, Bn, cp, Bn, Bn, Af', cf'⟩ := ⟨_, rfl⟩
                have hS : ∀ k, L.S k ↔ (k = g9 ∨ k = gp ∨ k = gn ∨ k = gw) := fun k => by rw [hL]; exact Iff.rfl
                have hDV : DV wr (fun k => W.heap.size ≤ k ∧ ¬ L.S k) L (newDv (Bn : Int) (Pn : Int) C bad fs) := {
                  top := by
                    rw [hL]
                    have := Z9r.out
                    rw [hpl] at this
                    rw [this]
                    unfold Lay.top
                    rw [marks_len]
                    show some (Obj.cells #[_, _, _, _, _, _, _, _, _, _] _ _) = some (Obj.cells #[.int .i64 (Bn : Int), .int .i64 (Pn : Int), .int .i64 C, .slice (some ⟨gm, 0, none⟩) (Bn : Int).toNat Bn, .slice (some ⟨gp, 0, none⟩) (List.replicate ((Bn : Int) * (Pn : Int)).toNat (List.replicate 256 (255 : Int))).length cp, .slice (some ⟨gn, 0, none⟩) (List.replicate (Bn : Int).toNat (0 : Int)).length Bn, .slice (some ⟨gw, 0, none⟩) (List.replicate (Bn : Int).toNat (0 : Int)).length Bn, .slice Af' fs.length cf', .int .i64 0, .bool false] _ _)
                    rw [List.length_replicate, List.length_replicate, hpn]
                    rfl
                  nx := by
                    rw [hL]
                    have := made_cells _ _ (blk_turn Zn_6.out HTr.out (fun e => e9.2.1 e))
                    show Cells wr gn _ ((List.replicate (Bn : Int).toNat (0 : Int)).map (Value.int .i64))
                    rw [List.map_replicate]
                    exact this
                  we := by
                    rw [hL]
                    have := made_cells _ _ (blk_turn Zw_6.out HTr.out (fun e => e9.2.2 e))
                    show Cells wr gw _ ((List.replicate (Bn : Int).toNat (0 : Int)).map (Value.int .i64))
                    rw [List.map_replicate]
                    exact this
                  pg := by
                    refine ⟨vs, by rw [hL]; exact (Cells.of_own HP6.out.1).turn HTr.out (fun e => by have e' : gp = g9 := e; omega), ?_⟩
                    show Pages wr _ vs (List.replicate ((Bn : Int) * (Pn : Int)).toNat (List.replicate 256 255))
                    rw [hpn]
                    refine (HP6.out.2.step (fun k hk hl => HTr.out.block k hl (fun e => by have e' : k = g9 := e; have := hk.1; omega))).mono (fun k hk => ⟨Nat.le_trans hlt.2.2.2.2.2 hk.1, fun hs => ?_⟩)
                    have h1 := hk.1
                    rcases (hS k).1 hs with e | e | e | e
                    · omega
                    · exact hk.2 (by rw [e]; rfl)
                    · omega
                    · omega
                  mb := by rw [hL]; exact HM6.out.turn HTr.out (fun e => e9.1 e)
                  fl := by
                    rw [hL]
                    exact ⟨Kd.F_mono hFF (fun k hk => ⟨Nat.le_trans h6 hk, fun hs => by
                      have hk' : W6.heap.size ≤ k := hk
                      rw [← hL] at hs
                      rcases (hS k).1 hs with e | e | e | e <;> omega⟩), hcf⟩
                  ne := by rw [hL]; exact ⟨by show gp ≠ g9; omega, fun e => e9.2.1 e, fun e => e9.2.2 e, by show gp ≠ gn; omega, by show gp ≠ gw; omega, enw⟩
                  nm := fun hs => by
                    rcases (hS L.gm).1 hs with e | e | e | e <;> rw [hL] at e
                    · exact e9.1 e
                    · have e' : gm = gp := e; omega
                    · exact emn e
                    · exact emw e
                  no := fun k hk _ => hk.2
                  ok := newDv_ok HRG.out HIN.out.2.2.1 HIN.out.2.2.2.1 HIN.out.2.2.2.2 }
                have hLL : ∀ k, L.S k ∨ k = L.gm → W.heap.size ≤ k := fun k hk => by
                  rcases hk with hk | hk
                  · rcases (hS k).1 hk with e | e | e | e <;> omega
                  · rw [hk, hL]; exact hw.2.1
                have hLg : L.g = g9 := by rw [hL]
                have HFIN := Aside0.mk (And.intro hBW (And.intro hDV (And.intro hLL hLg)))
                clear hi hie hps hpl ho hro hcf hFF hBW h6 hlt hsn hsw hs9 hg6 hpn hw e9 emn emw enw hL hS hDV hLL hLg
                go_wp2_with fail
                go_ret2
                refine ⟨HFIN.out.1, ⟨fun _ => ⟨L, ?_, HFIN.out.2.1, HFIN.out.2.2.1⟩, fun h => ?_⟩⟩
                · rw [HFIN.out.2.2.2]; rfl
                · rw [HRG.out] at h; cases h
              case pos =>
                have t1 : decide ((i : Int) < (fs.length : Int)) = true := decide_eq_true (by omega)
                have t2 : decide (i < fs.length) = true := decide_eq_true (by omega)
                have p1 := eq_true (show (0 : Int) ≤ (i : Int) by omega)
                have q1 := eq_true (show (i : Int) < (fs.length : Int) by omega)
                obtain ⟨hw5, hw6⟩ := wrap_id (x := (i : Int) + 1) (by omega) (by have := HIN.out.2.2.2.1; omega)
                have HI2 := Aside0.mk hi
                have hBW : Below W.heap.size W wr := HTr.out.to_below HB6.out HB6.out.size (fun k hk => by have := Z9.out.2.1; have := HG3S.out.2; omega)
                obtain ⟨ad, A2, c2, hA, hx0, hx1, hx2, l2, g2⟩ := at_T65 (Kd.C_below HIN.out.2.1 hBW) (i : Int) (by omega) (by omega)
                obtain ⟨x, hx⟩ : ∃ x, x = rd_T65 fs (i : Int) := ⟨_, rfl⟩
                rw [← hx] at hx0 hx1 hx2 l2 g2
                rw [Int.toNat_natCast] at hx0 hx1 hx2
                have hxe : fs[i]? = some x := by
                  rw [hx]
                  unfold rd_T65
                  rw [Int.toNat_natCast, List.getD_eq_getElem?_getD, List.getElem?_eq_getElem hi]
                  rfl
                have HXE := Aside0.mk hxe
                have HML : Aside0 (x.f2.length ≤ 1000) := ⟨(HIN.out.2.2.2.2 x (List.mem_of_getElem? hxe)).2⟩
                have HAA := Aside0.mk hA
                rw [hA]
                have hz13 := heap_alloc_new wr (.cells #[.int .i64 x.f0, .int .i64 x.f1, .slice A2 x.f2.length c2] 65)
                have hb13 := below_alloc (Below.refl wr.heap.size wr) (.cells #[.int .i64 x.f0, .int .i64 x.f1, .slice A2 x.f2.length c2] 65)
                have hg13 := Kd.C_below g2 hb13
                clear hA hx hxe l2 g2 hBW hi
                go_upto_region 18 with fail
                rw [show (some ad : Option Addr) = Af from HAA.out.symm]
                generalize wr.alloc (.cells #[.int .i64 x.f0, .int .i64 x.f1, .slice A2 x.f2.length c2] 65) = W18 at hz13 hb13 hg13 ⊢
                obtain ⟨g13, hgg⟩ : ∃ g, g = wr.heap.size := ⟨_, rfl⟩
                rw [← hgg] at hz13 ⊢
                obtain ⟨v78, w78, hr, ho, hb⟩ := bytes_copy (c := c2) hg13 HML.out
                obtain ⟨A78, c78, rfl, hc78, hF78⟩ := own_F ho
                have HR := Aside0.mk hr
                have hZ13 := blk_below hz13 hb
                have H13 := Aside0.mk (blk_put hZ13 2 (.slice A78 x.f2.length c78) rfl)
                have hbw := hb13.trans (hb.mono hb13.size)
                have hF := Kd.F_step (W1 := w78.setCell ⟨g13, 2, none⟩ (.slice A78 x.f2.length c78)) hF78 (fun k hk _ => Below.heap_setCell w78 ⟨g13, 2, none⟩ _ k (fun e => by have h1_ : W18.heap.size ≤ k := hk; have h2_ := blk_lt hz13; have e' : k = g13 := e; omega))
                have hB19 : Below wr.heap.size wr (w78.setCell ⟨g13, 2, none⟩ (.slice A78 x.f2.length c78)) := hbw.setCell (p := ⟨g13, 2, none⟩) (Nat.le_of_eq hgg.symm) _
                have HMK : Aside0 (x.f2.length ≤ c78 ∧ Kd.F (Kd.int .u8) (w78.setCell ⟨g13, 2, none⟩ (.slice A78 x.f2.length c78)) (okw W6 vf) A78 x.f2.length x.f2) := ⟨hc78, Kd.F_mono hF (fun k hk => by
                  have h1_ : W18.heap.size ≤ k := hk
                  have h2_ := hb13.size
                  exact ⟨Nat.le_trans HTr.out.size (Nat.le_trans h2_ h1_), fun e => by have := own_lt HF.out.1 k e.symm; omega⟩)⟩
                have d2 : W18.cell? ⟨g13, 2, none⟩ = some (.slice A2 x.f2.length c2) := blk_cell hz13 2
                have e2 : w78.cell? ⟨g13, 2, none⟩ = some (.slice A2 x.f2.length c2) := blk_cell hZ13 2
                have ff := blk_frozen hZ13 2
                clear hr ho hb hc78 hF78 hF hz13 hb13 hg13 hZ13 hbw hgg
                go_upto_region 19 with (at_builtin; refine app_wp rfl _ _ 38 rfl rfl rfl HR.out ?_; clear d2)
                have T0 : Aside0 (Turn W6 (w78.setCell ⟨g13, 2, none⟩ (.slice A78 x.f2.length c78)) (fun k => k = g9)) := ⟨HTr.out.below hB19⟩
                have Z9' := Aside0.mk (blk_below Z9r.out hB19)
                have OR := Aside0.mk (pw_own_below HF.out.1 hB19)
                have PG := Aside0.mk (HF.out.2.step (fun k _ hl => hB19.block k hl))
                clear e2 ff HR hB19 Z9r HF HTr
                generalize w78.setCell ⟨g13, 2, none⟩ (.slice A78 x.f2.length c78) = W19 at T0 Z9' OR PG H13 HMK ⊢
                replace T0 := Aside0.mk (T0.out.below (below_drew1 (Below.refl _ _)))
                replace Z9' := Aside0.mk (blk_drew Z9'.out)
                have OR : Aside0 (W19.drew.ownsRow W6.heap.size 65 3 vf i (ps.flatMap encF)) := ⟨World.ownsRow.drew OR.out⟩
                have PG : Aside0 (FRow W19.drew (okw W6 vf) ps) := ⟨PG.out.step (fun _ _ _ => rfl)⟩
                have H13 := Aside0.mk (blk_drew H13.out)
                have HMK : Aside0 (x.f2.length ≤ c78 ∧ Kd.F (Kd.int .u8) W19.drew (okw W6 vf) A78 x.f2.length x.f2) := ⟨HMK.out.1, Kd.F_step HMK.out.2 (fun _ _ _ => rfl)⟩
                have HLG : Aside0 (g9 < W6.heap.size) := ⟨blk_lt Z9_6.out⟩
                clear t1 t2 p1 q1 hx0 hx1 hx2
                refine start_ (n := 11) (S := fun w' => True) (ds := []) #[false, false, false, false, false, false, false, false, false, false, false] (by kernel_rfl) rfl rfl trivial (fun hHeld => ?_)
                refine with_tabW new19.tab19 new19.bits19 (fun HT_ HW_ => ?_)
                generalize W19.drew = wq at T0 Z9' OR PG HMK H13 hHeld ⊢
                refine inv_at [0, 1, 2, 3, 4, 5, 6, 7, 8, 9, 10] (fun a0_ b a w' => ∃ (gx : Nat) (A87 : Option Addr) (c87 : Nat) (m6_ : Value) (m7_ : Value), a = putSel a0_ b [(0, 80, .pointer (some ⟨g9, 0, none⟩)), (1, 81, .pointer (some ⟨g9, 0, none⟩)), (2, 82, .pointer (some ⟨g9, 0, none⟩)), (3, 83, .pointer (some ⟨g9, 7, none⟩)), (4, 84, vf), (5, 85, .agg #[.int .i64 x.f0, .int .i64 x.f1, .slice A78 x.f2.length c78]), (6, 86, m6_), (7, 87, m7_), (8, 88, .pointer (some ⟨g9, 0, none⟩)), (9, 89, .pointer (some ⟨g9, 7, none⟩))] ∧ (Turn W6 w' (fun k => k = g9)) ∧ (b 10 = false → w'.heap[g9]? = some (.cells #[.int .i64 (Bn : Int), .int .i64 (Pn : Int), .int .i64 C, .slice (some ⟨gm, 0, none⟩) Bn Bn, .slice (some ⟨gp, 0, none⟩) j cp, .slice (some ⟨gn, 0, none⟩) Bn Bn, .slice (some ⟨gw, 0, none⟩) Bn Bn, vf, .int .i64 0, .bool false] 109 (0, 0))) ∧ (b 7 = false → w'.ownsRow W6.heap.size 65 3 vf i (ps.flatMap encF)) ∧ (b 7 = false → FRow w' (okw W6 vf) ps) ∧ (b 7 = false → x.f2.length ≤ c78 ∧ Kd.F (Kd.int .u8) w' (okw W6 vf) A78 x.f2.length x.f2) ∧ (b 7 = false → w'.heap[g13]? = some (.cells #[.int .i64 x.f0, .int .i64 x.f1, .slice A78 x.f2.length c78] 65 (0, 0))) ∧ (b 6 = true → b 7 = false → w'.heap[gx]? = some (.cells #[.int .i64 x.f0, .int .i64 x.f1, .slice A78 x.f2.length c78] 65 (0, 0))) ∧ (b 7 = true → w'.ownsRow W6.heap.size 65 3 (.slice A87 (i + 1) c87) (i + 1) ((ps ++ [(x, A78, c78)]).flatMap encF) ∧ FRow w' (okw W6 (.slice A87 (i + 1) c87)) (ps ++ [(x, A78, c78)])) ∧ (b 10 = true → w'.heap[g9]? = some (.cells #[.int .i64 (Bn : Int), .int .i64 (Pn : Int), .int .i64 C, .slice (some ⟨gm, 0, none⟩) Bn Bn, .slice (some ⟨gp, 0, none⟩) j cp, .slice (some ⟨gn, 0, none⟩) Bn Bn, .slice (some ⟨gw, 0, none⟩) Bn Bn, .slice A87 (i + 1) c87, .int .i64 0, .bool false] 109 (0, 0))) ∧ (b 6 = true → (m6_ : Value) = .slice (some ⟨gx, 0, none⟩) 1 1) ∧ (b 7 = true → (m7_ : Value) = .slice A87 (i + 1) c87)) HT_.out HW_.out (by kernel_rfl) (by kernel_rfl) ?_ ?_ ?_
                · exact ⟨0, none, 0, .bool false, .bool false, by simp only [putSel, Bool.false_eq_true, if_false], T0.out, fun _ => Z9'.out, fun _ => OR.out, fun _ => PG.out, fun _ => HMK.out, fun _ => H13.out, fun h_ => absurd h_ (by decide), fun h_ => absurd h_ (by decide), fun h_ => absurd h_ (by decide), fun h_ => absurd h_ (by decide), fun h_ => absurd h_ (by decide)⟩
                · skip
                  clear H13 HMK OR PG T0 Z9'
                  refine steps_cons ?_ ?_
                  · rintro b a w' ⟨gx, A87, c87, m6_, m7_, ha, Q_T0, Q_Z9', Q_OR, Q_PG, Q_HMK, Q_H13, Q_GX, Q_O7, Q_FIN, Q_X6_, Q_X7_⟩ hb_ hon hoff
                    refine ⟨_, rfl, fun K hK => ?_⟩
                    have e9 : a.tmps[9]? = some (.pointer (some ⟨g9, 0, none⟩)) := by rw [ha]; exact (putSel_off rfl).trans rfl
                    replace ha := Aside0.mk ha
                    have T0 := Aside0.mk Q_T0
                    have Z9' := Aside0.mk (Q_Z9' (hoff 10 (by kernel_rfl)))
                    refine value_ (w1 := w') (v := .pointer (some ⟨g9, 0, none⟩)) (by rfl) rfl ?_ ?_
                    · go_simp
                      (try simp only [i64_w])
                      try rfl
                    refine hK.out _ _ ⟨gx, A87, c87, m6_, m7_, (by rw [ha.out]; exact putSel_upk 0 hb_ rfl rfl rfl), Q_T0, Q_Z9', Q_OR, Q_PG, Q_HMK, Q_H13, Q_GX, Q_O7, fun h0_ => absurd ((hoff 10 (by kernel_rfl)).symm.trans h0_) (by decide), Q_X6_, Q_X7_⟩
                  refine steps_cons ?_ ?_
                  · rintro b a w' ⟨gx, A87, c87, m6_, m7_, ha, Q_T0, Q_Z9', Q_OR, Q_PG, Q_HMK, Q_H13, Q_GX, Q_O7, Q_FIN, Q_X6_, Q_X7_⟩ hb_ hon hoff
                    refine ⟨_, rfl, fun K hK => ?_⟩
                    have e9 : a.tmps[9]? = some (.pointer (some ⟨g9, 0, none⟩)) := by rw [ha]; exact (putSel_off rfl).trans rfl
                    replace ha := Aside0.mk ha
                    have T0 := Aside0.mk Q_T0
                    have Z9' := Aside0.mk (Q_Z9' (hoff 10 (by kernel_rfl)))
                    have OR := Aside0.mk (Q_OR (hoff 7 (by kernel_rfl)))
                    have PG := Aside0.mk (Q_PG (hoff 7 (by kernel_rfl)))
                    have HMK := Aside0.mk (Q_HMK (hoff 7 (by kernel_rfl)))
                    have H13 := Aside0.mk (Q_H13 (hoff 7 (by kernel_rfl)))
                    refine value_ (w1 := w') (v := .pointer (some ⟨g9, 0, none⟩)) (by rfl) rfl ?_ ?_
                    · go_simp
                      (try simp only [i64_w])
                      try rfl
                    refine hK.out _ _ ⟨gx, A87, c87, m6_, m7_, (by rw [ha.out]; exact putSel_upk 1 hb_ rfl rfl rfl), Q_T0, Q_Z9', Q_OR, Q_PG, Q_HMK, Q_H13, Q_GX, fun h0_ => absurd ((hoff 7 (by kernel_rfl)).symm.trans h0_) (by decide), fun h0_ => absurd ((hoff 10 (by kernel_rfl)).symm.trans h0_) (by decide), Q_X6_, fun h0_ => absurd ((hoff 7 (by kernel_rfl)).symm.trans h0_) (by decide)⟩
                  refine steps_cons ?_ ?_
                  · rintro b a w' ⟨gx, A87, c87, m6_, m7_, ha, Q_T0, Q_Z9', Q_OR, Q_PG, Q_HMK, Q_H13, Q_GX, Q_O7, Q_FIN, Q_X6_, Q_X7_⟩ hb_ hon hoff
                    refine ⟨_, rfl, fun K hK => ?_⟩
                    have e81 : a.tmps[81]? = some (.pointer (some ⟨g9, 0, none⟩)) := by rw [ha]; exact putSel_on (e := (1, 81, .pointer (some ⟨g9, 0, none⟩))) 1 rfl rfl (hon 1 (by kernel_rfl)) rfl
                    replace ha := Aside0.mk ha
                    have T0 := Aside0.mk Q_T0
                    have Z9' := Aside0.mk (Q_Z9' (hoff 10 (by kernel_rfl)))
                    have OR := Aside0.mk (Q_OR (hoff 7 (by kernel_rfl)))
                    have PG := Aside0.mk (Q_PG (hoff 7 (by kernel_rfl)))
                    have HMK := Aside0.mk (Q_HMK (hoff 7 (by kernel_rfl)))
                    have H13 := Aside0.mk (Q_H13 (hoff 7 (by kernel_rfl)))
                    refine value_ (w1 := w') (v := .pointer (some ⟨g9, 0, none⟩)) (by rfl) rfl ?_ ?_
                    · go_simp
                      (try simp only [i64_w])
                      try rfl
                    refine hK.out _ _ ⟨gx, A87, c87, m6_, m7_, (by rw [ha.out]; exact putSel_upk 2 hb_ rfl rfl rfl), Q_T0, Q_Z9', Q_OR, Q_PG, Q_HMK, Q_H13, Q_GX, fun h0_ => absurd ((hoff 7 (by kernel_rfl)).symm.trans h0_) (by decide), fun h0_ => absurd ((hoff 10 (by kernel_rfl)).symm.trans h0_) (by decide), Q_X6_, fun h0_ => absurd ((hoff 7 (by kernel_rfl)).symm.trans h0_) (by decide)⟩
                  refine steps_cons ?_ ?_
                  · rintro b a w' ⟨gx, A87, c87, m6_, m7_, ha, Q_T0, Q_Z9', Q_OR, Q_PG, Q_HMK, Q_H13, Q_GX, Q_O7, Q_FIN, Q_X6_, Q_X7_⟩ hb_ hon hoff
                    refine ⟨_, rfl, fun K hK => ?_⟩
                    have e82 : a.tmps[82]? = some (.pointer (some ⟨g9, 0, none⟩)) := by rw [ha]; exact putSel_on (e := (2, 82, .pointer (some ⟨g9, 0, none⟩))) 2 rfl rfl (hon 2 (by kernel_rfl)) rfl
                    replace ha := Aside0.mk ha
                    have T0 := Aside0.mk Q_T0
                    have Z9' := Aside0.mk (Q_Z9' (hoff 10 (by kernel_rfl)))
                    have OR := Aside0.mk (Q_OR (hoff 7 (by kernel_rfl)))
                    have PG := Aside0.mk (Q_PG (hoff 7 (by kernel_rfl)))
                    have HMK := Aside0.mk (Q_HMK (hoff 7 (by kernel_rfl)))
                    have H13 := Aside0.mk (Q_H13 (hoff 7 (by kernel_rfl)))
                    refine value_ (w1 := w') (v := .pointer (some ⟨g9, 7, none⟩)) (by rfl) rfl ?_ ?_
                    · go_simp
                      (try simp only [i64_w])
                      try rfl
                    refine hK.out _ _ ⟨gx, A87, c87, m6_, m7_, (by rw [ha.out]; exact putSel_upk 3 hb_ rfl rfl rfl), Q_T0, Q_Z9', Q_OR, Q_PG, Q_HMK, Q_H13, Q_GX, fun h0_ => absurd ((hoff 7 (by kernel_rfl)).symm.trans h0_) (by decide), fun h0_ => absurd ((hoff 10 (by kernel_rfl)).symm.trans h0_) (by decide), Q_X6_, fun h0_ => absurd ((hoff 7 (by kernel_rfl)).symm.trans h0_) (by decide)⟩
                  refine steps_cons ?_ ?_
                  · rintro b a w' ⟨gx, A87, c87, m6_, m7_, ha, Q_T0, Q_Z9', Q_OR, Q_PG, Q_HMK, Q_H13, Q_GX, Q_O7, Q_FIN, Q_X6_, Q_X7_⟩ hb_ hon hoff
                    refine ⟨_, rfl, fun K hK => ?_⟩
                    have e83 : a.tmps[83]? = some (.pointer (some ⟨g9, 7, none⟩)) := by rw [ha]; exact putSel_on (e := (3, 83, .pointer (some ⟨g9, 7, none⟩))) 3 rfl rfl (hon 3 (by kernel_rfl)) rfl
                    replace ha := Aside0.mk ha
                    have T0 := Aside0.mk Q_T0
                    have Z9' := Aside0.mk (Q_Z9' (hoff 10 (by kernel_rfl)))
                    have OR := Aside0.mk (Q_OR (hoff 7 (by kernel_rfl)))
                    have PG := Aside0.mk (Q_PG (hoff 7 (by kernel_rfl)))
                    have HMK := Aside0.mk (Q_HMK (hoff 7 (by kernel_rfl)))
                    have H13 := Aside0.mk (Q_H13 (hoff 7 (by kernel_rfl)))
                    have c_ := blk_cell Z9'.out 7
                    refine value_ (w1 := w') (v := vf) (by rfl) rfl ?_ ?_
                    · go_simp
                      (try simp only [i64_w])
                      try rfl
                    refine hK.out _ _ ⟨gx, A87, c87, m6_, m7_, (by rw [ha.out]; exact putSel_upk 4 hb_ rfl rfl rfl), Q_T0, Q_Z9', Q_OR, Q_PG, Q_HMK, Q_H13, Q_GX, fun h0_ => absurd ((hoff 7 (by kernel_rfl)).symm.trans h0_) (by decide), fun h0_ => absurd ((hoff 10 (by kernel_rfl)).symm.trans h0_) (by decide), Q_X6_, fun h0_ => absurd ((hoff 7 (by kernel_rfl)).symm.trans h0_) (by decide)⟩
                  refine steps_cons ?_ ?_
                  · rintro b a w' ⟨gx, A87, c87, m6_, m7_, ha, Q_T0, Q_Z9', Q_OR, Q_PG, Q_HMK, Q_H13, Q_GX, Q_O7, Q_FIN, Q_X6_, Q_X7_⟩ hb_ hon hoff
                    refine ⟨_, rfl, fun K hK => ?_⟩
                    have e13 : a.tmps[13]? = some (.pointer (some ⟨g13, 0, none⟩)) := by rw [ha]; exact (putSel_off rfl).trans rfl
                    replace ha := Aside0.mk ha
                    have T0 := Aside0.mk Q_T0
                    have Z9' := Aside0.mk (Q_Z9' (hoff 10 (by kernel_rfl)))
                    have OR := Aside0.mk (Q_OR (hoff 7 (by kernel_rfl)))
                    have PG := Aside0.mk (Q_PG (hoff 7 (by kernel_rfl)))
                    have HMK := Aside0.mk (Q_HMK (hoff 7 (by kernel_rfl)))
                    have H13 := Aside0.mk (Q_H13 (hoff 7 (by kernel_rfl)))
                    have c0_ := blk_cell H13.out 0
                    have c1_ := blk_cell H13.out 1
                    have c2_ := blk_cell H13.out 2
                    refine value_ (w1 := w') (v := .agg #[.int .i64 x.f0, .int .i64 x.f1, .slice A78 x.f2.length c78]) (by rfl) rfl ?_ ?_
                    · go_simp
                      (try simp only [i64_w])
                      try rfl
                    refine hK.out _ _ ⟨gx, A87, c87, m6_, m7_, (by rw [ha.out]; exact putSel_upk 5 hb_ rfl rfl rfl), Q_T0, Q_Z9', Q_OR, Q_PG, Q_HMK, Q_H13, fun h0_ _ => absurd ((hoff 6 (by kernel_rfl)).symm.trans h0_) (by decide), fun h0_ => absurd ((hoff 7 (by kernel_rfl)).symm.trans h0_) (by decide), fun h0_ => absurd ((hoff 10 (by kernel_rfl)).symm.trans h0_) (by decide), fun h0_ => absurd ((hoff 6 (by kernel_rfl)).symm.trans h0_) (by decide), fun h0_ => absurd ((hoff 7 (by kernel_rfl)).symm.trans h0_) (by decide)⟩
                  refine steps_cons ?_ ?_
                  · rintro b a w' ⟨gx, A87, c87, m6_, m7_, ha, Q_T0, Q_Z9', Q_OR, Q_PG, Q_HMK, Q_H13, Q_GX, Q_O7, Q_FIN, Q_X6_, Q_X7_⟩ hb_ hon hoff
                    refine ⟨_, rfl, fun K hK => ?_⟩
                    have e85 : a.tmps[85]? = some (.agg #[.int .i64 x.f0, .int .i64 x.f1, .slice A78 x.f2.length c78]) := by rw [ha]; exact putSel_on (e := (5, 85, .agg #[.int .i64 x.f0, .int .i64 x.f1, .slice A78 x.f2.length c78])) 5 rfl rfl (hon 5 (by kernel_rfl)) rfl
                    replace ha := Aside0.mk ha
                    have T0 := Aside0.mk Q_T0
                    have Z9' := Aside0.mk (Q_Z9' (hoff 10 (by kernel_rfl)))
                    have OR := Aside0.mk (Q_OR (hoff 7 (by kernel_rfl)))
                    have PG := Aside0.mk (Q_PG (hoff 7 (by kernel_rfl)))
                    have HMK := Aside0.mk (Q_HMK (hoff 7 (by kernel_rfl)))
                    have H13 := Aside0.mk (Q_H13 (hoff 7 (by kernel_rfl)))
                    refine value_ (w1 := w'.alloc (Obj.cells #[.int .i64 x.f0, .int .i64 x.f1, .slice A78 x.f2.length c78] 65)) (v := .slice (some ⟨w'.heap.size, 0, none⟩) 1 1) (by rfl) rfl (by first | (go_simp; done) | (go_simp; rfl)) ?_
                    have hb := below_alloc (Below.refl w'.heap.size w') (Obj.cells #[.int .i64 x.f0, .int .i64 x.f1, .slice A78 x.f2.length c78] 65)
                    refine hK.out _ _ ⟨w'.heap.size, A87, c87, (.slice (some ⟨w'.heap.size, 0, none⟩) 1 1), m7_, (by rw [ha.out]; exact putSel_upk 6 hb_ rfl rfl rfl), T0.out.below hb, fun _ => blk_below Z9'.out hb, fun _ => pw_own_below OR.out hb, fun _ => PG.out.step (fun k _ hl_ => hb.block k hl_), fun _ => ⟨HMK.out.1, Kd.F_below HMK.out.2 hb⟩, fun _ => blk_below H13.out hb, fun _ _ => heap_alloc_new w' _, fun h0_ => absurd ((hoff 7 (by kernel_rfl)).symm.trans h0_) (by decide), fun h0_ => absurd ((hoff 10 (by kernel_rfl)).symm.trans h0_) (by decide), fun _ => rfl, fun h0_ => absurd ((hoff 7 (by kernel_rfl)).symm.trans h0_) (by decide)⟩
                  refine steps_cons ?_ ?_
                  · rintro b a w' ⟨gx, A87, c87, m6_, m7_, ha, Q_T0, Q_Z9', Q_OR, Q_PG, Q_HMK, Q_H13, Q_GX, Q_O7, Q_FIN, Q_X6_, Q_X7_⟩ hb_ hon hoff
                    refine ⟨_, rfl, fun K hK => ?_⟩
                    have e84 : a.tmps[84]? = some (vf) := by rw [ha]; exact putSel_on (e := (4, 84, vf)) 4 rfl rfl (hon 4 (by kernel_rfl)) rfl
                    have e86 : a.tmps[86]? = some (m6_) := by rw [ha]; exact putSel_on (e := (6, 86, m6_)) 6 rfl rfl (hon 6 (by kernel_rfl)) rfl
                    rw [Q_X6_ (hon 6 (by kernel_rfl))] at e86
                    replace ha := Aside0.mk ha
                    have T0 := Aside0.mk Q_T0
                    have Z9' := Aside0.mk (Q_Z9' (hoff 10 (by kernel_rfl)))
                    have OR := Aside0.mk (Q_OR hb_)
                    have PG := Aside0.mk (Q_PG hb_)
                    have HMK := Aside0.mk (Q_HMK hb_)
                    have H13 := Aside0.mk (Q_H13 hb_)
                    have GX := Aside0.mk (Q_GX (hon 6 (by kernel_rfl)) hb_)
                    obtain ⟨v_, w2, hr_, ho_, hp_, hg_⟩ := fault_app (p := (x, A78, c78)) OR.out PG.out HMK.out.1 HMK.out.2 GX.out (by have := HIN.out.2.2.2.1; have := HI2.out; omega) T0.out.size
                    obtain ⟨A_, c_, rfl⟩ := own_slice ho_
                    refine app_step (by rfl) rfl rfl e84 e86 hr_ ?_
                    refine hK.out _ _ ⟨gx, A_, c_, m6_, (.slice A_ (i + 1) c_), (by rw [ha.out]; exact putSel_upk 7 hb_ rfl rfl rfl), T0.out.grown hg_ (fun k hk_ => .inr (own_base OR.out k hk_)), fun _ => blk_grown Z9'.out hg_ (fun e_ => absurd (own_base OR.out g9 e_.symm) (Nat.not_le_of_lt HLG.out)), fun h0_ => absurd ((up_self b 7).symm.trans h0_) (by decide), fun h0_ => absurd ((up_self b 7).symm.trans h0_) (by decide), fun h0_ => absurd ((up_self b 7).symm.trans h0_) (by decide), fun h0_ => absurd ((up_self b 7).symm.trans h0_) (by decide), fun _ h1_ => absurd ((up_self b 7).symm.trans h1_) (by decide), fun _ => ⟨ho_, hp_⟩, fun h0_ => absurd ((hoff 10 (by kernel_rfl)).symm.trans h0_) (by decide), Q_X6_, fun _ => rfl⟩
                  refine steps_cons ?_ ?_
                  · rintro b a w' ⟨gx, A87, c87, m6_, m7_, ha, Q_T0, Q_Z9', Q_OR, Q_PG, Q_HMK, Q_H13, Q_GX, Q_O7, Q_FIN, Q_X6_, Q_X7_⟩ hb_ hon hoff
                    refine ⟨_, rfl, fun K hK => ?_⟩
                    have e80 : a.tmps[80]? = some (.pointer (some ⟨g9, 0, none⟩)) := by rw [ha]; exact putSel_on (e := (0, 80, .pointer (some ⟨g9, 0, none⟩))) 0 rfl rfl (hon 0 (by kernel_rfl)) rfl
                    replace ha := Aside0.mk ha
                    have T0 := Aside0.mk Q_T0
                    have Z9' := Aside0.mk (Q_Z9' (hoff 10 (by kernel_rfl)))
                    have O7 := Aside0.mk (Q_O7 (hon 7 (by kernel_rfl)))
                    refine value_ (w1 := w') (v := .pointer (some ⟨g9, 0, none⟩)) (by rfl) rfl ?_ ?_
                    · go_simp
                      (try simp only [i64_w])
                      try rfl
                    refine hK.out _ _ ⟨gx, A87, c87, m6_, m7_, (by rw [ha.out]; exact putSel_upk 8 hb_ rfl rfl rfl), Q_T0, Q_Z9', fun h0_ => absurd ((hon 7 (by kernel_rfl)).symm.trans h0_) (by decide), fun h0_ => absurd ((hon 7 (by kernel_rfl)).symm.trans h0_) (by decide), fun h0_ => absurd ((hon 7 (by kernel_rfl)).symm.trans h0_) (by decide), fun h0_ => absurd ((hon 7 (by kernel_rfl)).symm.trans h0_) (by decide), fun _ h1_ => absurd ((hon 7 (by kernel_rfl)).symm.trans h1_) (by decide), Q_O7, fun h0_ => absurd ((hoff 10 (by kernel_rfl)).symm.trans h0_) (by decide), Q_X6_, Q_X7_⟩
                  refine steps_cons ?_ ?_
                  · rintro b a w' ⟨gx, A87, c87, m6_, m7_, ha, Q_T0, Q_Z9', Q_OR, Q_PG, Q_HMK, Q_H13, Q_GX, Q_O7, Q_FIN, Q_X6_, Q_X7_⟩ hb_ hon hoff
                    refine ⟨_, rfl, fun K hK => ?_⟩
                    have e88 : a.tmps[88]? = some (.pointer (some ⟨g9, 0, none⟩)) := by rw [ha]; exact putSel_on (e := (8, 88, .pointer (some ⟨g9, 0, none⟩))) 8 rfl rfl (hon 8 (by kernel_rfl)) rfl
                    replace ha := Aside0.mk ha
                    have T0 := Aside0.mk Q_T0
                    have Z9' := Aside0.mk (Q_Z9' (hoff 10 (by kernel_rfl)))
                    have O7 := Aside0.mk (Q_O7 (hon 7 (by kernel_rfl)))
                    refine value_ (w1 := w') (v := .pointer (some ⟨g9, 7, none⟩)) (by rfl) rfl ?_ ?_
                    · go_simp
                      (try simp only [i64_w])
                      try rfl
                    refine hK.out _ _ ⟨gx, A87, c87, m6_, m7_, (by rw [ha.out]; exact putSel_upk 9 hb_ rfl rfl rfl), Q_T0, Q_Z9', fun h0_ => absurd ((hon 7 (by kernel_rfl)).symm.trans h0_) (by decide), fun h0_ => absurd ((hon 7 (by kernel_rfl)).symm.trans h0_) (by decide), fun h0_ => absurd ((hon 7 (by kernel_rfl)).symm.trans h0_) (by decide), fun h0_ => absurd ((hon 7 (by kernel_rfl)).symm.trans h0_) (by decide), fun _ h1_ => absurd ((hon 7 (by kernel_rfl)).symm.trans h1_) (by decide), Q_O7, fun h0_ => absurd ((hoff 10 (by kernel_rfl)).symm.trans h0_) (by decide), Q_X6_, Q_X7_⟩
                  refine steps_cons ?_ ?_
                  · rintro b a w' ⟨gx, A87, c87, m6_, m7_, ha, Q_T0, Q_Z9', Q_OR, Q_PG, Q_HMK, Q_H13, Q_GX, Q_O7, Q_FIN, Q_X6_, Q_X7_⟩ hb_ hon hoff
                    refine ⟨_, rfl, fun K hK => ?_⟩
                    have e89 : a.tmps[89]? = some (.pointer (some ⟨g9, 7, none⟩)) := by rw [ha]; exact putSel_on (e := (9, 89, .pointer (some ⟨g9, 7, none⟩))) 9 rfl rfl (hon 9 (by kernel_rfl)) rfl
                    have e87 : a.tmps[87]? = some (m7_) := by rw [ha]; exact putSel_on (e := (7, 87, m7_)) 7 rfl rfl (hon 7 (by kernel_rfl)) rfl
                    rw [Q_X7_ (hon 7 (by kernel_rfl))] at e87
                    replace ha := Aside0.mk ha
                    have T0 := Aside0.mk Q_T0
                    have Z9' := Aside0.mk (Q_Z9' hb_)
                    have O7 := Aside0.mk (Q_O7 (hon 7 (by kernel_rfl)))
                    have c_ := blk_cell Z9'.out 7
                    have fr_ := blk_frozen Z9'.out 7
                    have hne_ : some g9 ≠ (Value.slice A87 (i + 1) c87).ownBlock := fun e_ => absurd (own_base O7.out.1 g9 e_.symm) (Nat.not_le_of_lt HLG.out)
                    refine skip_ (w1 := ?_) (by rfl) rfl ?_ ?_
                    rotate_left
                    · go_simp
                      rfl
                    refine hK.out _ _ ⟨gx, A87, c87, m6_, m7_, (by rw [ha.out]; exact putSel_none (v := undef) rfl), T0.out.setCell (p := ⟨g9, 7, none⟩) (.inl rfl) _, fun h0_ => absurd ((up_self b 10).symm.trans h0_) (by decide), fun h0_ => absurd ((hon 7 (by kernel_rfl)).symm.trans h0_) (by decide), fun h0_ => absurd ((hon 7 (by kernel_rfl)).symm.trans h0_) (by decide), fun h0_ => absurd ((hon 7 (by kernel_rfl)).symm.trans h0_) (by decide), fun h0_ => absurd ((hon 7 (by kernel_rfl)).symm.trans h0_) (by decide), fun _ h1_ => absurd ((hon 7 (by kernel_rfl)).symm.trans h1_) (by decide), fun _ => ⟨own_setCell (p := ⟨g9, 7, none⟩) O7.out.1 hne_ _, O7.out.2.step (fun k hk_ _ => Below.heap_setCell w' ⟨g9, 7, none⟩ _ k (fun e_ => by have h1_ := hk_.1; rw [e_] at h1_; exact absurd h1_ (Nat.not_le_of_lt HLG.out)))⟩, fun _ => blk_put Z9'.out 7 _ rfl, Q_X6_, Q_X7_⟩
                  exact steps_nil
                rintro b a w19 hall ⟨gx, A87, c87, m6_, m7_, ha, Q_T0, Q_Z9', Q_OR, Q_PG, Q_HMK, Q_H13, Q_GX, Q_O7, Q_FIN, Q_X6_, Q_X7_⟩
                clear H13 HMK OR PG T0 Z9'
                have hb0_ := hall 0 (by kernel_rfl)
                have hb1_ := hall 1 (by kernel_rfl)
                have hb2_ := hall 2 (by kernel_rfl)
                have hb3_ := hall 3 (by kernel_rfl)
                have hb4_ := hall 4 (by kernel_rfl)
                have hb5_ := hall 5 (by kernel_rfl)
                have hb6_ := hall 6 (by kernel_rfl)
                have hb7_ := hall 7 (by kernel_rfl)
                have hb8_ := hall 8 (by kernel_rfl)
                have hb9_ := hall 9 (by kernel_rfl)
                have hb10_ := hall 10 (by kernel_rfl)
                subst ha
                obtain rfl := Q_X6_ hb6_
                obtain rfl := Q_X7_ hb7_
                simp only [putSel, hb0_, hb1_, hb2_, hb3_, hb4_, hb5_, hb6_, hb7_, hb8_, hb9_, hb10_, if_true, Act.put, List.setIfInBounds_toArray, List.set_cons_zero, List.set_cons_succ]
                have T0 := Aside0.mk Q_T0
                clear Q_T0
                clear Q_Z9'
                clear Q_OR
                clear Q_PG
                clear Q_HMK
                clear Q_H13
                clear Q_GX
                have O7 := Aside0.mk (Q_O7 hb7_)
                clear Q_O7
                have FIN := Aside0.mk (Q_FIN hb10_)
                clear Q_FIN
                clear hall hb0_ hb1_ hb2_ hb3_ hb4_ hb5_ hb6_ hb7_ hb8_ hb9_ hb10_
                go_wp2_with fail
                go_roundg (fs.length - i)
                case measure => have := HI.out; have := HI2.out; omega
                case rel => exact ⟨i + 1, by first | rfl | simp, ⟨by have := HI2.out; omega, by have := HI.out; have := HI2.out; omega⟩, .slice A87 (i + 1) c87, ps ++ [(x, A78, c78)], ⟨by rw [List.map_append, HPS.out, List.take_add_one, HXE.out]; rfl⟩, FIN, O7, T0⟩
          case pos =>
            have t1 : decide ((j : Int) < (NP : Int)) = true := decide_eq_true (by omega)
            have t2 : decide (j < NP) = true := decide_eq_true (by omega)
            obtain ⟨hw5, hw6⟩ := wrap_id (x := (j : Int) + 1) (by omega) (by have := HNP.out.2; omega)
            have HJ2 := Aside0.mk hj
            have HLT9 : Aside0 (g9 < W5.heap.size) := ⟨blk_lt Z9_5.out⟩
            have Z9 := Z9r
            have OR := Aside0.mk HP.out.1
            have PG := Aside0.mk HP.out.2
            have T0 : Aside0 (Turn W5 wr.drew (fun k => k = g9)) := ⟨HTr.out.below (below_drew1 (Below.refl _ _))⟩
            have Z9 := Aside0.mk (blk_drew Z9r.out)
            have OR : Aside0 (wr.drew.ownsRow W5.heap.size 38 1 vp j vs) := ⟨World.ownsRow.drew HP.out.1⟩
            have PG : Aside0 (Pages wr.drew (okv W5 vp) vs (List.replicate j (List.replicate 256 255))) := ⟨HP.out.2.step (fun _ _ _ => rfl)⟩
            have HON := Aside0.mk (fun w => zeros_Ones.calls 300 256 (List.replicate 256 255) w Ones_256)
            clear Z9r HP HTr hj
            go_upto_region 13 with fail
            clear t1 t2
            refine start_ (n := 11) (S := fun w' => True) (ds := []) #[false, false, false, false, false, false, false, false, false, false, false] (by kernel_rfl) rfl rfl trivial (fun hHeld => ?_)
            refine with_tabW new13.tab13 new13.bits13 (fun HT_ HW_ => ?_)
            generalize wr.drew = wq at T0 Z9 OR PG hHeld ⊢
            refine inv_at [0, 1, 2, 3, 4, 5, 6, 7, 8, 9, 10] (fun a0_ b a w' => ∃ (A64 : Option Addr) (c64 : Nat) (gx : Nat) (A66 : Option Addr) (c66 : Nat) (m5_ : Value) (m6_ : Value) (m7_ : Value), a = putSel a0_ b [(0, 59, .pointer (some ⟨g9, 0, none⟩)), (1, 60, .pointer (some ⟨g9, 0, none⟩)), (2, 61, .pointer (some ⟨g9, 0, none⟩)), (3, 62, .pointer (some ⟨g9, 4, none⟩)), (4, 63, vp), (5, 64, m5_), (6, 65, m6_), (7, 66, m7_), (8, 67, .pointer (some ⟨g9, 0, none⟩)), (9, 68, .pointer (some ⟨g9, 4, none⟩))] ∧ (Turn W5 w' (fun k => k = g9)) ∧ (b 10 = false → w'.heap[g9]? = some (.cells #[.int .i64 (Bn : Int), .int .i64 (Pn : Int), .int .i64 C, .slice (some ⟨gm, 0, none⟩) Bn Bn, vp, .slice (some ⟨gn, 0, none⟩) Bn Bn, .slice (some ⟨gw, 0, none⟩) Bn Bn, .slice none 0 0, .int .i64 0, .bool false] 109 (0, 0))) ∧ (b 7 = false → w'.ownsRow W5.heap.size 38 1 vp j vs) ∧ (b 7 = false → Pages w' (okv W5 vp) vs (List.replicate j (List.replicate 256 255))) ∧ (b 5 = true → b 7 = false → 256 ≤ c64 ∧ Kd.F (Kd.int .u8) w' (okv W5 vp) A64 256 (List.replicate 256 255)) ∧ (b 6 = true → b 7 = false → w'.heap[gx]? = some (.cells #[.slice A64 256 c64] 38 (0, 0))) ∧ (b 7 = true → w'.ownsRow W5.heap.size 38 1 (.slice A66 (j + 1) c66) (j + 1) (vs ++ [.slice A64 256 c64]) ∧ Pages w' (okv W5 (.slice A66 (j + 1) c66)) (vs ++ [.slice A64 256 c64]) (List.replicate j (List.replicate 256 255) ++ [(List.replicate 256 255)])) ∧ (b 10 = true → w'.heap[g9]? = some (.cells #[.int .i64 (Bn : Int), .int .i64 (Pn : Int), .int .i64 C, .slice (some ⟨gm, 0, none⟩) Bn Bn, .slice A66 (j + 1) c66, .slice (some ⟨gn, 0, none⟩) Bn Bn, .slice (some ⟨gw, 0, none⟩) Bn Bn, .slice none 0 0, .int .i64 0, .bool false] 109 (0, 0))) ∧ (b 5 = true → (m5_ : Value) = .slice A64 256 c64) ∧ (b 6 = true → (m6_ : Value) = .slice (some ⟨gx, 0, none⟩) 1 1) ∧ (b 7 = true → (m7_ : Value) = .slice A66 (j + 1) c66)) HT_.out HW_.out (by kernel_rfl) (by kernel_rfl) ?_ ?_ ?_
            · exact ⟨none, 0, 0, none, 0, .bool false, .bool false, .bool false, by simp only [putSel, Bool.false_eq_true, if_false], T0.out, fun _ => Z9.out, fun _ => OR.out, fun _ => PG.out, fun h_ => absurd h_ (by decide), fun h_ => absurd h_ (by decide), fun h_ => absurd h_ (by decide), fun h_ => absurd h_ (by decide), fun h_ => absurd h_ (by decide), fun h_ => absurd h_ (by decide), fun h_ => absurd h_ (by decide)⟩
            · skip
              clear OR PG T0 Z9
              refine steps_cons ?_ ?_
              · rintro b a w' ⟨A64, c64, gx, A66, c66, m5_, m6_, m7_, ha, Q_T0, Q_Z9, Q_OR, Q_PG, Q_FO, Q_GX, Q_O7, Q_FIN, Q_X5_, Q_X6_, Q_X7_⟩ hb_ hon hoff
                refine ⟨_, rfl, fun K hK => ?_⟩
                have e9 : a.tmps[9]? = some (.pointer (some ⟨g9, 0, none⟩)) := by rw [ha]; exact (putSel_off rfl).trans rfl
                replace ha := Aside0.mk ha
                have T0 := Aside0.mk Q_T0
                have Z9 := Aside0.mk (Q_Z9 (hoff 10 (by kernel_rfl)))
                refine value_ (w1 := w') (v := .pointer (some ⟨g9, 0, none⟩)) (by rfl) rfl ?_ ?_
                · go_simp
                  (try simp only [i64_w])
                  try rfl
                refine hK.out _ _ ⟨A64, c64, gx, A66, c66, m5_, m6_, m7_, (by rw [ha.out]; exact putSel_upk 0 hb_ rfl rfl rfl), Q_T0, Q_Z9, Q_OR, Q_PG, Q_FO, Q_GX, Q_O7, fun h0_ => absurd ((hoff 10 (by kernel_rfl)).symm.trans h0_) (by decide), Q_X5_, Q_X6_, Q_X7_⟩
              refine steps_cons ?_ ?_
              · rintro b a w' ⟨A64, c64, gx, A66, c66, m5_, m6_, m7_, ha, Q_T0, Q_Z9, Q_OR, Q_PG, Q_FO, Q_GX, Q_O7, Q_FIN, Q_X5_, Q_X6_, Q_X7_⟩ hb_ hon hoff
                refine ⟨_, rfl, fun K hK => ?_⟩
                have e9 : a.tmps[9]? = some (.pointer (some ⟨g9, 0, none⟩)) := by rw [ha]; exact (putSel_off rfl).trans rfl
                replace ha := Aside0.mk ha
                have T0 := Aside0.mk Q_T0
                have Z9 := Aside0.mk (Q_Z9 (hoff 10 (by kernel_rfl)))
                have OR := Aside0.mk (Q_OR (hoff 7 (by kernel_rfl)))
                have PG := Aside0.mk (Q_PG (hoff 7 (by kernel_rfl)))
                refine value_ (w1 := w') (v := .pointer (some ⟨g9, 0, none⟩)) (by rfl) rfl ?_ ?_
                · go_simp
                  (try simp only [i64_w])
                  try rfl
                refine hK.out _ _ ⟨A64, c64, gx, A66, c66, m5_, m6_, m7_, (by rw [ha.out]; exact putSel_upk 1 hb_ rfl rfl rfl), Q_T0, Q_Z9, Q_OR, Q_PG, Q_FO, Q_GX, fun h0_ => absurd ((hoff 7 (by kernel_rfl)).symm.trans h0_) (by decide), fun h0_ => absurd ((hoff 10 (by kernel_rfl)).symm.trans h0_) (by decide), Q_X5_, Q_X6_, fun h0_ => absurd ((hoff 7 (by kernel_rfl)).symm.trans h0_) (by decide)⟩
              refine steps_cons ?_ ?_
              · rintro b a w' ⟨A64, c64, gx, A66, c66, m5_, m6_, m7_, ha, Q_T0, Q_Z9, Q_OR, Q_PG, Q_FO, Q_GX, Q_O7, Q_FIN, Q_X5_, Q_X6_, Q_X7_⟩ hb_ hon hoff
                refine ⟨_, rfl, fun K hK => ?_⟩
                have e60 : a.tmps[60]? = some (.pointer (some ⟨g9, 0, none⟩)) := by rw [ha]; exact putSel_on (e := (1, 60, .pointer (some ⟨g9, 0, none⟩))) 1 rfl rfl (hon 1 (by kernel_rfl)) rfl
                replace ha := Aside0.mk ha
                have T0 := Aside0.mk Q_T0
                have Z9 := Aside0.mk (Q_Z9 (hoff 10 (by kernel_rfl)))
                have OR := Aside0.mk (Q_OR (hoff 7 (by kernel_rfl)))
                have PG := Aside0.mk (Q_PG (hoff 7 (by kernel_rfl)))
                refine value_ (w1 := w') (v := .pointer (some ⟨g9, 0, none⟩)) (by rfl) rfl ?_ ?_
                · go_simp
                  (try simp only [i64_w])
                  try rfl
                refine hK.out _ _ ⟨A64, c64, gx, A66, c66, m5_, m6_, m7_, (by rw [ha.out]; exact putSel_upk 2 hb_ rfl rfl rfl), Q_T0, Q_Z9, Q_OR, Q_PG, Q_FO, Q_GX, fun h0_ => absurd ((hoff 7 (by kernel_rfl)).symm.trans h0_) (by decide), fun h0_ => absurd ((hoff 10 (by kernel_rfl)).symm.trans h0_) (by decide), Q_X5_, Q_X6_, fun h0_ => absurd ((hoff 7 (by kernel_rfl)).symm.trans h0_) (by decide)⟩
              refine steps_cons ?_ ?_
              · rintro b a w' ⟨A64, c64, gx, A66, c66, m5_, m6_, m7_, ha, Q_T0, Q_Z9, Q_OR, Q_PG, Q_FO, Q_GX, Q_O7, Q_FIN, Q_X5_, Q_X6_, Q_X7_⟩ hb_ hon hoff
                refine ⟨_, rfl, fun K hK => ?_⟩
                have e61 : a.tmps[61]? = some (.pointer (some ⟨g9, 0, none⟩)) := by rw [ha]; exact putSel_on (e := (2, 61, .pointer (some ⟨g9, 0, none⟩))) 2 rfl rfl (hon 2 (by kernel_rfl)) rfl
                replace ha := Aside0.mk ha
                have T0 := Aside0.mk Q_T0
                have Z9 := Aside0.mk (Q_Z9 (hoff 10 (by kernel_rfl)))
                have OR := Aside0.mk (Q_OR (hoff 7 (by kernel_rfl)))
                have PG := Aside0.mk (Q_PG (hoff 7 (by kernel_rfl)))
                refine value_ (w1 := w') (v := .pointer (some ⟨g9, 4, none⟩)) (by rfl) rfl ?_ ?_
                · go_simp
                  (try simp only [i64_w])
                  try rfl
                refine hK.out _ _ ⟨A64, c64, gx, A66, c66, m5_, m6_, m7_, (by rw [ha.out]; exact putSel_upk 3 hb_ rfl rfl rfl), Q_T0, Q_Z9, Q_OR, Q_PG, Q_FO, Q_GX, fun h0_ => absurd ((hoff 7 (by kernel_rfl)).symm.trans h0_) (by decide), fun h0_ => absurd ((hoff 10 (by kernel_rfl)).symm.trans h0_) (by decide), Q_X5_, Q_X6_, fun h0_ => absurd ((hoff 7 (by kernel_rfl)).symm.trans h0_) (by decide)⟩
              refine steps_cons ?_ ?_
              · rintro b a w' ⟨A64, c64, gx, A66, c66, m5_, m6_, m7_, ha, Q_T0, Q_Z9, Q_OR, Q_PG, Q_FO, Q_GX, Q_O7, Q_FIN, Q_X5_, Q_X6_, Q_X7_⟩ hb_ hon hoff
                refine ⟨_, rfl, fun K hK => ?_⟩
                have e62 : a.tmps[62]? = some (.pointer (some ⟨g9, 4, none⟩)) := by rw [ha]; exact putSel_on (e := (3, 62, .pointer (some ⟨g9, 4, none⟩))) 3 rfl rfl (hon 3 (by kernel_rfl)) rfl
                replace ha := Aside0.mk ha
                have T0 := Aside0.mk Q_T0
                have Z9 := Aside0.mk (Q_Z9 (hoff 10 (by kernel_rfl)))
                have OR := Aside0.mk (Q_OR (hoff 7 (by kernel_rfl)))
                have PG := Aside0.mk (Q_PG (hoff 7 (by kernel_rfl)))
                have c_ := blk_cell Z9.out 4
                refine value_ (w1 := w') (v := vp) (by rfl) rfl ?_ ?_
                · go_simp
                  (try simp only [i64_w])
                  try rfl
                refine hK.out _ _ ⟨A64, c64, gx, A66, c66, m5_, m6_, m7_, (by rw [ha.out]; exact putSel_upk 4 hb_ rfl rfl rfl), Q_T0, Q_Z9, Q_OR, Q_PG, Q_FO, Q_GX, fun h0_ => absurd ((hoff 7 (by kernel_rfl)).symm.trans h0_) (by decide), fun h0_ => absurd ((hoff 10 (by kernel_rfl)).symm.trans h0_) (by decide), Q_X5_, Q_X6_, fun h0_ => absurd ((hoff 7 (by kernel_rfl)).symm.trans h0_) (by decide)⟩
              refine steps_cons ?_ ?_
              · rintro b a w' ⟨A64, c64, gx, A66, c66, m5_, m6_, m7_, ha, Q_T0, Q_Z9, Q_OR, Q_PG, Q_FO, Q_GX, Q_O7, Q_FIN, Q_X5_, Q_X6_, Q_X7_⟩ hb_ hon hoff
                refine ⟨_, rfl, fun K hK => ?_⟩
                replace ha := Aside0.mk ha
                have T0 := Aside0.mk Q_T0
                have Z9 := Aside0.mk (Q_Z9 (hoff 10 (by kernel_rfl)))
                have OR := Aside0.mk (Q_OR (hoff 7 (by kernel_rfl)))
                have PG := Aside0.mk (Q_PG (hoff 7 (by kernel_rfl)))
                refine goes_ Try.func61 (by kernel_rfl) rfl #[.int .i64 256] (by rfl) rfl rfl (by first | (simp only [List.map_toArray, List.map_cons, List.map_nil, Act.eval, Array.getD_eq_getD_getElem?, Option.getD_some]; done) | (simp only [List.map_toArray, List.map_cons, List.map_nil, Act.eval, Array.getD_eq_getD_getElem?, Option.getD_some]; rfl)) ?_
                with_reducible refine (HON.out _).mono ?_
                rintro e w2 ⟨v_, rfl, hR_, hb⟩
                obtain ⟨A_, c_, rfl, hc_, hF_⟩ := ones_fresh OR.out hR_ T0.out.size
                refine ⟨_, rfl, ?_⟩
                refine hK.out _ _ ⟨A_, c_, gx, A66, c66, (.slice A_ 256 c_), m6_, m7_, (by rw [ha.out]; exact putSel_upk 5 hb_ rfl rfl rfl), T0.out.below hb, fun _ => blk_below Z9.out hb, fun _ => pw_own_below OR.out hb, fun _ => PG.out.step (fun k _ hl_ => hb.block k hl_), fun _ _ => ⟨hc_, hF_⟩, fun h0_ _ => absurd ((hoff 6 (by kernel_rfl)).symm.trans h0_) (by decide), fun h0_ => absurd ((hoff 7 (by kernel_rfl)).symm.trans h0_) (by decide), fun h0_ => absurd ((hoff 10 (by kernel_rfl)).symm.trans h0_) (by decide), fun _ => rfl, fun h0_ => absurd ((hoff 6 (by kernel_rfl)).symm.trans h0_) (by decide), fun h0_ => absurd ((hoff 7 (by kernel_rfl)).symm.trans h0_) (by decide)⟩
              refine steps_cons ?_ ?_
              · rintro b a w' ⟨A64, c64, gx, A66, c66, m5_, m6_, m7_, ha, Q_T0, Q_Z9, Q_OR, Q_PG, Q_FO, Q_GX, Q_O7, Q_FIN, Q_X5_, Q_X6_, Q_X7_⟩ hb_ hon hoff
                refine ⟨_, rfl, fun K hK => ?_⟩
                have e64 : a.tmps[64]? = some (m5_) := by rw [ha]; exact putSel_on (e := (5, 64, m5_)) 5 rfl rfl (hon 5 (by kernel_rfl)) rfl
                rw [Q_X5_ (hon 5 (by kernel_rfl))] at e64
                replace ha := Aside0.mk ha
                have T0 := Aside0.mk Q_T0
                have Z9 := Aside0.mk (Q_Z9 (hoff 10 (by kernel_rfl)))
                have OR := Aside0.mk (Q_OR (hoff 7 (by kernel_rfl)))
                have PG := Aside0.mk (Q_PG (hoff 7 (by kernel_rfl)))
                have FO := Aside0.mk (Q_FO (hon 5 (by kernel_rfl)) (hoff 7 (by kernel_rfl)))
                refine value_ (w1 := w'.alloc (Obj.cells #[.slice A64 256 c64] 38)) (v := .slice (some ⟨w'.heap.size, 0, none⟩) 1 1) (by rfl) rfl (by first | (go_simp; done) | (go_simp; rfl)) ?_
                have hb := below_alloc (Below.refl w'.heap.size w') (Obj.cells #[.slice A64 256 c64] 38)
                refine hK.out _ _ ⟨A64, c64, w'.heap.size, A66, c66, m5_, (.slice (some ⟨w'.heap.size, 0, none⟩) 1 1), m7_, (by rw [ha.out]; exact putSel_upk 6 hb_ rfl rfl rfl), T0.out.below hb, fun _ => blk_below Z9.out hb, fun _ => pw_own_below OR.out hb, fun _ => PG.out.step (fun k _ hl_ => hb.block k hl_), fun _ _ => ⟨FO.out.1, Kd.F_below FO.out.2 hb⟩, fun _ _ => heap_alloc_new w' _, fun h0_ => absurd ((hoff 7 (by kernel_rfl)).symm.trans h0_) (by decide), fun h0_ => absurd ((hoff 10 (by kernel_rfl)).symm.trans h0_) (by decide), Q_X5_, fun _ => rfl, fun h0_ => absurd ((hoff 7 (by kernel_rfl)).symm.trans h0_) (by decide)⟩
              refine steps_cons ?_ ?_
              · rintro b a w' ⟨A64, c64, gx, A66, c66, m5_, m6_, m7_, ha, Q_T0, Q_Z9, Q_OR, Q_PG, Q_FO, Q_GX, Q_O7, Q_FIN, Q_X5_, Q_X6_, Q_X7_⟩ hb_ hon hoff
                refine ⟨_, rfl, fun K hK => ?_⟩
                have e63 : a.tmps[63]? = some (vp) := by rw [ha]; exact putSel_on (e := (4, 63, vp)) 4 rfl rfl (hon 4 (by kernel_rfl)) rfl
                have e65 : a.tmps[65]? = some (m6_) := by rw [ha]; exact putSel_on (e := (6, 65, m6_)) 6 rfl rfl (hon 6 (by kernel_rfl)) rfl
                rw [Q_X6_ (hon 6 (by kernel_rfl))] at e65
                replace ha := Aside0.mk ha
                have T0 := Aside0.mk Q_T0
                have Z9 := Aside0.mk (Q_Z9 (hoff 10 (by kernel_rfl)))
                have OR := Aside0.mk (Q_OR hb_)
                have PG := Aside0.mk (Q_PG hb_)
                have FO := Aside0.mk (Q_FO (hon 5 (by kernel_rfl)) hb_)
                have GX := Aside0.mk (Q_GX (hon 6 (by kernel_rfl)) hb_)
                obtain ⟨v_, w2, hr_, ho_, hp_, hg_⟩ := page_app OR.out PG.out FO.out.1 FO.out.2 GX.out (by have := HNP.out.2; have := HJ2.out; omega) T0.out.size
                obtain ⟨A_, c_, rfl⟩ := own_slice ho_
                refine app_step (by rfl) rfl rfl e63 e65 hr_ ?_
                refine hK.out _ _ ⟨A64, c64, gx, A_, c_, m5_, m6_, (.slice A_ (j + 1) c_), (by rw [ha.out]; exact putSel_upk 7 hb_ rfl rfl rfl), T0.out.grown hg_ (fun k hk_ => .inr (own_base OR.out k hk_)), fun _ => blk_grown Z9.out hg_ (fun e_ => absurd (own_base OR.out g9 e_.symm) (Nat.not_le_of_lt HLT9.out)), fun h0_ => absurd ((up_self b 7).symm.trans h0_) (by decide), fun h0_ => absurd ((up_self b 7).symm.trans h0_) (by decide), fun _ h1_ => absurd ((up_self b 7).symm.trans h1_) (by decide), fun _ h1_ => absurd ((up_self b 7).symm.trans h1_) (by decide), fun _ => ⟨ho_, hp_⟩, fun h0_ => absurd ((hoff 10 (by kernel_rfl)).symm.trans h0_) (by decide), Q_X5_, Q_X6_, fun _ => rfl⟩
              refine steps_cons ?_ ?_
              · rintro b a w' ⟨A64, c64, gx, A66, c66, m5_, m6_, m7_, ha, Q_T0, Q_Z9, Q_OR, Q_PG, Q_FO, Q_GX, Q_O7, Q_FIN, Q_X5_, Q_X6_, Q_X7_⟩ hb_ hon hoff
                refine ⟨_, rfl, fun K hK => ?_⟩
                have e59 : a.tmps[59]? = some (.pointer (some ⟨g9, 0, none⟩)) := by rw [ha]; exact putSel_on (e := (0, 59, .pointer (some ⟨g9, 0, none⟩))) 0 rfl rfl (hon 0 (by kernel_rfl)) rfl
                replace ha := Aside0.mk ha
                have T0 := Aside0.mk Q_T0
                have Z9 := Aside0.mk (Q_Z9 (hoff 10 (by kernel_rfl)))
                have O7 := Aside0.mk (Q_O7 (hon 7 (by kernel_rfl)))
                refine value_ (w1 := w') (v := .pointer (some ⟨g9, 0, none⟩)) (by rfl) rfl ?_ ?_
                · go_simp
                  (try simp only [i64_w])
                  try rfl
                refine hK.out _ _ ⟨A64, c64, gx, A66, c66, m5_, m6_, m7_, (by rw [ha.out]; exact putSel_upk 8 hb_ rfl rfl rfl), Q_T0, Q_Z9, fun h0_ => absurd ((hon 7 (by kernel_rfl)).symm.trans h0_) (by decide), fun h0_ => absurd ((hon 7 (by kernel_rfl)).symm.trans h0_) (by decide), fun _ h1_ => absurd ((hon 7 (by kernel_rfl)).symm.trans h1_) (by decide), fun _ h1_ => absurd ((hon 7 (by kernel_rfl)).symm.trans h1_) (by decide), Q_O7, fun h0_ => absurd ((hoff 10 (by kernel_rfl)).symm.trans h0_) (by decide), Q_X5_, Q_X6_, Q_X7_⟩
              refine steps_cons ?_ ?_
              · rintro b a w' ⟨A64, c64, gx, A66, c66, m5_, m6_, m7_, ha, Q_T0, Q_Z9, Q_OR, Q_PG, Q_FO, Q_GX, Q_O7, Q_FIN, Q_X5_, Q_X6_, Q_X7_⟩ hb_ hon hoff
                refine ⟨_, rfl, fun K hK => ?_⟩
                have e67 : a.tmps[67]? = some (.pointer (some ⟨g9, 0, none⟩)) := by rw [ha]; exact putSel_on (e := (8, 67, .pointer (some ⟨g9, 0, none⟩))) 8 rfl rfl (hon 8 (by kernel_rfl)) rfl
                replace ha := Aside0.mk ha
                have T0 := Aside0.mk Q_T0
                have Z9 := Aside0.mk (Q_Z9 (hoff 10 (by kernel_rfl)))
                have O7 := Aside0.mk (Q_O7 (hon 7 (by kernel_rfl)))
                refine value_ (w1 := w') (v := .pointer (some ⟨g9, 4, none⟩)) (by rfl) rfl ?_ ?_
                · go_simp
                  (try simp only [i64_w])
                  try rfl
                refine hK.out _ _ ⟨A64, c64, gx, A66, c66, m5_, m6_, m7_, (by rw [ha.out]; exact putSel_upk 9 hb_ rfl rfl rfl), Q_T0, Q_Z9, fun h0_ => absurd ((hon 7 (by kernel_rfl)).symm.trans h0_) (by decide), fun h0_ => absurd ((hon 7 (by kernel_rfl)).symm.trans h0_) (by decide), fun _ h1_ => absurd ((hon 7 (by kernel_rfl)).symm.trans h1_) (by decide), fun _ h1_ => absurd ((hon 7 (by kernel_rfl)).symm.trans h1_) (by decide), Q_O7, fun h0_ => absurd ((hoff 10 (by kernel_rfl)).symm.trans h0_) (by decide), Q_X5_, Q_X6_, Q_X7_⟩
              refine steps_cons ?_ ?_
              · rintro b a w' ⟨A64, c64, gx, A66, c66, m5_, m6_, m7_, ha, Q_T0, Q_Z9, Q_OR, Q_PG, Q_FO, Q_GX, Q_O7, Q_FIN, Q_X5_, Q_X6_, Q_X7_⟩ hb_ hon hoff
                refine ⟨_, rfl, fun K hK => ?_⟩
                have e68 : a.tmps[68]? = some (.pointer (some ⟨g9, 4, none⟩)) := by rw [ha]; exact putSel_on (e := (9, 68, .pointer (some ⟨g9, 4, none⟩))) 9 rfl rfl (hon 9 (by kernel_rfl)) rfl
                have e66 : a.tmps[66]? = some (m7_) := by rw [ha]; exact putSel_on (e := (7, 66, m7_)) 7 rfl rfl (hon 7 (by kernel_rfl)) rfl
                rw [Q_X7_ (hon 7 (by kernel_rfl))] at e66
                replace ha := Aside0.mk ha
                have T0 := Aside0.mk Q_T0
                have Z9 := Aside0.mk (Q_Z9 hb_)
                have O7 := Aside0.mk (Q_O7 (hon 7 (by kernel_rfl)))
                have c_ := blk_cell Z9.out 4
                have fr_ := blk_frozen Z9.out 4
                have hne_ : some g9 ≠ (Value.slice A66 (j + 1) c66).ownBlock := fun e_ => absurd (own_base O7.out.1 g9 e_.symm) (Nat.not_le_of_lt HLT9.out)
                refine skip_ (w1 := ?_) (by rfl) rfl ?_ ?_
                rotate_left
                · go_simp
                  rfl
                refine hK.out _ _ ⟨A64, c64, gx, A66, c66, m5_, m6_, m7_, (by rw [ha.out]; exact putSel_none (v := undef) rfl), T0.out.setCell (p := ⟨g9, 4, none⟩) (.inl rfl) _, fun h0_ => absurd ((up_self b 10).symm.trans h0_) (by decide), fun h0_ => absurd ((hon 7 (by kernel_rfl)).symm.trans h0_) (by decide), fun h0_ => absurd ((hon 7 (by kernel_rfl)).symm.trans h0_) (by decide), fun _ h1_ => absurd ((hon 7 (by kernel_rfl)).symm.trans h1_) (by decide), fun _ h1_ => absurd ((hon 7 (by kernel_rfl)).symm.trans h1_) (by decide), fun _ => ⟨own_setCell (p := ⟨g9, 4, none⟩) O7.out.1 hne_ _, O7.out.2.step (fun k hk_ _ => Below.heap_setCell w' ⟨g9, 4, none⟩ _ k (fun e_ => by have h1_ := hk_.1; rw [e_] at h1_; exact absurd h1_ (Nat.not_le_of_lt HLT9.out)))⟩, fun _ => blk_put Z9.out 4 _ rfl, Q_X5_, Q_X6_, Q_X7_⟩
              exact steps_nil
            rintro b a w13 hall ⟨A64, c64, gx, A66, c66, m5_, m6_, m7_, ha, Q_T0, Q_Z9, Q_OR, Q_PG, Q_FO, Q_GX, Q_O7, Q_FIN, Q_X5_, Q_X6_, Q_X7_⟩
            clear OR PG T0 Z9
            have hb0_ := hall 0 (by kernel_rfl)
            have hb1_ := hall 1 (by kernel_rfl)
            have hb2_ := hall 2 (by kernel_rfl)
            have hb3_ := hall 3 (by kernel_rfl)
            have hb4_ := hall 4 (by kernel_rfl)
            have hb5_ := hall 5 (by kernel_rfl)
            have hb6_ := hall 6 (by kernel_rfl)
            have hb7_ := hall 7 (by kernel_rfl)
            have hb8_ := hall 8 (by kernel_rfl)
            have hb9_ := hall 9 (by kernel_rfl)
            have hb10_ := hall 10 (by kernel_rfl)
            subst ha
            obtain rfl := Q_X5_ hb5_
            obtain rfl := Q_X6_ hb6_
            obtain rfl := Q_X7_ hb7_
            simp only [putSel, hb0_, hb1_, hb2_, hb3_, hb4_, hb5_, hb6_, hb7_, hb8_, hb9_, hb10_, if_true, Act.put, List.setIfInBounds_toArray, List.set_cons_zero, List.set_cons_succ]
            have T0 := Aside0.mk Q_T0
            clear Q_T0
            clear Q_Z9
            clear Q_OR
            clear Q_PG
            clear Q_FO
            clear Q_GX
            have O7 := Aside0.mk (Q_O7 hb7_)
            clear Q_O7
            have FIN := Aside0.mk (Q_FIN hb10_)
            clear Q_FIN
            clear hall hb0_ hb1_ hb2_ hb3_ hb4_ hb5_ hb6_ hb7_ hb8_ hb9_ hb10_
            go_wp2_with fail
            go_roundg (NP - j)
            case measure => have := HJ.out; have := HJ2.out; omega
            case rel => exact ⟨j + 1, by first | rfl | simp, ⟨by have := HJ2.out; omega, by have := HJ.out; have := HJ2.out; omega⟩, .slice A66 (j + 1) c66, _, FIN, ⟨O7.out.1, by have := O7.out.2; rwa [← List.replicate_succ'] at this⟩, T0⟩
      case pos =>
        have t1 : decide ((i : Int) < (bad.length : Int)) = true := decide_eq_true (by omega)
        have t2 : decide (i < bad.length) = true := decide_eq_true (by omega)
        have p1 := eq_true (show (0 : Int) ≤ (i : Int) by omega)
        have q1 := eq_true (show (i : Int) < (bad.length : Int) by omega)
        have hBW : Below W.heap.size W wr := HT.out.to_below HB4.out HB4.out.size (fun k hk => by have := Zgm.out.2; have := HG3S.out.2; omega)
        obtain ⟨ad, cs, hA, hcl, hK, hcc⟩ := Kd.C_get (Kd.C_below HIN.out.1 hBW) 0 (i : Int) (by omega) (by omega)
        obtain ⟨x, hx⟩ : ∃ x, bad[i]? = some x := ⟨_, List.getElem?_eq_getElem hi⟩
        have hx0 : wr.cell? (ad.add i) = some (.int .i64 x) := by
          have hk : cs = [.int .i64 (bad.getD (i : Int).toNat 0)] := hK
          subst hk
          have := hcc 0 _ rfl
          rw [Int.toNat_natCast, List.getD_eq_getElem?_getD, hx] at this
          have h' : wr.cell? (ad.add (i * 1 + 0)) = some (.int .i64 x) := this
          rwa [Nat.mul_one, Nat.add_zero] at h'
        have HX := Aside0.mk hx
        have HI2 := Aside0.mk hi
        have HAA := Aside0.mk hA
        have hz3 := blk_turn HZ4.out HT.out (fun e => by have := Zgm.out.2; have := HG3S.out.1; omega)
        have z0 := blk_cell hz3 0
        obtain ⟨hw5, hw6⟩ := wrap_id (x := (i : Int) + 1) (by omega) (by have := HIN.out.2.2.1; omega)
        rw [hA]
        clear hA hcl hK hcc hx hi hBW hz3
        by_cases h0 : x ≥ 0
        case neg =>
          have t3 : decide (x ≥ 0) = false := decide_eq_false h0
          have HMS := Aside0.mk (marksTo_miss (B := Bn) HX.out (fun h => h0 h.1))
          clear h0
          go_wp2_with fail
          rw [show (some ad : Option Addr) = Ab from HAA.out.symm]
          go_roundg (bad.length - i)
          case measure => have := HI.out; have := HI2.out; omega
          case rel => exact ⟨i + 1, by first | rfl | simp, ⟨by have := HI2.out; omega, by have := HI.out; have := HI2.out; omega⟩, ⟨by rw [HMS.out]; exact HC.out⟩, HT⟩
        case pos =>
          have t3 : decide (x ≥ 0) = true := decide_eq_true h0
          by_cases h1 : x < (Bn : Int)
          case neg =>
            have t4 : decide (x < (Bn : Int)) = false := decide_eq_false h1
            have HMS := Aside0.mk (marksTo_miss (B := Bn) HX.out (fun h => h1 h.2))
            clear h0 h1
            go_wp2_with fail
            rw [show (some ad : Option Addr) = Ab from HAA.out.symm]
            go_roundg (bad.length - i)
            case measure => have := HI.out; have := HI2.out; omega
            case rel => exact ⟨i + 1, by first | rfl | simp, ⟨by have := HI2.out; omega, by have := HI.out; have := HI2.out; omega⟩, ⟨by rw [HMS.out]; exact HC.out⟩, HT⟩
          case pos =>
            obtain ⟨n, rfl⟩ := Int.eq_ofNat_of_zero_le h0
            have t3' : decide ((n : Int) ≥ 0) = true := decide_eq_true h0
            have t4 : decide ((n : Int) < (Bn : Int)) = true := decide_eq_true h1
            have t5 : decide (n < Bn) = true := decide_eq_true (by omega)
            have p3 := eq_true (show (0 : Int) ≤ (n : Int) by omega)
            have q3 := eq_true (show (n : Int) < (Bn : Int) by omega)
            have HMS := Aside0.mk (marksTo_hit (B := Bn) HX.out (by omega))
            have hz9 := blk_turn Z9.out.1 HT.out (fun e => Z9.out.2.2.1 e.symm)
            have z3 := blk_cell hz9 3
            have zc := HC.out.cell (i := n) (by rw [marksTo_at, if_pos (by omega)])
            have zf := HC.out.frozen n
            have HC2 := Aside0.mk (HC.out.set n (.bool true))
            have HT2 := Aside0.mk (HT.out.setCell (p := ⟨gm, n, none⟩) (.inl rfl) (.bool true))
            clear h0 h1 hz9
            go_wp2_with fail
            rw [show (some ad : Option Addr) = Ab from HAA.out.symm]
            go_roundg (bad.length - i)
            case measure => have := HI.out; have := HI2.out; omega
            case rel => exact ⟨i + 1, by first | rfl | simp, ⟨by have := HI2.out; omega, by have := HI.out; have := HI2.out; omega⟩, ⟨by rw [HMS.out]; exact HC2.out⟩, HT2⟩
end Go.Proofs.Ytnchdmidaigheaa.ND
namespace Go.Proofs.Ytnchdmidaigheaa.ND
set_option linter.unusedVariables false
set_option linter.unusedSimpArgs false
open Go.RowKit Go.Proofs.Ytnchdmidaigheaa.Hp Go.Proofs.YtnchdmidaigheaaW.PrintWords Go.Proofs.YtnchdmidaigheaaW.PrintLast Go.Proofs.YtnchdmidaigheaaW.PrintMore
theorem rOnes_256 : wagtailref02_Ones.f 300 256 = some (List.replicate 256 255) := by decide +kernel
def one255 : List Int := List.replicate 256 255
theorem app_one {W : World} {base T e gx n : Nat} (hT : Try.prog.underlying T = some (.slice e)) {z u : Value} {bytes : Nat} (hinf : (Try.prog.info? e).map (fun i => (i.zero, i.size, i.bytes)) = some (some z, 1, bytes)) (hz : z.cells.size = 1) (hb0 : 0 < bytes) (hb1 : bytes ≤ 1000) (hu : u.oneCell' = true)
    {v : Value} {xs : List Value} (ho : W.ownsRow base e 1 v n xs) (hx : W.heap[gx]? = some (.cells #[u] e (0, 0))) (hn : n + 1 ≤ 100000) (hs : base ≤ W.heap.size) :
    ∃ v' w', (Builtin.append_ #[T, T] T #[v, .slice (some ⟨gx, 0, none⟩) 1 1]).run Try.prog W = .ok v' w' ∧ w'.ownsRow base e 1 v' (n + 1) (xs ++ [u]) ∧ W.grownBy w' v.ownBlock ∧ (v'.ownBlock = v.ownBlock ∨ v'.ownBlock = some W.heap.size) :=
  app_any base T T e hT hinf hz (by decide) hb0 hb1 v n xs ho ⟨gx, 0, none⟩ 1 1 [u] rfl (fun j w hw => by rw [add_plain, blk_cell hx, ← hw]; show (#[u])[j]? = _; rw [← List.getElem?_toArray]) (fun w hw => by rw [List.mem_singleton.1 hw]; exact hu) hn hs
def xnew5.T5 : Bool × List (List Nat × List Nat) := (true, [([], []), ([], []), ([1], [1]), ([2], [2]), ([3], [3]), ([], []), ([5], [5]), ([6], [6]), ([4, 7, 5], [4, 7]), ([0, 0, 1, 2, 3, 4, 5, 6, 7, 8], [0]), ([9, 0, 1, 2, 3, 4, 5, 6, 7, 8], [9]), ([10, 8, 8, 0, 1, 2, 3, 4, 5, 6, 7, 8], [8, 10])])
def xnew5.B5 : List Nat := [0, 0, 2, 6, 14, 0, 32, 96, 254, 511, 1023, 2047]
theorem xnew5.tab5 : rtab .any (opsOf Try.f24 5) = xnew5.T5 := by kernel_rfl
theorem xnew5.bits5 : waitsOk xnew5.T5.2 xnew5.B5 = true := by kernel_rfl
set_option maxHeartbeats 4000000 in
set_option maxRecDepth 100000 in
theorem xnew_calls {W : World} {okb : Nat → Prop} (B P C : Int) (bad : List Int) (fs : List Flt) (Ab Af : Option Addr) (cb cf : Nat) (hr : rightG B P C = true) (hb : Kd.F (Kd.int .i64) W okb Ab bad.length bad) (hf : Kd.F k65 W okb Af fs.length fs) (hcb : bad.length ≤ cb) (hcf : fs.length ≤ cf) (hbl : bad.length ≤ 1000) (hfl : fs.length ≤ 1000) (hfm : ∀ f ∈ fs, isBytes f.f2 ∧ f.f2.length ≤ 1000) :
    Calls Try.prog 24 #[.agg #[.int .i64 B, .int .i64 P, .int .i64 C], .slice Ab bad.length cb, .slice Af fs.length cf] W fun e w' => Below W.heap.size W w' ∧ ∃ L : XLay, e = .returned (.pointer (some ⟨L.g, 0, none⟩)) ∧ XV w' (fun k => okb k ∧ k < W.heap.size) L (newDv B P C bad fs) ∧ ∀ k, L.S k → W.heap.size ≤ k := by
  have HRG := Aside0.mk hr
  obtain ⟨hb1, hb2, hp1, hp2, hc1, hc2⟩ : 8 ≤ B ∧ B ≤ 34 ∧ 4 ≤ P ∧ P ≤ 32 ∧ 0 ≤ C ∧ C ≤ 8 := by
    unfold rightG within at hr
    simp only [Bool.and_eq_true, decide_eq_true_eq] at hr
    obtain ⟨⟨h1, h2⟩, ⟨h3, h4⟩, h5, h6⟩ := hr
    exact ⟨h1, h2, h3, h4, h5, h6⟩
  obtain ⟨Bn, rfl⟩ := Int.eq_ofNat_of_zero_le (show 0 ≤ B by omega)
  obtain ⟨Pn, rfl⟩ := Int.eq_ofNat_of_zero_le (show 0 ≤ P by omega)
  have HGM := Aside0.mk (And.intro hb1 (And.intro hb2 (And.intro hp1 hp2)))
  have HIN := Aside0.mk (And.intro hb (And.intro hf (And.intro hcb (And.intro hcf (And.intro hbl (And.intro hfl hfm))))))
  have hz3 := heap_alloc_new W (.cells #[.int .i64 (Bn : Int), .int .i64 (Pn : Int), .int .i64 C] 23)
  have hb3 := below_alloc (Below.refl W.heap.size W) (.cells #[.int .i64 (Bn : Int), .int .i64 (Pn : Int), .int .i64 C] 23)
  have hs3 : (W.alloc (.cells #[.int .i64 (Bn : Int), .int .i64 (Pn : Int), .int .i64 C] 23)).heap.size = W.heap.size + 1 := by simp
  obtain ⟨g3, hg3⟩ : ∃ g, g = W.heap.size := ⟨_, rfl⟩
  obtain ⟨g7, hg7⟩ : ∃ g, g = W.heap.size + 1 := ⟨_, rfl⟩
  clear hb hf hcb hcf hbl hfl hfm hr hb1 hb2 hp1 hp2 hc1 hc2
  go_enter Try.func24, Try.ntmps24
  go_upto_region 1 with fail
  have c0 := blk_cell hz3 0
  have c1 := blk_cell hz3 1
  have c2 := blk_cell hz3 2
  generalize W.alloc (.cells #[.int .i64 (Bn : Int), .int .i64 (Pn : Int), .int .i64 C] 23) = W1 at hz3 hb3 hs3 c0 c1 c2 ⊢
  rw [← hg3] at hz3 c0 c1 c2 ⊢
  have hz7 := heap_alloc_new W1 (.cells #[.int .i64 (Bn : Int), .int .i64 (Pn : Int), .int .i64 C, .slice Ab bad.length cb, .slice none 0 0, .slice none 0 0, .slice none 0 0, .slice Af fs.length cf, .int .i64 0, .bool false] 54)
  have hb7 := below_alloc hb3 (.cells #[.int .i64 (Bn : Int), .int .i64 (Pn : Int), .int .i64 C, .slice Ab bad.length cb, .slice none 0 0, .slice none 0 0, .slice none 0 0, .slice Af fs.length cf, .int .i64 0, .bool false] 54)
  have hz3' := blk_alloc hz3 (.cells #[.int .i64 (Bn : Int), .int .i64 (Pn : Int), .int .i64 C, .slice Ab bad.length cb, .slice none 0 0, .slice none 0 0, .slice none 0 0, .slice Af fs.length cf, .int .i64 0, .bool false] 54)
  have HG := Aside0.mk (And.intro hg3 hg7)
  rw [hs3, ← hg7] at hz7
  clear hg3
  go_upto_region 2 with fail
  generalize W1.alloc (.cells #[.int .i64 (Bn : Int), .int .i64 (Pn : Int), .int .i64 C, .slice Ab bad.length cb, .slice none 0 0, .slice none 0 0, .slice none 0 0, .slice Af fs.length cf, .int .i64 0, .bool false] 54) = W2 at hz7 hb7 hz3' ⊢
  rw [← hg7]
  have HZ7 := Aside0.mk hz7
  have HZ3 := Aside0.mk hz3'
  have HB2 := Aside0.mk hb7
  clear hz7 hz3' hb7 hz3 hb3 hs3 c0 c1 c2 hg7
  obtain ⟨NP, hNP⟩ : ∃ x, x = Bn * Pn := ⟨_, rfl⟩
  have hNI : (NP : Int) = (Bn : Int) * (Pn : Int) := by rw [hNP, Int.natCast_mul]
  have hNL : NP ≤ 34 * 32 := by rw [hNP]; exact Nat.mul_le_mul (by have := HGM.out; omega) (by have := HGM.out; omega)
  have HNP := Aside0.mk (And.intro hNI hNL)
  have HWM : Aside0 (IntKind.i64.wrap ((Bn : Int) * (Pn : Int)) = (NP : Int) ∧ wrap64 ((Bn : Int) * (Pn : Int)) = (NP : Int)) := ⟨by rw [← hNI]; exact wrap_id (by omega) (by omega)⟩
  have H73 : Aside0 (g3 ≠ g7) := ⟨by have := HG.out; omega⟩
  clear hNP hNI hNL
  go_wp2_with fail
  go_loopg [8] (NP + 1) (fun kq v8 w' => ∃ j : Nat, v8 = .int .i64 (j : Int) ∧ Aside0 (j ≤ NP ∧ kq + j = NP + 1) ∧ ∃ vp, Aside0 (w'.heap[g7]? = some (.cells #[.int .i64 (Bn : Int), .int .i64 (Pn : Int), .int .i64 C, .slice Ab bad.length cb, vp, .slice none 0 0, .slice none 0 0, .slice Af fs.length cf, .int .i64 0, .bool false] 54 (0, 0))) ∧ Aside0 (w'.ownsRow W2.heap.size 9 1 vp j (texts (List.replicate j one255))) ∧ Aside0 (Turn W2 w' (fun k => k = g7)))
  case atStart => exact ⟨0, rfl, ⟨Nat.zero_le _, rfl⟩, .slice none 0 0, HZ7, ⟨World.ownsRow_nil _ _ _ _⟩, ⟨Turn.refl _ _⟩⟩
  case round =>
    obtain ⟨j, rfl, HJ, vp, Z7r, HP, HTr⟩ := hrel
    have hz3 := blk_turn HZ3.out HTr.out (fun e => H73.out e)
    have c0 := blk_cell hz3 0
    have c1 := blk_cell hz3 1
    have hw1 := HWM.out.1
    have hw2 := HWM.out.2
    clear hz3
    by_cases hj : j < NP
    case neg =>
      have t1 : decide ((j : Int) < (NP : Int)) = false := decide_eq_false (by omega)
      have t2 : decide (j < NP) = false := decide_eq_false (by omega)
      obtain rfl : j = NP := by have := HJ.out.1; omega
      have hnp : 0 < j := by have := HNP.out.1; have := HGM.out; have h8 : 8 * (Pn : Int) ≤ (Bn : Int) * (Pn : Int) := Int.mul_le_mul_of_nonneg_right (by omega) (by omega); omega
      obtain ⟨gp, cp, rfl, hgp, hgp2⟩ := HP.out.form hnp
      have hB6 : Below W.heap.size W wr := HTr.out.to_below HB2.out HB2.out.size (fun k hk => by have e : k = g7 := hk; have := HG.out.2; omega)
      have hz3 := blk_turn HZ3.out HTr.out (fun e => H73.out e)
      have h72 := blk_lt HZ7.out
      have hz7 := Z7r.out
      have hP := HP.out
      clear hnp HP HTr HJ hj Z7r
      generalize wr = W6 at hB6 hz3 hz7 hP hgp2 c0 c1 ⊢
      have HB6 := Aside0.mk hB6
      have Z3_6 := Aside0.mk hz3
      have Z7_6 := Aside0.mk hz7
      have HP6 := Aside0.mk hP
      have HGP := Aside0.mk (And.intro hgp (And.intro hgp2 h72))
      clear hB6 hz3 hz7 hP hgp hgp2 h72
      go_wp2_with fail
      clear t1 t2 c0 c1 hw1 hw2
      go_loopg [9] (Bn + 1) (fun kq v9 w' => ∃ b : Nat, v9 = .int .i64 (b : Int) ∧ Aside0 (b ≤ Bn ∧ kq + b = Bn + 1) ∧ ∃ vn vw, Aside0 (w'.heap[g7]? = some (.cells #[.int .i64 (Bn : Int), .int .i64 (Pn : Int), .int .i64 C, .slice Ab bad.length cb, .slice (some ⟨gp, 0, none⟩) j cp, vn, vw, .slice Af fs.length cf, .int .i64 0, .bool false] 54 (0, 0))) ∧ Aside0 (w'.ownsRow W6.heap.size 3 1 vn b (List.replicate b (.int .i64 0)) ∧ w'.ownsRow W6.heap.size 3 1 vw b (List.replicate b (.int .i64 0)) ∧ ∀ k, vn.ownBlock = some k → vw.ownBlock ≠ some k) ∧ Aside0 (Turn W6 w' (fun k => k = g7)))
      case atStart => exact ⟨0, rfl, ⟨Nat.zero_le _, rfl⟩, .slice none 0 0, .slice none 0 0, Z7_6, ⟨World.ownsRow_nil _ _ _ _, World.ownsRow_nil _ _ _ _, fun k hk => by simp [Value.ownBlock] at hk⟩, ⟨Turn.refl _ _⟩⟩
      case round =>
        obtain ⟨b, rfl, HJ, vn, vw, Z7r, HR, HTr⟩ := hrel
        have hz3 := blk_turn Z3_6.out HTr.out (fun e => H73.out e)
        have c0 := blk_cell hz3 0
        clear hz3
        by_cases hj : b < Bn
        case neg =>
          have t1 : decide ((b : Int) < (Bn : Int)) = false := decide_eq_false (by omega)
          have t2 : decide (b < Bn) = false := decide_eq_false (by omega)
          obtain rfl : b = Bn := by have := HJ.out.1; omega
          obtain ⟨gn, cn, rfl, hgn, hgn2⟩ := HR.out.1.form (by have := HGM.out; omega)
          obtain ⟨gw, cw, rfl, hgw, hgw2⟩ := HR.out.2.1.form (by have := HGM.out; omega)
          have hBW : Below W.heap.size W wr := HTr.out.to_below HB6.out HB6.out.size (fun k hk => by have e : k = g7 := hk; have := HG.out.2; omega)
          have hnw : gn ≠ gw := fun e => HR.out.2.2 gn rfl (by rw [e]; rfl)
          have hgp := HGP.out
          have h7 := blk_lt Z7_6.out
          have hW2 := HB2.out.size
          have hW6 := HB6.out.size
          have hG := HG.out
          have hpn : ((b : Int) * (Pn : Int)).toNat = j := by rw [← HNP.out.1]; exact Int.toNat_natCast _
          obtain ⟨L, hL⟩ : ∃ L : XLay, L = ⟨g7, gp, gn, gw, cp, cn, cw, Ab, cb, Af, cf⟩ := ⟨_, rfl⟩
          have hS : ∀ k, L.S k ↔ (k = g7 ∨ k = gp ∨ k = gn ∨ k = gw) := fun k => by rw [hL]; exact Iff.rfl
          have hXV : XV wr (fun k => okb k ∧ k < W.heap.size) L (newDv (b : Int) (Pn : Int) C bad fs) := {
            top := by
              rw [hL, Z7r.out]
              unfold XLay.top
              show some (Obj.cells #[_, _, _, _, _, _, _, _, _, _] _ _) = some (Obj.cells #[.int .i64 (b : Int), .int .i64 (Pn : Int), .int .i64 C, .slice Ab bad.length cb, .slice (some ⟨gp, 0, none⟩) (List.replicate ((b : Int) * (Pn : Int)).toNat (List.replicate 256 (255 : Int))).length cp, .slice (some ⟨gn, 0, none⟩) (List.replicate (b : Int).toNat (0 : Int)).length cn, .slice (some ⟨gw, 0, none⟩) (List.replicate (b : Int).toNat (0 : Int)).length cw, .slice Af fs.length cf, .int .i64 0, .bool false] _ _)
              rw [List.length_replicate, List.length_replicate, hpn]
              rfl
            nx := by
              rw [hL]
              show Cells wr gn _ ((List.replicate (b : Int).toNat (0 : Int)).map (Value.int .i64))
              rw [List.map_replicate]
              exact Cells.of_own HR.out.1
            we := by
              rw [hL]
              show Cells wr gw _ ((List.replicate (b : Int).toNat (0 : Int)).map (Value.int .i64))
              rw [List.map_replicate]
              exact Cells.of_own HR.out.2.1
            pg := by
              rw [hL]
              show Cells wr gp _ (texts (List.replicate ((b : Int) * (Pn : Int)).toNat (List.replicate 256 255)))
              rw [hpn]
              exact (Cells.of_own HP6.out).turn HTr.out (fun e => by have e' : gp = g7 := e; omega)
            mb := ⟨by rw [hL]; exact Kd.F_below (Kd.F_bound HIN.out.1) hBW, by rw [hL]; exact HIN.out.2.2.1⟩
            fl := ⟨by rw [hL]; exact Kd.F_below (Kd.F_bound HIN.out.2.1) hBW, by rw [hL]; exact HIN.out.2.2.2.1⟩
            ne := by rw [hL]; exact ⟨by show gp ≠ g7; omega, by show gn ≠ g7; omega, by show gw ≠ g7; omega, by show gp ≠ gn; omega, by show gp ≠ gw; omega, hnw⟩
            no := fun k hk _ hs => by
              have := hk.2
              rcases (hS k).1 hs with e | e | e | e <;> omega
            ok := newDv_ok HRG.out HIN.out.2.2.2.2.1 HIN.out.2.2.2.2.2.1 HIN.out.2.2.2.2.2.2 }
          have hLL : ∀ k, L.S k → W.heap.size ≤ k := fun k hk => by rcases (hS k).1 hk with e | e | e | e <;> omega
          have hLg : L.g = g7 := by rw [hL]
          have HFIN := Aside0.mk (And.intro hBW (And.intro hXV (And.intro hLL hLg)))
          clear hj hgn hgn2 hgw hgw2 hBW hnw hgp h7 hW2 hW6 hG hpn hL hS hXV hLL hLg
          go_wp2_with fail
          go_ret
          exact ⟨HFIN.out.1, L, by rw [HFIN.out.2.2.2]; rfl, HFIN.out.2.1, HFIN.out.2.2.1⟩
        case pos =>
          have t1 : decide ((b : Int) < (Bn : Int)) = true := decide_eq_true (by omega)
          have t2 : decide (b < Bn) = true := decide_eq_true (by omega)
          obtain ⟨hw5, hw6⟩ := wrap_id (x := (b : Int) + 1) (by omega) (by have := HGM.out; omega)
          have HJ2 := Aside0.mk hj
          have HL7 : Aside0 (g7 < W6.heap.size) := ⟨blk_lt Z7_6.out⟩
          have hx1 := heap_alloc_new wr (.cells #[.int .i64 0] 3)
          have hbx := below_alloc (Below.refl wr.heap.size wr) (.cells #[.int .i64 0] 3)
          have hT1 := HTr.out.below hbx
          have hZ1 := blk_below Z7r.out hbx
          have hn1 := pw_own_below HR.out.1 hbx
          have hw1 := pw_own_below HR.out.2.1 hbx
          obtain ⟨vn', w9, hr9, ho9, hg9, hat9⟩ := app_one (T := 24) Try.underlying24 (z := .int .i64 0) (bytes := 8) (by kernel_rfl) rfl (by decide) (by decide) rfl hn1 hx1 (by have := HGM.out; omega) hT1.size
          obtain ⟨A9, c9, rfl⟩ := own_slice ho9
          have HR9 := Aside0.mk hr9
          have hT9 := hT1.grown hg9 (fun k hk => .inr (own_base hn1 k hk))
          have hZ9 := blk_grown hZ1 hg9 (fun e => absurd (own_base hn1 g7 e.symm) (Nat.not_le_of_lt HL7.out))
          have hw9 : w9.ownsRow W6.heap.size 3 1 vw b (List.replicate b (.int .i64 0)) := own_moved hw1 (fun k hk hl => hg9.block k hl (fun e => HR.out.2.2 k e.symm hk))
          have hne9 : ∀ k, (Value.slice A9 (b + 1) c9).ownBlock = some k → vw.ownBlock ≠ some k := fun k hk hv => by
            rcases hat9 with h | h
            · rw [h] at hk; exact HR.out.2.2 k hk hv
            · rw [h] at hk; have := own_lt HR.out.2.1 k hv; have := Option.some.inj hk; have := hbx.size; simp at this; have h3 := heap_alloc_new wr (.cells #[.int .i64 0] 3); have h4 := blk_lt h3; omega
          have hb10 := blk_put hZ9 5 (.slice A9 (b + 1) c9) rfl
          have hn7 : some g7 ≠ (Value.slice A9 (b + 1) c9).ownBlock := fun e => absurd (own_base ho9 g7 e.symm) (Nat.not_le_of_lt HL7.out)
          have hv7 : some g7 ≠ vw.ownBlock := fun e => absurd (own_base HR.out.2.1 g7 e.symm) (Nat.not_le_of_lt HL7.out)
          have ho10 := own_setCell (p := ⟨g7, 5, none⟩) ho9 hn7 (.slice A9 (b + 1) c9)
          have hw10 := own_setCell (p := ⟨g7, 5, none⟩) hw9 hv7 (.slice A9 (b + 1) c9)
          have hT10 := hT9.setCell (p := ⟨g7, 5, none⟩) (.inl rfl) (.slice A9 (b + 1) c9)
          have z5 := blk_cell Z7r.out 5
          have y5 := blk_cell hZ9 5
          have f5 := blk_frozen hZ9 5
          have HAA := Aside0.mk (And.intro hb10 (And.intro ho10 (And.intro hw10 (And.intro hT10 hne9))))
          clear hx1 hbx hT1 hZ1 hn1 hw1 hr9 ho9 hg9 hat9 hT9 hZ9 hw9 hne9 hb10 hn7 ho10 hw10 hT10 hj
          go_upto_region 10 with (at_builtin; refine app_wp rfl _ _ 24 rfl rfl rfl HR9.out ?_; clear z5)
          generalize w9.setCell ⟨g7, 5, none⟩ (.slice A9 (b + 1) c9) = W10 at HAA ⊢
          clear y5 f5 HR9
          have hx1 := heap_alloc_new W10 (.cells #[.int .i64 0] 3)
          have hbx := below_alloc (Below.refl W10.heap.size W10) (.cells #[.int .i64 0] 3)
          have hT1 := HAA.out.2.2.2.1.below hbx
          have hZ1 := blk_below HAA.out.1 hbx
          have hn1 := pw_own_below HAA.out.2.1 hbx
          have hw1 := pw_own_below HAA.out.2.2.1 hbx
          obtain ⟨vw', w11, hr11, ho11, hg11, hat11⟩ := app_one (T := 24) Try.underlying24 (z := .int .i64 0) (bytes := 8) (by kernel_rfl) rfl (by decide) (by decide) rfl hw1 hx1 (by have := HGM.out; have := HJ2.out; omega) hT1.size
          obtain ⟨A11, c11, rfl⟩ := own_slice ho11
          have HR11 := Aside0.mk hr11
          have hT11 := hT1.grown hg11 (fun k hk => .inr (own_base hw1 k hk))
          have hZ11 := blk_grown hZ1 hg11 (fun e => absurd (own_base hw1 g7 e.symm) (Nat.not_le_of_lt HL7.out))
          have hn11 := own_moved hn1 (fun k hk hl => hg11.block k hl (fun e => HAA.out.2.2.2.2 k hk e.symm))
          have hne11 : ∀ k, (Value.slice A9 (b + 1) c9).ownBlock = some k → (Value.slice A11 (b + 1) c11).ownBlock ≠ some k := fun k hk hv => by
            rcases hat11 with h | h
            · rw [h] at hv; exact HAA.out.2.2.2.2 k hk hv
            · rw [h] at hv; have h5 := own_lt hn1 k hk; have := Option.some.inj hv; omega
          have hb12 := blk_put hZ11 6 (.slice A11 (b + 1) c11) rfl
          have hn7 : some g7 ≠ (Value.slice A11 (b + 1) c11).ownBlock := fun e => absurd (own_base ho11 g7 e.symm) (Nat.not_le_of_lt HL7.out)
          have hv7' : some g7 ≠ (Value.slice A9 (b + 1) c9).ownBlock := fun e => absurd (own_base hn11 g7 e.symm) (Nat.not_le_of_lt HL7.out)
          have ho12 := own_setCell (p := ⟨g7, 6, none⟩) ho11 hn7 (.slice A11 (b + 1) c11)
          have hn12 := own_setCell (p := ⟨g7, 6, none⟩) hn11 hv7' (.slice A11 (b + 1) c11)
          have hT12 := hT11.setCell (p := ⟨g7, 6, none⟩) (.inl rfl) (.slice A11 (b + 1) c11)
          have z6 := blk_cell HAA.out.1 6
          have y6 := blk_cell hZ11 6
          have f6 := blk_frozen hZ11 6
          have HBB := Aside0.mk (And.intro hb12 (And.intro hn12 (And.intro ho12 (And.intro hT12 hne11))))
          clear hx1 hbx hT1 hZ1 hn1 hw1 hr11 ho11 hg11 hat11 hT11 hZ11 hn11 hne11 hb12 hn7 hv7 hv7' ho12 hn12 hT12
          go_wp2_with (at_builtin; refine app_wp rfl _ _ 24 rfl rfl rfl HR11.out ?_; clear z6)
          go_roundg (Bn - b)
          case measure => have := HJ.out; have := HJ2.out; omega
          case rel => exact ⟨b + 1, by first | rfl | simp, ⟨by have := HJ2.out; omega, by have := HJ.out; have := HJ2.out; omega⟩, .slice A9 (b + 1) c9, .slice A11 (b + 1) c11, ⟨HBB.out.1⟩, ⟨by rw [List.replicate_succ']; exact HBB.out.2.1, by rw [List.replicate_succ']; exact HBB.out.2.2.1, HBB.out.2.2.2.2⟩, ⟨HBB.out.2.2.2.1⟩⟩
    case pos =>
      have t1 : decide ((j : Int) < (NP : Int)) = true := decide_eq_true (by omega)
      have t2 : decide (j < NP) = true := decide_eq_true (by omega)
      obtain ⟨hw5, hw6⟩ := wrap_id (x := (j : Int) + 1) (by omega) (by have := HNP.out.2; omega)
      have HJ2 := Aside0.mk hj
      have HLT9 : Aside0 (g7 < W2.heap.size) := ⟨blk_lt HZ7.out⟩
      have T0 : Aside0 (Turn W2 wr.drew (fun k => k = g7)) := ⟨HTr.out.below (below_drew1 (Below.refl _ _))⟩
      have Z7 := Aside0.mk (blk_drew Z7r.out)
      have OR : Aside0 (wr.drew.ownsRow W2.heap.size 9 1 vp j (texts (List.replicate j one255))) := ⟨World.ownsRow.drew HP.out⟩
      have HON := Aside0.mk (fun w => wagtailref02_Ones.calls 300 256 (List.replicate 256 255) w rOnes_256)
      obtain ⟨so, hso⟩ : ∃ x, x = strOfNums one255 := ⟨_, rfl⟩
      have HSN : Aside0 (∀ W A c, Kd.C (Kd.int .u8) W A 256 one255 → (convert 38 9 (.slice A 256 c)).run Try.prog W = .ok (.string so) W) := ⟨fun W A c hC => by rw [hso]; exact Kd.C_string Try.underlying38 Try.underlying5 Try.underlying9 hC⟩
      have HSO := Aside0.mk hso
      clear Z7r HP HTr hj hso
      go_upto_region 5 with fail
      clear t1 t2 c0 c1 hw1 hw2
      refine start_ (n := 12) (S := fun w' => True) (ds := []) #[false, false, false, false, false, false, false, false, false, false, false, false] (by kernel_rfl) rfl rfl trivial (fun hHeld => ?_)
      refine with_tabW xnew5.tab5 xnew5.bits5 (fun HT_ HW_ => ?_)
      generalize wr.drew = wq at T0 Z7 OR hHeld ⊢
      refine inv_at [0, 1, 2, 3, 4, 5, 6, 7, 8, 9, 10, 11] (fun a0_ b a w' => ∃ (A29 : Option Addr) (c29 : Nat) (gx : Nat) (A8 : Option Addr) (c8 : Nat) (m5_ : Value) (m7_ : Value) (m8_ : Value), a = putSel a0_ b [(0, 24, .pointer (some ⟨g7, 0, none⟩)), (1, 25, .pointer (some ⟨g7, 0, none⟩)), (2, 26, .pointer (some ⟨g7, 0, none⟩)), (3, 27, .pointer (some ⟨g7, 4, none⟩)), (4, 28, vp), (5, 29, m5_), (6, 30, .string so), (7, 31, m7_), (8, 32, m8_), (9, 33, .pointer (some ⟨g7, 0, none⟩)), (10, 34, .pointer (some ⟨g7, 4, none⟩))] ∧ (Turn W2 w' (fun k => k = g7)) ∧ (b 11 = false → w'.heap[g7]? = some (.cells #[.int .i64 (Bn : Int), .int .i64 (Pn : Int), .int .i64 C, .slice Ab bad.length cb, vp, .slice none 0 0, .slice none 0 0, .slice Af fs.length cf, .int .i64 0, .bool false] 54 (0, 0))) ∧ (b 8 = false → w'.ownsRow W2.heap.size 9 1 vp j (texts (List.replicate j one255))) ∧ (b 5 = true → b 6 = false → Kd.C (Kd.int .u8) w' A29 256 one255) ∧ (b 7 = true → b 8 = false → w'.heap[gx]? = some (.cells #[.string so] 9 (0, 0))) ∧ (b 8 = true → w'.ownsRow W2.heap.size 9 1 (.slice A8 (j + 1) c8) (j + 1) (texts (List.replicate j one255) ++ [.string so])) ∧ (b 11 = true → w'.heap[g7]? = some (.cells #[.int .i64 (Bn : Int), .int .i64 (Pn : Int), .int .i64 C, .slice Ab bad.length cb, .slice A8 (j + 1) c8, .slice none 0 0, .slice none 0 0, .slice Af fs.length cf, .int .i64 0, .bool false] 54 (0, 0))) ∧ (b 5 = true → (m5_ : Value) = .slice A29 256 c29) ∧ (b 7 = true → (m7_ : Value) = .slice (some ⟨gx, 0, none⟩) 1 1) ∧ (b 8 = true → (m8_ : Value) = .slice A8 (j + 1) c8)) HT_.out HW_.out (by kernel_rfl) (by kernel_rfl) ?_ ?_ ?_
      · exact ⟨none, 0, 0, none, 0, .bool false, .bool false, .bool false, by simp only [putSel, Bool.false_eq_true, if_false], T0.out, fun _ => Z7.out, fun _ => OR.out, fun h_ => absurd h_ (by decide), fun h_ => absurd h_ (by decide), fun h_ => absurd h_ (by decide), fun h_ => absurd h_ (by decide), fun h_ => absurd h_ (by decide), fun h_ => absurd h_ (by decide), fun h_ => absurd h_ (by decide)⟩
      · skip
        clear OR T0 Z7
        refine steps_cons ?_ ?_
        · rintro b a w' ⟨A29, c29, gx, A8, c8, m5_, m7_, m8_, ha, Q_T0, Q_Z7, Q_OR, Q_CP, Q_GX, Q_O8, Q_FIN, Q_X5_, Q_X7_, Q_X8_⟩ hb_ hon hoff
          refine ⟨_, rfl, fun K hK => ?_⟩
          have e7 : a.tmps[7]? = some (.pointer (some ⟨g7, 0, none⟩)) := by rw [ha]; exact (putSel_off rfl).trans rfl
          replace ha := Aside0.mk ha
          have T0 := Aside0.mk Q_T0
          have Z7 := Aside0.mk (Q_Z7 (hoff 11 (by kernel_rfl)))
          refine value_ (w1 := w') (v := .pointer (some ⟨g7, 0, none⟩)) (by rfl) rfl ?_ ?_
          · go_simp
            (try simp only [i64_w])
            try rfl
          refine hK.out _ _ ⟨A29, c29, gx, A8, c8, m5_, m7_, m8_, (by rw [ha.out]; exact putSel_upk 0 hb_ rfl rfl rfl), Q_T0, Q_Z7, Q_OR, Q_CP, Q_GX, Q_O8, fun h0_ => absurd ((hoff 11 (by kernel_rfl)).symm.trans h0_) (by decide), Q_X5_, Q_X7_, Q_X8_⟩
        refine steps_cons ?_ ?_
        · rintro b a w' ⟨A29, c29, gx, A8, c8, m5_, m7_, m8_, ha, Q_T0, Q_Z7, Q_OR, Q_CP, Q_GX, Q_O8, Q_FIN, Q_X5_, Q_X7_, Q_X8_⟩ hb_ hon hoff
          refine ⟨_, rfl, fun K hK => ?_⟩
          have e7 : a.tmps[7]? = some (.pointer (some ⟨g7, 0, none⟩)) := by rw [ha]; exact (putSel_off rfl).trans rfl
          replace ha := Aside0.mk ha
          have T0 := Aside0.mk Q_T0
          have Z7 := Aside0.mk (Q_Z7 (hoff 11 (by kernel_rfl)))
          have OR := Aside0.mk (Q_OR (hoff 8 (by kernel_rfl)))
          refine value_ (w1 := w') (v := .pointer (some ⟨g7, 0, none⟩)) (by rfl) rfl ?_ ?_
          · go_simp
            (try simp only [i64_w])
            try rfl
          refine hK.out _ _ ⟨A29, c29, gx, A8, c8, m5_, m7_, m8_, (by rw [ha.out]; exact putSel_upk 1 hb_ rfl rfl rfl), Q_T0, Q_Z7, Q_OR, Q_CP, Q_GX, fun h0_ => absurd ((hoff 8 (by kernel_rfl)).symm.trans h0_) (by decide), fun h0_ => absurd ((hoff 11 (by kernel_rfl)).symm.trans h0_) (by decide), Q_X5_, Q_X7_, fun h0_ => absurd ((hoff 8 (by kernel_rfl)).symm.trans h0_) (by decide)⟩
        refine steps_cons ?_ ?_
        · rintro b a w' ⟨A29, c29, gx, A8, c8, m5_, m7_, m8_, ha, Q_T0, Q_Z7, Q_OR, Q_CP, Q_GX, Q_O8, Q_FIN, Q_X5_, Q_X7_, Q_X8_⟩ hb_ hon hoff
          refine ⟨_, rfl, fun K hK => ?_⟩
          have e25 : a.tmps[25]? = some (.pointer (some ⟨g7, 0, none⟩)) := by rw [ha]; exact putSel_on (e := (1, 25, .pointer (some ⟨g7, 0, none⟩))) 1 rfl rfl (hon 1 (by kernel_rfl)) rfl
          replace ha := Aside0.mk ha
          have T0 := Aside0.mk Q_T0
          have Z7 := Aside0.mk (Q_Z7 (hoff 11 (by kernel_rfl)))
          have OR := Aside0.mk (Q_OR (hoff 8 (by kernel_rfl)))
          refine value_ (w1 := w') (v := .pointer (some ⟨g7, 0, none⟩)) (by rfl) rfl ?_ ?_
          · go_simp
            (try simp only [i64_w])
            try rfl
          refine hK.out _ _ ⟨A29, c29, gx, A8, c8, m5_, m7_, m8_, (by rw [ha.out]; exact putSel_upk 2 hb_ rfl rfl rfl), Q_T0, Q_Z7, Q_OR, Q_CP, Q_GX, fun h0_ => absurd ((hoff 8 (by kernel_rfl)).symm.trans h0_) (by decide), fun h0_ => absurd ((hoff 11 (by kernel_rfl)).symm.trans h0_) (by decide), Q_X5_, Q_X7_, fun h0_ => absurd ((hoff 8 (by kernel_rfl)).symm.trans h0_) (by decide)⟩
        refine steps_cons ?_ ?_
        · rintro b a w' ⟨A29, c29, gx, A8, c8, m5_, m7_, m8_, ha, Q_T0, Q_Z7, Q_OR, Q_CP, Q_GX, Q_O8, Q_FIN, Q_X5_, Q_X7_, Q_X8_⟩ hb_ hon hoff
          refine ⟨_, rfl, fun K hK => ?_⟩
          have e26 : a.tmps[26]? = some (.pointer (some ⟨g7, 0, none⟩)) := by rw [ha]; exact putSel_on (e := (2, 26, .pointer (some ⟨g7, 0, none⟩))) 2 rfl rfl (hon 2 (by kernel_rfl)) rfl
          replace ha := Aside0.mk ha
          have T0 := Aside0.mk Q_T0
          have Z7 := Aside0.mk (Q_Z7 (hoff 11 (by kernel_rfl)))
          have OR := Aside0.mk (Q_OR (hoff 8 (by kernel_rfl)))
          refine value_ (w1 := w') (v := .pointer (some ⟨g7, 4, none⟩)) (by rfl) rfl ?_ ?_
          · go_simp
            (try simp only [i64_w])
            try rfl
          refine hK.out _ _ ⟨A29, c29, gx, A8, c8, m5_, m7_, m8_, (by rw [ha.out]; exact putSel_upk 3 hb_ rfl rfl rfl), Q_T0, Q_Z7, Q_OR, Q_CP, Q_GX, fun h0_ => absurd ((hoff 8 (by kernel_rfl)).symm.trans h0_) (by decide), fun h0_ => absurd ((hoff 11 (by kernel_rfl)).symm.trans h0_) (by decide), Q_X5_, Q_X7_, fun h0_ => absurd ((hoff 8 (by kernel_rfl)).symm.trans h0_) (by decide)⟩
        refine steps_cons ?_ ?_
        · rintro b a w' ⟨A29, c29, gx, A8, c8, m5_, m7_, m8_, ha, Q_T0, Q_Z7, Q_OR, Q_CP, Q_GX, Q_O8, Q_FIN, Q_X5_, Q_X7_, Q_X8_⟩ hb_ hon hoff
          refine ⟨_, rfl, fun K hK => ?_⟩
          have e27 : a.tmps[27]? = some (.pointer (some ⟨g7, 4, none⟩)) := by rw [ha]; exact putSel_on (e := (3, 27, .pointer (some ⟨g7, 4, none⟩))) 3 rfl rfl (hon 3 (by kernel_rfl)) rfl
          replace ha := Aside0.mk ha
          have T0 := Aside0.mk Q_T0
          have Z7 := Aside0.mk (Q_Z7 (hoff 11 (by kernel_rfl)))
          have OR := Aside0.mk (Q_OR (hoff 8 (by kernel_rfl)))
          have c_ := blk_cell Z7.out 4
          refine value_ (w1 := w') (v := vp) (by rfl) rfl ?_ ?_
          · go_simp
            (try simp only [i64_w])
            try rfl
          refine hK.out _ _ ⟨A29, c29, gx, A8, c8, m5_, m7_, m8_, (by rw [ha.out]; exact putSel_upk 4 hb_ rfl rfl rfl), Q_T0, Q_Z7, Q_OR, Q_CP, Q_GX, fun h0_ => absurd ((hoff 8 (by kernel_rfl)).symm.trans h0_) (by decide), fun h0_ => absurd ((hoff 11 (by kernel_rfl)).symm.trans h0_) (by decide), Q_X5_, Q_X7_, fun h0_ => absurd ((hoff 8 (by kernel_rfl)).symm.trans h0_) (by decide)⟩
        refine steps_cons ?_ ?_
        · rintro b a w' ⟨A29, c29, gx, A8, c8, m5_, m7_, m8_, ha, Q_T0, Q_Z7, Q_OR, Q_CP, Q_GX, Q_O8, Q_FIN, Q_X5_, Q_X7_, Q_X8_⟩ hb_ hon hoff
          refine ⟨_, rfl, fun K hK => ?_⟩
          replace ha := Aside0.mk ha
          have T0 := Aside0.mk Q_T0
          have Z7 := Aside0.mk (Q_Z7 (hoff 11 (by kernel_rfl)))
          have OR := Aside0.mk (Q_OR (hoff 8 (by kernel_rfl)))
          refine goes_ Try.func73 (by kernel_rfl) rfl #[.int .i64 256] (by rfl) rfl rfl (by first | (simp only [List.map_toArray, List.map_cons, List.map_nil, Act.eval, Array.getD_eq_getD_getElem?, Option.getD_some]; done) | (simp only [List.map_toArray, List.map_cons, List.map_nil, Act.eval, Array.getD_eq_getD_getElem?, Option.getD_some]; rfl)) ?_
          with_reducible refine (HON.out _).mono ?_
          rintro e w2 ⟨v_, rfl, hR_, hb⟩
          obtain ⟨A_, c_, rfl, hc_, hC_⟩ := Kd.R_reads hR_
          rw [List.length_replicate] at hc_ hC_ ⊢
          refine ⟨_, rfl, ?_⟩
          refine hK.out _ _ ⟨A_, c_, gx, A8, c8, (.slice A_ 256 c_), m7_, m8_, (by rw [ha.out]; exact putSel_upk 5 hb_ rfl rfl rfl), T0.out.below hb, fun _ => blk_below Z7.out hb, fun _ => pw_own_below OR.out hb, fun _ _ => hC_, fun h0_ _ => absurd ((hoff 7 (by kernel_rfl)).symm.trans h0_) (by decide), fun h0_ => absurd ((hoff 8 (by kernel_rfl)).symm.trans h0_) (by decide), fun h0_ => absurd ((hoff 11 (by kernel_rfl)).symm.trans h0_) (by decide), fun _ => rfl, fun h0_ => absurd ((hoff 7 (by kernel_rfl)).symm.trans h0_) (by decide), fun h0_ => absurd ((hoff 8 (by kernel_rfl)).symm.trans h0_) (by decide)⟩
        refine steps_cons ?_ ?_
        · rintro b a w' ⟨A29, c29, gx, A8, c8, m5_, m7_, m8_, ha, Q_T0, Q_Z7, Q_OR, Q_CP, Q_GX, Q_O8, Q_FIN, Q_X5_, Q_X7_, Q_X8_⟩ hb_ hon hoff
          refine ⟨_, rfl, fun K hK => ?_⟩
          have e29 : a.tmps[29]? = some (m5_) := by rw [ha]; exact putSel_on (e := (5, 29, m5_)) 5 rfl rfl (hon 5 (by kernel_rfl)) rfl
          rw [Q_X5_ (hon 5 (by kernel_rfl))] at e29
          replace ha := Aside0.mk ha
          have T0 := Aside0.mk Q_T0
          have Z7 := Aside0.mk (Q_Z7 (hoff 11 (by kernel_rfl)))
          have OR := Aside0.mk (Q_OR (hoff 8 (by kernel_rfl)))
          have CP := Aside0.mk (Q_CP (hon 5 (by kernel_rfl)) hb_)
          have q_ := HSN.out w' A29 c29 CP.out
          refine value_ (w1 := w') (v := .string so) (by rfl) rfl ?_ ?_
          · go_simp
            (try simp only [i64_w])
            try rfl
          refine hK.out _ _ ⟨A29, c29, gx, A8, c8, m5_, m7_, m8_, (by rw [ha.out]; exact putSel_upk 6 hb_ rfl rfl rfl), Q_T0, Q_Z7, Q_OR, fun _ h1_ => absurd ((up_self b 6).symm.trans h1_) (by decide), fun h0_ _ => absurd ((hoff 7 (by kernel_rfl)).symm.trans h0_) (by decide), fun h0_ => absurd ((hoff 8 (by kernel_rfl)).symm.trans h0_) (by decide), fun h0_ => absurd ((hoff 11 (by kernel_rfl)).symm.trans h0_) (by decide), Q_X5_, fun h0_ => absurd ((hoff 7 (by kernel_rfl)).symm.trans h0_) (by decide), fun h0_ => absurd ((hoff 8 (by kernel_rfl)).symm.trans h0_) (by decide)⟩
        refine steps_cons ?_ ?_
        · rintro b a w' ⟨A29, c29, gx, A8, c8, m5_, m7_, m8_, ha, Q_T0, Q_Z7, Q_OR, Q_CP, Q_GX, Q_O8, Q_FIN, Q_X5_, Q_X7_, Q_X8_⟩ hb_ hon hoff
          refine ⟨_, rfl, fun K hK => ?_⟩
          have e30 : a.tmps[30]? = some (.string so) := by rw [ha]; exact putSel_on (e := (6, 30, .string so)) 6 rfl rfl (hon 6 (by kernel_rfl)) rfl
          replace ha := Aside0.mk ha
          have T0 := Aside0.mk Q_T0
          have Z7 := Aside0.mk (Q_Z7 (hoff 11 (by kernel_rfl)))
          have OR := Aside0.mk (Q_OR (hoff 8 (by kernel_rfl)))
          refine value_ (w1 := w'.alloc (Obj.cells #[.string so] 9)) (v := .slice (some ⟨w'.heap.size, 0, none⟩) 1 1) (by rfl) rfl (by first | (go_simp; done) | (go_simp; rfl)) ?_
          have hb := below_alloc (Below.refl w'.heap.size w') (Obj.cells #[.string so] 9)
          refine hK.out _ _ ⟨A29, c29, w'.heap.size, A8, c8, m5_, (.slice (some ⟨w'.heap.size, 0, none⟩) 1 1), m8_, (by rw [ha.out]; exact putSel_upk 7 hb_ rfl rfl rfl), T0.out.below hb, fun _ => blk_below Z7.out hb, fun _ => pw_own_below OR.out hb, fun _ h1_ => absurd ((hon 6 (by kernel_rfl)).symm.trans h1_) (by decide), fun _ _ => heap_alloc_new w' _, fun h0_ => absurd ((hoff 8 (by kernel_rfl)).symm.trans h0_) (by decide), fun h0_ => absurd ((hoff 11 (by kernel_rfl)).symm.trans h0_) (by decide), Q_X5_, fun _ => rfl, fun h0_ => absurd ((hoff 8 (by kernel_rfl)).symm.trans h0_) (by decide)⟩
        refine steps_cons ?_ ?_
        · rintro b a w' ⟨A29, c29, gx, A8, c8, m5_, m7_, m8_, ha, Q_T0, Q_Z7, Q_OR, Q_CP, Q_GX, Q_O8, Q_FIN, Q_X5_, Q_X7_, Q_X8_⟩ hb_ hon hoff
          refine ⟨_, rfl, fun K hK => ?_⟩
          have e28 : a.tmps[28]? = some (vp) := by rw [ha]; exact putSel_on (e := (4, 28, vp)) 4 rfl rfl (hon 4 (by kernel_rfl)) rfl
          have e31 : a.tmps[31]? = some (m7_) := by rw [ha]; exact putSel_on (e := (7, 31, m7_)) 7 rfl rfl (hon 7 (by kernel_rfl)) rfl
          rw [Q_X7_ (hon 7 (by kernel_rfl))] at e31
          replace ha := Aside0.mk ha
          have T0 := Aside0.mk Q_T0
          have Z7 := Aside0.mk (Q_Z7 (hoff 11 (by kernel_rfl)))
          have OR := Aside0.mk (Q_OR hb_)
          have GX := Aside0.mk (Q_GX (hon 7 (by kernel_rfl)) hb_)
          obtain ⟨v_, w2, hr_, ho_, hg_, _⟩ := app_one (T := 35) Try.underlying35 (z := .string ⟨#[]⟩) (bytes := 16) (by kernel_rfl) rfl (by decide) (by decide) rfl OR.out GX.out (by have := HNP.out.2; have := HJ2.out; omega) T0.out.size
          obtain ⟨A_, c_, rfl⟩ := own_slice ho_
          refine app_step (by rfl) rfl rfl e28 e31 hr_ ?_
          refine hK.out _ _ ⟨A29, c29, gx, A_, c_, m5_, m7_, (.slice A_ (j + 1) c_), (by rw [ha.out]; exact putSel_upk 8 hb_ rfl rfl rfl), T0.out.grown hg_ (fun k hk_ => .inr (own_base OR.out k hk_)), fun _ => blk_grown Z7.out hg_ (fun e_ => absurd (own_base OR.out g7 e_.symm) (Nat.not_le_of_lt HLT9.out)), fun h0_ => absurd ((up_self b 8).symm.trans h0_) (by decide), fun _ h1_ => absurd ((hon 6 (by kernel_rfl)).symm.trans h1_) (by decide), fun _ h1_ => absurd ((up_self b 8).symm.trans h1_) (by decide), fun _ => ho_, fun h0_ => absurd ((hoff 11 (by kernel_rfl)).symm.trans h0_) (by decide), Q_X5_, Q_X7_, fun _ => rfl⟩
        refine steps_cons ?_ ?_
        · rintro b a w' ⟨A29, c29, gx, A8, c8, m5_, m7_, m8_, ha, Q_T0, Q_Z7, Q_OR, Q_CP, Q_GX, Q_O8, Q_FIN, Q_X5_, Q_X7_, Q_X8_⟩ hb_ hon hoff
          refine ⟨_, rfl, fun K hK => ?_⟩
          have e24 : a.tmps[24]? = some (.pointer (some ⟨g7, 0, none⟩)) := by rw [ha]; exact putSel_on (e := (0, 24, .pointer (some ⟨g7, 0, none⟩))) 0 rfl rfl (hon 0 (by kernel_rfl)) rfl
          replace ha := Aside0.mk ha
          have T0 := Aside0.mk Q_T0
          have Z7 := Aside0.mk (Q_Z7 (hoff 11 (by kernel_rfl)))
          have O8 := Aside0.mk (Q_O8 (hon 8 (by kernel_rfl)))
          refine value_ (w1 := w') (v := .pointer (some ⟨g7, 0, none⟩)) (by rfl) rfl ?_ ?_
          · go_simp
            (try simp only [i64_w])
            try rfl
          refine hK.out _ _ ⟨A29, c29, gx, A8, c8, m5_, m7_, m8_, (by rw [ha.out]; exact putSel_upk 9 hb_ rfl rfl rfl), Q_T0, Q_Z7, fun h0_ => absurd ((hon 8 (by kernel_rfl)).symm.trans h0_) (by decide), fun _ h1_ => absurd ((hon 6 (by kernel_rfl)).symm.trans h1_) (by decide), fun _ h1_ => absurd ((hon 8 (by kernel_rfl)).symm.trans h1_) (by decide), Q_O8, fun h0_ => absurd ((hoff 11 (by kernel_rfl)).symm.trans h0_) (by decide), Q_X5_, Q_X7_, Q_X8_⟩
        refine steps_cons ?_ ?_
        · rintro b a w' ⟨A29, c29, gx, A8, c8, m5_, m7_, m8_, ha, Q_T0, Q_Z7, Q_OR, Q_CP, Q_GX, Q_O8, Q_FIN, Q_X5_, Q_X7_, Q_X8_⟩ hb_ hon hoff
          refine ⟨_, rfl, fun K hK => ?_⟩
          have e33 : a.tmps[33]? = some (.pointer (some ⟨g7, 0, none⟩)) := by rw [ha]; exact putSel_on (e := (9, 33, .pointer (some ⟨g7, 0, none⟩))) 9 rfl rfl (hon 9 (by kernel_rfl)) rfl
          replace ha := Aside0.mk ha
          have T0 := Aside0.mk Q_T0
          have Z7 := Aside0.mk (Q_Z7 (hoff 11 (by kernel_rfl)))
          have O8 := Aside0.mk (Q_O8 (hon 8 (by kernel_rfl)))
          refine value_ (w1 := w') (v := .pointer (some ⟨g7, 4, none⟩)) (by rfl) rfl ?_ ?_
          · go_simp
            (try simp only [i64_w])
            try rfl
          refine hK.out _ _ ⟨A29, c29, gx, A8, c8, m5_, m7_, m8_, (by rw [ha.out]; exact putSel_upk 10 hb_ rfl rfl rfl), Q_T0, Q_Z7, fun h0_ => absurd ((hon 8 (by kernel_rfl)).symm.trans h0_) (by decide), fun _ h1_ => absurd ((hon 6 (by kernel_rfl)).symm.trans h1_) (by decide), fun _ h1_ => absurd ((hon 8 (by kernel_rfl)).symm.trans h1_) (by decide), Q_O8, fun h0_ => absurd ((hoff 11 (by kernel_rfl)).symm.trans h0_) (by decide), Q_X5_, Q_X7_, Q_X8_⟩
        refine steps_cons ?_ ?_
        · rintro b a w' ⟨A29, c29, gx, A8, c8, m5_, m7_, m8_, ha, Q_T0, Q_Z7, Q_OR, Q_CP, Q_GX, Q_O8, Q_FIN, Q_X5_, Q_X7_, Q_X8_⟩ hb_ hon hoff
          refine ⟨_, rfl, fun K hK => ?_⟩
          have e34 : a.tmps[34]? = some (.pointer (some ⟨g7, 4, none⟩)) := by rw [ha]; exact putSel_on (e := (10, 34, .pointer (some ⟨g7, 4, none⟩))) 10 rfl rfl (hon 10 (by kernel_rfl)) rfl
          have e32 : a.tmps[32]? = some (m8_) := by rw [ha]; exact putSel_on (e := (8, 32, m8_)) 8 rfl rfl (hon 8 (by kernel_rfl)) rfl
          rw [Q_X8_ (hon 8 (by kernel_rfl))] at e32
          replace ha := Aside0.mk ha
          have T0 := Aside0.mk Q_T0
          have Z7 := Aside0.mk (Q_Z7 hb_)
          have O8 := Aside0.mk (Q_O8 (hon 8 (by kernel_rfl)))
          have c_ := blk_cell Z7.out 4
          have fr_ := blk_frozen Z7.out 4
          have hne_ : some g7 ≠ (Value.slice A8 (j + 1) c8).ownBlock := fun e_ => absurd (own_base O8.out g7 e_.symm) (Nat.not_le_of_lt HLT9.out)
          refine skip_ (w1 := ?_) (by rfl) rfl ?_ ?_
          rotate_left
          · go_simp
            rfl
          refine hK.out _ _ ⟨A29, c29, gx, A8, c8, m5_, m7_, m8_, (by rw [ha.out]; exact putSel_none (v := undef) rfl), T0.out.setCell (p := ⟨g7, 4, none⟩) (.inl rfl) _, fun h0_ => absurd ((up_self b 11).symm.trans h0_) (by decide), fun h0_ => absurd ((hon 8 (by kernel_rfl)).symm.trans h0_) (by decide), fun _ h1_ => absurd ((hon 6 (by kernel_rfl)).symm.trans h1_) (by decide), fun _ h1_ => absurd ((hon 8 (by kernel_rfl)).symm.trans h1_) (by decide), fun _ => own_setCell (p := ⟨g7, 4, none⟩) O8.out hne_ _, fun _ => blk_put Z7.out 4 _ rfl, Q_X5_, Q_X7_, Q_X8_⟩
        exact steps_nil
      rintro b a w5 hall ⟨A29, c29, gx, A8, c8, m5_, m7_, m8_, ha, Q_T0, Q_Z7, Q_OR, Q_CP, Q_GX, Q_O8, Q_FIN, Q_X5_, Q_X7_, Q_X8_⟩
      clear OR T0 Z7
      have hb0_ := hall 0 (by kernel_rfl)
      have hb1_ := hall 1 (by kernel_rfl)
      have hb2_ := hall 2 (by kernel_rfl)
      have hb3_ := hall 3 (by kernel_rfl)
      have hb4_ := hall 4 (by kernel_rfl)
      have hb5_ := hall 5 (by kernel_rfl)
      have hb6_ := hall 6 (by kernel_rfl)
      have hb7_ := hall 7 (by kernel_rfl)
      have hb8_ := hall 8 (by kernel_rfl)
      have hb9_ := hall 9 (by kernel_rfl)
      have hb10_ := hall 10 (by kernel_rfl)
      have hb11_ := hall 11 (by kernel_rfl)
      subst ha
      obtain rfl := Q_X5_ hb5_
      obtain rfl := Q_X7_ hb7_
      obtain rfl := Q_X8_ hb8_
      simp only [putSel, hb0_, hb1_, hb2_, hb3_, hb4_, hb5_, hb6_, hb7_, hb8_, hb9_, hb10_, hb11_, if_true, Act.put, List.setIfInBounds_toArray, List.set_cons_zero, List.set_cons_succ]
      have T0 := Aside0.mk Q_T0
      clear Q_T0
      clear Q_Z7
      clear Q_OR
      clear Q_CP
      clear Q_GX
      have O8 := Aside0.mk (Q_O8 hb8_)
      clear Q_O8
      have FIN := Aside0.mk (Q_FIN hb11_)
      clear Q_FIN
      clear hall hb0_ hb1_ hb2_ hb3_ hb4_ hb5_ hb6_ hb7_ hb8_ hb9_ hb10_ hb11_
      go_wp2_with fail
      go_roundg (NP - j)
      case measure => have := HJ.out; have := HJ2.out; omega
      case rel => exact ⟨j + 1, by first | rfl | simp, ⟨by have := HJ2.out; omega, by have := HJ.out; have := HJ2.out; omega⟩, .slice A8 (j + 1) c8, FIN, ⟨by have := O8.out; rw [HSO.out] at this; unfold texts at this ⊢; rw [List.replicate_succ', List.map_append]; exact this⟩, T0⟩
end Go.Proofs.Ytnchdmidaigheaa.ND
namespace Go.Proofs.Ytnchdmidaigheaa.ND
set_option linter.unusedVariables false
set_option linter.unusedSimpArgs false
open Go.RowKit Go.Proofs.Ytnchdmidaigheaa.Hp Go.Proofs.YtnchdmidaigheaaW.PrintWords Go.Proofs.YtnchdmidaigheaaW.PrintLast Go.Proofs.YtnchdmidaigheaaW.PrintMore
def same1.T1 : Bool × List (List Nat × List Nat) := (true, [([], []), ([0], [0]), ([], []), ([2], [2]), ([3], [3]), ([4], [4]), ([1, 5], [1, 5]), ([6, 1], [6]), ([7], [7]), ([8, 7, 7], [7, 8]), ([7], [7]), ([10, 7], [7, 10]), ([11, 7], [7, 11]), ([12, 7], [7, 12]), ([9, 13, 7], [7, 9, 13]), ([7, 14], [7, 14])])
def same1.B1 : List Nat := [0, 1, 0, 4, 12, 28, 63, 127, 255, 511, 255, 1279, 3327, 7423, 16383, 32767]
theorem same1.tab1 : rtab .any (opsOf Try.f28 1) = same1.T1 := by kernel_rfl
theorem same1.bits1 : waitsOk same1.T1.2 same1.B1 = true := by kernel_rfl
def same6.T6 : Bool × List (List Nat × List Nat) := (true, [([], []), ([], []), ([0, 1], [0, 1]), ([], []), ([3], [3]), ([4], [4]), ([5], [5]), ([], []), ([6, 7], [6, 7]), ([8], [8]), ([2, 9], [2, 9]), ([10, 2], [10]), ([11], [11]), ([11], [11]), ([12, 13, 11, 11], [11, 12, 13]), ([11], [11]), ([15, 11], [11, 15]), ([16, 11], [11, 16]), ([17, 11], [11, 17]), ([11], [11]), ([18, 19, 11], [11, 18, 19]), ([20, 11], [11, 20]), ([14, 21, 11], [11, 14, 21]), ([11, 22], [11, 22]), ([23, 14], [23]), ([24], [24]), ([24], [24]), ([25, 26, 24, 24], [24, 25, 26]), ([24], [24]), ([28, 24], [24, 28]), ([29, 24], [24, 29]), ([30, 24], [24, 30]), ([24], [24]), ([31, 32, 27, 24], [24, 31, 32]), ([27, 33, 24], [24, 27, 33]), ([24, 34], [24, 34])])
def same6.B6 : List Nat := [0, 0, 3, 0, 8, 24, 56, 0, 248, 504, 1023, 2047, 4095, 4095, 16383, 4095, 36863, 102399, 233471, 4095, 1019903, 2068479, 4194303, 8388607, 16777215, 33554431, 33554431, 134217727, 33554431, 301989887, 838860799, 1912602623, 33554431, 8589934591, 17179869183, 34359738367]
theorem same6.tab6 : rtab .any (opsOf Try.f28 6) = same6.T6 := by kernel_rfl
theorem same6.bits6 : waitsOk same6.T6.2 same6.B6 = true := by kernel_rfl
set_option maxHeartbeats 2000000 in
set_option maxRecDepth 100000 in
theorem same_calls {W : World} {ok okx : Nat → Prop} {L : Lay} {X : XLay} {D : Dv} (h : DV W ok L D) (hx : XV W okx X D) :
    Calls Try.prog 28 #[.pointer (some ⟨L.g, 0, none⟩), .pointer (some ⟨X.g, 0, none⟩)] W fun e w' => e = .returned (.bool true) ∧ Below W.heap.size W w' := by
  have H := Aside0.mk h
  have HX := Aside0.mk hx
  clear h hx
  have B0 := Aside0.mk (below_drew1 (Below.refl W.heap.size W))
  have HOP := Aside0.mk (fun W' (hW : Below W.heap.size W W') => ops_calls (H.out.below hW))
  have HDN := Aside0.mk (fun W' (hW : Below W.heap.size W W') => down_calls (H.out.below hW))
  obtain ⟨dn, hdn⟩ : ∃ x, x = D.down := ⟨_, rfl⟩
  obtain ⟨on, hon'⟩ : ∃ x, x = D.ops := ⟨_, rfl⟩
  have HDX : Aside0 (∀ W', Below W.heap.size W W' → W'.cell? ⟨X.g, 8, none⟩ = some (.int .i64 on) ∧ W'.cell? ⟨X.g, 9, none⟩ = some (.bool dn)) := ⟨fun W' hW => by rw [hdn, hon']; exact ⟨(xtop_cells (HX.out.below hW)).2.2.2.2.2.2.2.2.1, (xtop_cells (HX.out.below hW)).2.2.2.2.2.2.2.2.2⟩⟩
  rw [← hon'] at HOP
  rw [← hdn] at HDN
  have HEB : Aside0 ((dn != dn) = false ∧ (on != on) = false) := ⟨by cases dn <;> rfl, by simp⟩
  clear hdn hon'
  go_enter Try.func28, Try.ntmps28
  go_upto_region 1 with fail
  refine start_ (n := 16) (S := fun w' => True) (ds := []) #[false, false, false, false, false, false, false, false, false, false, false, false, false, false, false, false] (by kernel_rfl) rfl rfl trivial (fun hHeld => ?_)
  refine with_tabW same1.tab1 same1.bits1 (fun HT_ HW_ => ?_)
  generalize W.drew = wq at B0 hHeld ⊢
  refine inv_at [0, 1, 2, 3, 4, 5, 6, 7, 8, 9, 10, 11, 12, 13, 14, 15] (fun a0_ b a w' => a = putSel a0_ b [(0, 6, .pointer (some ⟨L.g, 0, none⟩)), (1, 7, .int .i64 on), (2, 8, .pointer (some ⟨X.g, 0, none⟩)), (3, 9, .pointer (some ⟨X.g, 0, none⟩)), (4, 10, .pointer (some ⟨X.g, 8, none⟩)), (5, 11, .int .i64 on), (6, 12, .bool false), (7, 13, .bool false), (8, 14, .pointer (some ⟨L.g, 0, none⟩)), (9, 15, .bool dn), (10, 16, .pointer (some ⟨X.g, 0, none⟩)), (11, 17, .pointer (some ⟨X.g, 0, none⟩)), (12, 18, .pointer (some ⟨X.g, 9, none⟩)), (13, 19, .bool dn), (14, 20, .bool false), (15, 21, .bool false)] ∧ (Below W.heap.size W w')) HT_.out HW_.out (by kernel_rfl) (by kernel_rfl) ?_ ?_ ?_
  · exact ⟨by simp only [putSel, Bool.false_eq_true, if_false], B0.out⟩
  · skip
    clear B0
    refine steps_cons ?_ ?_
    · rintro b a w' ⟨ha, Q_B0⟩ hb_ hon hoff
      refine ⟨_, rfl, fun K hK => ?_⟩
      have e0 : a.tmps[0]? = some (.pointer (some ⟨L.g, 0, none⟩)) := by rw [ha]; exact (putSel_off rfl).trans rfl
      replace ha := Aside0.mk ha
      have B0 := Aside0.mk Q_B0
      refine value_ (w1 := w') (v := .pointer (some ⟨L.g, 0, none⟩)) (by rfl) rfl ?_ ?_
      · go_simp
        (try simp only [i64_w])
        try rfl
      refine hK.out _ _ ⟨(by rw [ha.out]; exact putSel_upk 0 hb_ rfl rfl rfl), Q_B0⟩
    refine steps_cons ?_ ?_
    · rintro b a w' ⟨ha, Q_B0⟩ hb_ hon hoff
      refine ⟨_, rfl, fun K hK => ?_⟩
      have e6 : a.tmps[6]? = some (.pointer (some ⟨L.g, 0, none⟩)) := by rw [ha]; exact putSel_on (e := (0, 6, .pointer (some ⟨L.g, 0, none⟩))) 0 rfl rfl (hon 0 (by kernel_rfl)) rfl
      replace ha := Aside0.mk ha
      have B0 := Aside0.mk Q_B0
      refine goes_ Try.func32 (by kernel_rfl) rfl #[.pointer (some ⟨L.g, 0, none⟩)] (by rfl) rfl rfl (by first | (simp only [List.map_toArray, List.map_cons, List.map_nil, Act.eval, Array.getD_eq_getD_getElem?, Option.getD_some, e6]; done) | (simp only [List.map_toArray, List.map_cons, List.map_nil, Act.eval, Array.getD_eq_getD_getElem?, Option.getD_some, e6]; rfl)) ?_
      with_reducible refine (HOP.out _ B0.out).mono ?_
      rintro e w2 ⟨rfl, hb⟩
      refine ⟨_, rfl, ?_⟩
      refine hK.out _ _ ⟨(by rw [ha.out]; exact putSel_upk 1 hb_ rfl rfl rfl), below_then B0.out B0.out.size hb⟩
    refine steps_cons ?_ ?_
    · rintro b a w' ⟨ha, Q_B0⟩ hb_ hon hoff
      refine ⟨_, rfl, fun K hK => ?_⟩
      have e1 : a.tmps[1]? = some (.pointer (some ⟨X.g, 0, none⟩)) := by rw [ha]; exact (putSel_off rfl).trans rfl
      replace ha := Aside0.mk ha
      have B0 := Aside0.mk Q_B0
      refine value_ (w1 := w') (v := .pointer (some ⟨X.g, 0, none⟩)) (by rfl) rfl ?_ ?_
      · go_simp
        (try simp only [i64_w])
        try rfl
      refine hK.out _ _ ⟨(by rw [ha.out]; exact putSel_upk 2 hb_ rfl rfl rfl), Q_B0⟩
    refine steps_cons ?_ ?_
    · rintro b a w' ⟨ha, Q_B0⟩ hb_ hon hoff
      refine ⟨_, rfl, fun K hK => ?_⟩
      have e8 : a.tmps[8]? = some (.pointer (some ⟨X.g, 0, none⟩)) := by rw [ha]; exact putSel_on (e := (2, 8, .pointer (some ⟨X.g, 0, none⟩))) 2 rfl rfl (hon 2 (by kernel_rfl)) rfl
      replace ha := Aside0.mk ha
      have B0 := Aside0.mk Q_B0
      refine value_ (w1 := w') (v := .pointer (some ⟨X.g, 0, none⟩)) (by rfl) rfl ?_ ?_
      · go_simp
        (try simp only [i64_w])
        try rfl
      refine hK.out _ _ ⟨(by rw [ha.out]; exact putSel_upk 3 hb_ rfl rfl rfl), Q_B0⟩
    refine steps_cons ?_ ?_
    · rintro b a w' ⟨ha, Q_B0⟩ hb_ hon hoff
      refine ⟨_, rfl, fun K hK => ?_⟩
      have e9 : a.tmps[9]? = some (.pointer (some ⟨X.g, 0, none⟩)) := by rw [ha]; exact putSel_on (e := (3, 9, .pointer (some ⟨X.g, 0, none⟩))) 3 rfl rfl (hon 3 (by kernel_rfl)) rfl
      replace ha := Aside0.mk ha
      have B0 := Aside0.mk Q_B0
      refine value_ (w1 := w') (v := .pointer (some ⟨X.g, 8, none⟩)) (by rfl) rfl ?_ ?_
      · go_simp
        (try simp only [i64_w])
        try rfl
      refine hK.out _ _ ⟨(by rw [ha.out]; exact putSel_upk 4 hb_ rfl rfl rfl), Q_B0⟩
    refine steps_cons ?_ ?_
    · rintro b a w' ⟨ha, Q_B0⟩ hb_ hon hoff
      refine ⟨_, rfl, fun K hK => ?_⟩
      have e10 : a.tmps[10]? = some (.pointer (some ⟨X.g, 8, none⟩)) := by rw [ha]; exact putSel_on (e := (4, 10, .pointer (some ⟨X.g, 8, none⟩))) 4 rfl rfl (hon 4 (by kernel_rfl)) rfl
      replace ha := Aside0.mk ha
      have B0 := Aside0.mk Q_B0
      have c_ := (HDX.out _ B0.out).1
      refine value_ (w1 := w') (v := .int .i64 on) (by rfl) rfl ?_ ?_
      · go_simp
        (try simp only [i64_w])
        try rfl
      refine hK.out _ _ ⟨(by rw [ha.out]; exact putSel_upk 5 hb_ rfl rfl rfl), Q_B0⟩
    refine steps_cons ?_ ?_
    · rintro b a w' ⟨ha, Q_B0⟩ hb_ hon hoff
      refine ⟨_, rfl, fun K hK => ?_⟩
      have e7 : a.tmps[7]? = some (.int .i64 on) := by rw [ha]; exact putSel_on (e := (1, 7, .int .i64 on)) 1 rfl rfl (hon 1 (by kernel_rfl)) rfl
      have e11 : a.tmps[11]? = some (.int .i64 on) := by rw [ha]; exact putSel_on (e := (5, 11, .int .i64 on)) 5 rfl rfl (hon 5 (by kernel_rfl)) rfl
      replace ha := Aside0.mk ha
      have B0 := Aside0.mk Q_B0
      have q_ := HEB.out.2
      refine value_ (w1 := w') (v := .bool false) (by rfl) rfl ?_ ?_
      · go_simp
        (try simp only [i64_w])
        try rfl
      refine hK.out _ _ ⟨(by rw [ha.out]; exact putSel_upk 6 hb_ rfl rfl rfl), Q_B0⟩
    refine steps_cons ?_ ?_
    · rintro b a w' ⟨ha, Q_B0⟩ hb_ hon hoff
      refine ⟨_, rfl, fun K hK => ?_⟩
      have e12 : a.tmps[12]? = some (.bool false) := by rw [ha]; exact putSel_on (e := (6, 12, .bool false)) 6 rfl rfl (hon 6 (by kernel_rfl)) rfl
      replace ha := Aside0.mk ha
      have B0 := Aside0.mk Q_B0
      refine value_ (w1 := w') (v := .bool false) (by rfl) rfl ?_ ?_
      · go_simp
        (try simp only [i64_w])
        try rfl
      refine hK.out _ _ ⟨(by rw [ha.out]; exact putSel_upk 7 hb_ rfl rfl rfl), Q_B0⟩
    refine steps_cons ?_ ?_
    · rintro b a w' ⟨ha, Q_B0⟩ hb_ hon hoff
      refine ⟨_, rfl, fun K hK => ?_⟩
      have e0 : a.tmps[0]? = some (.pointer (some ⟨L.g, 0, none⟩)) := by rw [ha]; exact (putSel_off rfl).trans rfl
      have e13 : a.tmps[13]? = some (.bool false) := by rw [ha]; exact putSel_on (e := (7, 13, .bool false)) 7 rfl rfl (hon 7 (by kernel_rfl)) rfl
      replace ha := Aside0.mk ha
      have B0 := Aside0.mk Q_B0
      refine value_ (w1 := w') (v := .pointer (some ⟨L.g, 0, none⟩)) (wanted_on rfl rfl rfl (e13.trans (by first | rfl | (simp [*]; done)))) rfl ?_ ?_
      · go_simp
        (try simp only [i64_w])
        try rfl
      refine hK.out _ _ ⟨(by rw [ha.out]; exact putSel_upk 8 hb_ rfl rfl rfl), Q_B0⟩
    refine steps_cons ?_ ?_
    · rintro b a w' ⟨ha, Q_B0⟩ hb_ hon hoff
      refine ⟨_, rfl, fun K hK => ?_⟩
      have e14 : a.tmps[14]? = some (.pointer (some ⟨L.g, 0, none⟩)) := by rw [ha]; exact putSel_on (e := (8, 14, .pointer (some ⟨L.g, 0, none⟩))) 8 rfl rfl (hon 8 (by kernel_rfl)) rfl
      have e13 : a.tmps[13]? = some (.bool false) := by rw [ha]; exact putSel_on (e := (7, 13, .bool false)) 7 rfl rfl (hon 7 (by kernel_rfl)) rfl
      replace ha := Aside0.mk ha
      have B0 := Aside0.mk Q_B0
      refine goes_ Try.func29 (by kernel_rfl) rfl #[.pointer (some ⟨L.g, 0, none⟩)] (wanted_on rfl rfl rfl (e13.trans rfl)) rfl rfl (by first | (simp only [List.map_toArray, List.map_cons, List.map_nil, Act.eval, Array.getD_eq_getD_getElem?, Option.getD_some, e14, e13]; done) | (simp only [List.map_toArray, List.map_cons, List.map_nil, Act.eval, Array.getD_eq_getD_getElem?, Option.getD_some, e14, e13]; rfl)) ?_
      with_reducible refine (HDN.out _ B0.out).mono ?_
      rintro e w2 ⟨rfl, hb⟩
      refine ⟨_, rfl, ?_⟩
      refine hK.out _ _ ⟨(by rw [ha.out]; exact putSel_upk 9 hb_ rfl rfl rfl), below_then B0.out B0.out.size hb⟩
    refine steps_cons ?_ ?_
    · rintro b a w' ⟨ha, Q_B0⟩ hb_ hon hoff
      refine ⟨_, rfl, fun K hK => ?_⟩
      have e1 : a.tmps[1]? = some (.pointer (some ⟨X.g, 0, none⟩)) := by rw [ha]; exact (putSel_off rfl).trans rfl
      have e13 : a.tmps[13]? = some (.bool false) := by rw [ha]; exact putSel_on (e := (7, 13, .bool false)) 7 rfl rfl (hon 7 (by kernel_rfl)) rfl
      replace ha := Aside0.mk ha
      have B0 := Aside0.mk Q_B0
      refine value_ (w1 := w') (v := .pointer (some ⟨X.g, 0, none⟩)) (wanted_on rfl rfl rfl (e13.trans (by first | rfl | (simp [*]; done)))) rfl ?_ ?_
      · go_simp
        (try simp only [i64_w])
        try rfl
      refine hK.out _ _ ⟨(by rw [ha.out]; exact putSel_upk 10 hb_ rfl rfl rfl), Q_B0⟩
    refine steps_cons ?_ ?_
    · rintro b a w' ⟨ha, Q_B0⟩ hb_ hon hoff
      refine ⟨_, rfl, fun K hK => ?_⟩
      have e16 : a.tmps[16]? = some (.pointer (some ⟨X.g, 0, none⟩)) := by rw [ha]; exact putSel_on (e := (10, 16, .pointer (some ⟨X.g, 0, none⟩))) 10 rfl rfl (hon 10 (by kernel_rfl)) rfl
      have e13 : a.tmps[13]? = some (.bool false) := by rw [ha]; exact putSel_on (e := (7, 13, .bool false)) 7 rfl rfl (hon 7 (by kernel_rfl)) rfl
      replace ha := Aside0.mk ha
      have B0 := Aside0.mk Q_B0
      refine value_ (w1 := w') (v := .pointer (some ⟨X.g, 0, none⟩)) (wanted_on rfl rfl rfl (e13.trans (by first | rfl | (simp [*]; done)))) rfl ?_ ?_
      · go_simp
        (try simp only [i64_w])
        try rfl
      refine hK.out _ _ ⟨(by rw [ha.out]; exact putSel_upk 11 hb_ rfl rfl rfl), Q_B0⟩
    refine steps_cons ?_ ?_
    · rintro b a w' ⟨ha, Q_B0⟩ hb_ hon hoff
      refine ⟨_, rfl, fun K hK => ?_⟩
      have e17 : a.tmps[17]? = some (.pointer (some ⟨X.g, 0, none⟩)) := by rw [ha]; exact putSel_on (e := (11, 17, .pointer (some ⟨X.g, 0, none⟩))) 11 rfl rfl (hon 11 (by kernel_rfl)) rfl
      have e13 : a.tmps[13]? = some (.bool false) := by rw [ha]; exact putSel_on (e := (7, 13, .bool false)) 7 rfl rfl (hon 7 (by kernel_rfl)) rfl
      replace ha := Aside0.mk ha
      have B0 := Aside0.mk Q_B0
      refine value_ (w1 := w') (v := .pointer (some ⟨X.g, 9, none⟩)) (wanted_on rfl rfl rfl (e13.trans (by first | rfl | (simp [*]; done)))) rfl ?_ ?_
      · go_simp
        (try simp only [i64_w])
        try rfl
      refine hK.out _ _ ⟨(by rw [ha.out]; exact putSel_upk 12 hb_ rfl rfl rfl), Q_B0⟩
    refine steps_cons ?_ ?_
    · rintro b a w' ⟨ha, Q_B0⟩ hb_ hon hoff
      refine ⟨_, rfl, fun K hK => ?_⟩
      have e18 : a.tmps[18]? = some (.pointer (some ⟨X.g, 9, none⟩)) := by rw [ha]; exact putSel_on (e := (12, 18, .pointer (some ⟨X.g, 9, none⟩))) 12 rfl rfl (hon 12 (by kernel_rfl)) rfl
      have e13 : a.tmps[13]? = some (.bool false) := by rw [ha]; exact putSel_on (e := (7, 13, .bool false)) 7 rfl rfl (hon 7 (by kernel_rfl)) rfl
      replace ha := Aside0.mk ha
      have B0 := Aside0.mk Q_B0
      have c_ := (HDX.out _ B0.out).2
      refine value_ (w1 := w') (v := .bool dn) (wanted_on rfl rfl rfl (e13.trans (by first | rfl | (simp [*]; done)))) rfl ?_ ?_
      · go_simp
        (try simp only [i64_w])
        try rfl
      refine hK.out _ _ ⟨(by rw [ha.out]; exact putSel_upk 13 hb_ rfl rfl rfl), Q_B0⟩
    refine steps_cons ?_ ?_
    · rintro b a w' ⟨ha, Q_B0⟩ hb_ hon hoff
      refine ⟨_, rfl, fun K hK => ?_⟩
      have e15 : a.tmps[15]? = some (.bool dn) := by rw [ha]; exact putSel_on (e := (9, 15, .bool dn)) 9 rfl rfl (hon 9 (by kernel_rfl)) rfl
      have e19 : a.tmps[19]? = some (.bool dn) := by rw [ha]; exact putSel_on (e := (13, 19, .bool dn)) 13 rfl rfl (hon 13 (by kernel_rfl)) rfl
      have e13 : a.tmps[13]? = some (.bool false) := by rw [ha]; exact putSel_on (e := (7, 13, .bool false)) 7 rfl rfl (hon 7 (by kernel_rfl)) rfl
      replace ha := Aside0.mk ha
      have B0 := Aside0.mk Q_B0
      have q_ := HEB.out.1
      refine value_ (w1 := w') (v := .bool false) (wanted_on rfl rfl rfl (e13.trans (by first | rfl | (simp [*]; done)))) rfl ?_ ?_
      · go_simp
        (try simp only [i64_w])
        try rfl
      refine hK.out _ _ ⟨(by rw [ha.out]; exact putSel_upk 14 hb_ rfl rfl rfl), Q_B0⟩
    refine steps_cons ?_ ?_
    · rintro b a w' ⟨ha, Q_B0⟩ hb_ hon hoff
      refine ⟨_, rfl, fun K hK => ?_⟩
      have e13 : a.tmps[13]? = some (.bool false) := by rw [ha]; exact putSel_on (e := (7, 13, .bool false)) 7 rfl rfl (hon 7 (by kernel_rfl)) rfl
      have e20 : a.tmps[20]? = some (.bool false) := by rw [ha]; exact putSel_on (e := (14, 20, .bool false)) 14 rfl rfl (hon 14 (by kernel_rfl)) rfl
      replace ha := Aside0.mk ha
      have B0 := Aside0.mk Q_B0
      refine value_ (w1 := w') (v := .bool false) (by rfl) rfl ?_ ?_
      · go_simp
        (try simp only [i64_w])
        try rfl
      refine hK.out _ _ ⟨(by rw [ha.out]; exact putSel_upk 15 hb_ rfl rfl rfl), Q_B0⟩
    exact steps_nil
  rintro b a w1 hall ⟨ha, Q_B0⟩
  clear B0
  have hb0_ := hall 0 (by kernel_rfl)
  have hb1_ := hall 1 (by kernel_rfl)
  have hb2_ := hall 2 (by kernel_rfl)
  have hb3_ := hall 3 (by kernel_rfl)
  have hb4_ := hall 4 (by kernel_rfl)
  have hb5_ := hall 5 (by kernel_rfl)
  have hb6_ := hall 6 (by kernel_rfl)
  have hb7_ := hall 7 (by kernel_rfl)
  have hb8_ := hall 8 (by kernel_rfl)
  have hb9_ := hall 9 (by kernel_rfl)
  have hb10_ := hall 10 (by kernel_rfl)
  have hb11_ := hall 11 (by kernel_rfl)
  have hb12_ := hall 12 (by kernel_rfl)
  have hb13_ := hall 13 (by kernel_rfl)
  have hb14_ := hall 14 (by kernel_rfl)
  have hb15_ := hall 15 (by kernel_rfl)
  subst ha
  simp only [putSel, hb0_, hb1_, hb2_, hb3_, hb4_, hb5_, hb6_, hb7_, hb8_, hb9_, hb10_, hb11_, hb12_, hb13_, hb14_, hb15_, if_true, Act.put, List.setIfInBounds_toArray, List.set_cons_zero, List.set_cons_succ]
  have B0 := Aside0.mk Q_B0
  clear Q_B0
  clear hall hb0_ hb1_ hb2_ hb3_ hb4_ hb5_ hb6_ hb7_ hb8_ hb9_ hb10_ hb11_ hb12_ hb13_ hb14_ hb15_
  have HB1 := Aside0.mk B0.out
  clear B0
  have HBB := Aside0.mk (And.intro H.out.ok.b1 H.out.ok.b2)
  obtain ⟨Bn, hBn⟩ := Int.eq_ofNat_of_zero_le (show 0 ≤ D.B by have := H.out.ok.b1; omega)
  have HBN := Aside0.mk hBn
  clear hBn
  go_wp2_with fail
  go_loopg [5] (Bn + 1) (fun kq v5 w' => ∃ bl : Nat, v5 = .int .i64 (bl : Int) ∧ Aside0 (bl ≤ Bn ∧ kq + bl = Bn + 1) ∧ Aside0 (Below W.heap.size W w'))
  case atStart => exact ⟨0, rfl, ⟨Nat.zero_le _, rfl⟩, HB1⟩
  case round =>
    obtain ⟨bl, rfl, HJ, BB⟩ := hrel
    have c0 := (xtop_cells (HX.out.below BB.out)).1
    rw [HBN.out] at c0
    by_cases hj : bl < Bn
    case neg =>
      have t1 : decide ((bl : Int) < (Bn : Int)) = false := decide_eq_false (by omega)
      have t2 : decide (bl < Bn) = false := decide_eq_false hj
      clear hj
      go_wp2_with fail
      go_ret
      exact ⟨rfl, BB.out⟩
    case pos =>
      have t1 : decide ((bl : Int) < (Bn : Int)) = true := decide_eq_true (by omega)
      have t2 : decide (bl < Bn) = true := decide_eq_true hj
      have hth : D.there (bl : Int) = true := there_iff.2 ⟨by omega, by rw [HBN.out]; omega⟩
      obtain ⟨nx, hnx⟩ : ∃ x, x = D.nextOf (bl : Int) := ⟨_, rfl⟩
      obtain ⟨we, hwe⟩ : ∃ x, x = D.wearOf (bl : Int) := ⟨_, rfl⟩
      obtain ⟨mk, hmk⟩ : ∃ x, x = D.mark (bl : Int) := ⟨_, rfl⟩
      have HH := Aside0.mk (H.out.below BB.out)
      have HHX := Aside0.mk (HX.out.below BB.out)
      have HNX := Aside0.mk (fun W' (hW : Below wr.heap.size wr W') => next_calls (HH.out.below hW) (bl : Int))
      have HWE := Aside0.mk (fun W' (hW : Below wr.heap.size wr W') => wear_calls (HH.out.below hW) (bl : Int))
      have HMK := Aside0.mk (fun W' (hW : Below wr.heap.size wr W') => marked_calls (HH.out.below hW) (bl : Int))
      have HHS := Aside0.mk (fun W' (hW : Below wr.heap.size wr W') => has_calls (bl : Int) (Kd.F_now (HHX.out.below hW).mb.1) (HHX.out.below hW).mb.2 (by have := H.out.ok.bl; omega))
      rw [← hnx] at HNX
      rw [← hwe] at HWE
      rw [hth, Bool.true_and, ← hmk] at HMK
      have HHS : Aside0 (∀ W', Below wr.heap.size wr W' → Calls Try.prog 44 #[.slice X.Am D.bad.length X.cm, .int .i64 (bl : Int)] W' fun e w' => e = .returned (.bool mk) ∧ Below W'.heap.size W' w') := ⟨fun W' hW => by rw [hmk]; exact HHS.out W' hW⟩
      have HNC : Aside0 ((D.next.map (Value.int .i64))[bl]? = some (.int .i64 nx)) := ⟨by rw [hnx]; unfold Dv.nextOf; rw [if_pos hth, Int.toNat_natCast]; exact ints_at (by have := H.out.ok.nl; have := HBN.out; omega)⟩
      have HWC : Aside0 ((D.wear.map (Value.int .i64))[bl]? = some (.int .i64 we)) := ⟨by rw [hwe]; unfold Dv.wearOf; rw [if_pos hth, Int.toNat_natCast]; exact ints_at (by have := H.out.ok.wl; have := HBN.out; omega)⟩
      have HQ := Aside0.mk (And.intro (eq_true (show (0 : Int) ≤ (bl : Int) by omega)) (And.intro (eq_true (show (bl : Int) < ((D.next.length : Nat) : Int) by have := H.out.ok.nl; have := HBN.out; omega)) (eq_true (show (bl : Int) < ((D.wear.length : Nat) : Int) by have := H.out.ok.wl; have := HBN.out; omega))))
      have HEE : Aside0 ((nx != nx) = false ∧ (we != we) = false ∧ (mk != mk) = false) := ⟨by simp, by simp, by cases mk <;> rfl⟩
      have HJ2 := Aside0.mk hj
      obtain ⟨hw5, hw6⟩ := wrap_id (x := (bl : Int) + 1) (by omega) (by have := HBB.out.2; have := HBN.out; omega)
      clear hnx hwe hmk hth hj
      go_upto_region 6 with fail
      have B0 := Aside0.mk (below_drew1 (Below.refl wr.heap.size wr))
      clear c0 t1 t2
      refine start_ (n := 36) (S := fun w' => True) (ds := []) #[false, false, false, false, false, false, false, false, false, false, false, false, false, false, false, false, false, false, false, false, false, false, false, false, false, false, false, false, false, false, false, false, false, false, false, false] (by kernel_rfl) rfl rfl trivial (fun hHeld => ?_)
      refine with_tabW same6.tab6 same6.bits6 (fun HT_ HW_ => ?_)
      generalize wr.drew = wq at B0 hHeld ⊢
      refine inv_at [0, 1, 2, 3, 4, 5, 6, 7, 8, 9, 10, 11, 12, 13, 14, 15, 16, 17, 18, 19, 20, 21, 22, 23, 24, 25, 26, 27, 28, 29, 30, 31, 32, 33, 34, 35] (fun a0_ b a w' => a = putSel a0_ b [(0, 31, .pointer (some ⟨L.g, 0, none⟩)), (1, 32, .int .i64 (bl : Int)), (2, 33, .int .i64 nx), (3, 34, .pointer (some ⟨X.g, 0, none⟩)), (4, 35, .pointer (some ⟨X.g, 0, none⟩)), (5, 36, .pointer (some ⟨X.g, 5, none⟩)), (6, 37, .slice (some ⟨X.gn, 0, none⟩) D.next.length X.cn), (7, 38, .int .i64 (bl : Int)), (8, 39, .pointer (some ⟨X.gn, bl, none⟩)), (9, 40, .int .i64 nx), (10, 41, .bool false), (11, 42, .bool false), (12, 43, .pointer (some ⟨L.g, 0, none⟩)), (13, 44, .int .i64 (bl : Int)), (14, 45, .int .i64 we), (15, 46, .pointer (some ⟨X.g, 0, none⟩)), (16, 47, .pointer (some ⟨X.g, 0, none⟩)), (17, 48, .pointer (some ⟨X.g, 6, none⟩)), (18, 49, .slice (some ⟨X.gw, 0, none⟩) D.wear.length X.cw), (19, 50, .int .i64 (bl : Int)), (20, 51, .pointer (some ⟨X.gw, bl, none⟩)), (21, 52, .int .i64 we), (22, 53, .bool false), (23, 54, .bool false), (24, 55, .bool false), (25, 56, .pointer (some ⟨L.g, 0, none⟩)), (26, 57, .int .i64 (bl : Int)), (27, 58, .bool mk), (28, 59, .pointer (some ⟨X.g, 0, none⟩)), (29, 60, .pointer (some ⟨X.g, 0, none⟩)), (30, 61, .pointer (some ⟨X.g, 3, none⟩)), (31, 62, .slice X.Am D.bad.length X.cm), (32, 63, .int .i64 (bl : Int)), (33, 64, .bool mk), (34, 65, .bool false), (35, 66, .bool false)] ∧ (Below wr.heap.size wr w')) HT_.out HW_.out (by kernel_rfl) (by kernel_rfl) ?_ ?_ ?_
      · exact ⟨by simp only [putSel, Bool.false_eq_true, if_false], B0.out⟩
      · skip
        clear B0
        refine steps_cons ?_ ?_
        · rintro b a w' ⟨ha, Q_B0⟩ hb_ hon hoff
          refine ⟨_, rfl, fun K hK => ?_⟩
          have e0 : a.tmps[0]? = some (.pointer (some ⟨L.g, 0, none⟩)) := by rw [ha]; exact (putSel_off rfl).trans rfl
          replace ha := Aside0.mk ha
          have B0 := Aside0.mk Q_B0
          refine value_ (w1 := w') (v := .pointer (some ⟨L.g, 0, none⟩)) (by rfl) rfl ?_ ?_
          · go_simp
            (try simp only [i64_w])
            try rfl
          refine hK.out _ _ ⟨(by rw [ha.out]; exact putSel_upk 0 hb_ rfl rfl rfl), Q_B0⟩
        refine steps_cons ?_ ?_
        · rintro b a w' ⟨ha, Q_B0⟩ hb_ hon hoff
          refine ⟨_, rfl, fun K hK => ?_⟩
          have e5 : a.tmps[5]? = some (.int .i64 (bl : Int)) := by rw [ha]; exact (putSel_off rfl).trans rfl
          replace ha := Aside0.mk ha
          have B0 := Aside0.mk Q_B0
          refine value_ (w1 := w') (v := .int .i64 (bl : Int)) (by rfl) rfl ?_ ?_
          · go_simp
            (try simp only [i64_w])
            try rfl
          refine hK.out _ _ ⟨(by rw [ha.out]; exact putSel_upk 1 hb_ rfl rfl rfl), Q_B0⟩
        refine steps_cons ?_ ?_
        · rintro b a w' ⟨ha, Q_B0⟩ hb_ hon hoff
          refine ⟨_, rfl, fun K hK => ?_⟩
          have e31 : a.tmps[31]? = some (.pointer (some ⟨L.g, 0, none⟩)) := by rw [ha]; exact putSel_on (e := (0, 31, .pointer (some ⟨L.g, 0, none⟩))) 0 rfl rfl (hon 0 (by kernel_rfl)) rfl
          have e32 : a.tmps[32]? = some (.int .i64 (bl : Int)) := by rw [ha]; exact putSel_on (e := (1, 32, .int .i64 (bl : Int))) 1 rfl rfl (hon 1 (by kernel_rfl)) rfl
          replace ha := Aside0.mk ha
          have B0 := Aside0.mk Q_B0
          refine goes_ Try.func15 (by kernel_rfl) rfl #[.pointer (some ⟨L.g, 0, none⟩), .int .i64 (bl : Int)] (by rfl) rfl rfl (by first | (simp only [List.map_toArray, List.map_cons, List.map_nil, Act.eval, Array.getD_eq_getD_getElem?, Option.getD_some, e31, e32]; done) | (simp only [List.map_toArray, List.map_cons, List.map_nil, Act.eval, Array.getD_eq_getD_getElem?, Option.getD_some, e31, e32]; rfl)) ?_
          with_reducible refine (HNX.out _ B0.out).mono ?_
          rintro e w2 ⟨rfl, hb⟩
          refine ⟨_, rfl, ?_⟩
          refine hK.out _ _ ⟨(by rw [ha.out]; exact putSel_upk 2 hb_ rfl rfl rfl), below_then B0.out B0.out.size hb⟩
        refine steps_cons ?_ ?_
        · rintro b a w' ⟨ha, Q_B0⟩ hb_ hon hoff
          refine ⟨_, rfl, fun K hK => ?_⟩
          have e1 : a.tmps[1]? = some (.pointer (some ⟨X.g, 0, none⟩)) := by rw [ha]; exact (putSel_off rfl).trans rfl
          replace ha := Aside0.mk ha
          have B0 := Aside0.mk Q_B0
          refine value_ (w1 := w') (v := .pointer (some ⟨X.g, 0, none⟩)) (by rfl) rfl ?_ ?_
          · go_simp
            (try simp only [i64_w])
            try rfl
          refine hK.out _ _ ⟨(by rw [ha.out]; exact putSel_upk 3 hb_ rfl rfl rfl), Q_B0⟩
        refine steps_cons ?_ ?_
        · rintro b a w' ⟨ha, Q_B0⟩ hb_ hon hoff
          refine ⟨_, rfl, fun K hK => ?_⟩
          have e34 : a.tmps[34]? = some (.pointer (some ⟨X.g, 0, none⟩)) := by rw [ha]; exact putSel_on (e := (3, 34, .pointer (some ⟨X.g, 0, none⟩))) 3 rfl rfl (hon 3 (by kernel_rfl)) rfl
          replace ha := Aside0.mk ha
          have B0 := Aside0.mk Q_B0
          refine value_ (w1 := w') (v := .pointer (some ⟨X.g, 0, none⟩)) (by rfl) rfl ?_ ?_
          · go_simp
            (try simp only [i64_w])
            try rfl
          refine hK.out _ _ ⟨(by rw [ha.out]; exact putSel_upk 4 hb_ rfl rfl rfl), Q_B0⟩
        refine steps_cons ?_ ?_
        · rintro b a w' ⟨ha, Q_B0⟩ hb_ hon hoff
          refine ⟨_, rfl, fun K hK => ?_⟩
          have e35 : a.tmps[35]? = some (.pointer (some ⟨X.g, 0, none⟩)) := by rw [ha]; exact putSel_on (e := (4, 35, .pointer (some ⟨X.g, 0, none⟩))) 4 rfl rfl (hon 4 (by kernel_rfl)) rfl
          replace ha := Aside0.mk ha
          have B0 := Aside0.mk Q_B0
          refine value_ (w1 := w') (v := .pointer (some ⟨X.g, 5, none⟩)) (by rfl) rfl ?_ ?_
          · go_simp
            (try simp only [i64_w])
            try rfl
          refine hK.out _ _ ⟨(by rw [ha.out]; exact putSel_upk 5 hb_ rfl rfl rfl), Q_B0⟩
        refine steps_cons ?_ ?_
        · rintro b a w' ⟨ha, Q_B0⟩ hb_ hon hoff
          refine ⟨_, rfl, fun K hK => ?_⟩
          have e36 : a.tmps[36]? = some (.pointer (some ⟨X.g, 5, none⟩)) := by rw [ha]; exact putSel_on (e := (5, 36, .pointer (some ⟨X.g, 5, none⟩))) 5 rfl rfl (hon 5 (by kernel_rfl)) rfl
          replace ha := Aside0.mk ha
          have B0 := Aside0.mk Q_B0
          have c_ := (xtop_cells (HHX.out.below B0.out)).2.2.2.2.2.1
          refine value_ (w1 := w') (v := .slice (some ⟨X.gn, 0, none⟩) D.next.length X.cn) (by rfl) rfl ?_ ?_
          · go_simp
            (try simp only [i64_w])
            try rfl
          refine hK.out _ _ ⟨(by rw [ha.out]; exact putSel_upk 6 hb_ rfl rfl rfl), Q_B0⟩
        refine steps_cons ?_ ?_
        · rintro b a w' ⟨ha, Q_B0⟩ hb_ hon hoff
          refine ⟨_, rfl, fun K hK => ?_⟩
          have e5 : a.tmps[5]? = some (.int .i64 (bl : Int)) := by rw [ha]; exact (putSel_off rfl).trans rfl
          replace ha := Aside0.mk ha
          have B0 := Aside0.mk Q_B0
          refine value_ (w1 := w') (v := .int .i64 (bl : Int)) (by rfl) rfl ?_ ?_
          · go_simp
            (try simp only [i64_w])
            try rfl
          refine hK.out _ _ ⟨(by rw [ha.out]; exact putSel_upk 7 hb_ rfl rfl rfl), Q_B0⟩
        refine steps_cons ?_ ?_
        · rintro b a w' ⟨ha, Q_B0⟩ hb_ hon hoff
          refine ⟨_, rfl, fun K hK => ?_⟩
          have e37 : a.tmps[37]? = some (.slice (some ⟨X.gn, 0, none⟩) D.next.length X.cn) := by rw [ha]; exact putSel_on (e := (6, 37, .slice (some ⟨X.gn, 0, none⟩) D.next.length X.cn)) 6 rfl rfl (hon 6 (by kernel_rfl)) rfl
          have e38 : a.tmps[38]? = some (.int .i64 (bl : Int)) := by rw [ha]; exact putSel_on (e := (7, 38, .int .i64 (bl : Int))) 7 rfl rfl (hon 7 (by kernel_rfl)) rfl
          replace ha := Aside0.mk ha
          have B0 := Aside0.mk Q_B0
          have p_ := HQ.out.1
          have q_ := HQ.out.2.1
          refine value_ (w1 := w') (v := .pointer (some ⟨X.gn, bl, none⟩)) (by rfl) rfl ?_ ?_
          · go_simp
            (try simp only [i64_w])
            try rfl
          refine hK.out _ _ ⟨(by rw [ha.out]; exact putSel_upk 8 hb_ rfl rfl rfl), Q_B0⟩
        refine steps_cons ?_ ?_
        · rintro b a w' ⟨ha, Q_B0⟩ hb_ hon hoff
          refine ⟨_, rfl, fun K hK => ?_⟩
          have e39 : a.tmps[39]? = some (.pointer (some ⟨X.gn, bl, none⟩)) := by rw [ha]; exact putSel_on (e := (8, 39, .pointer (some ⟨X.gn, bl, none⟩))) 8 rfl rfl (hon 8 (by kernel_rfl)) rfl
          replace ha := Aside0.mk ha
          have B0 := Aside0.mk Q_B0
          have c_ := (HHX.out.below B0.out).nx.cell HNC.out
          refine value_ (w1 := w') (v := .int .i64 nx) (by rfl) rfl ?_ ?_
          · go_simp
            (try simp only [i64_w])
            try rfl
          refine hK.out _ _ ⟨(by rw [ha.out]; exact putSel_upk 9 hb_ rfl rfl rfl), Q_B0⟩
        refine steps_cons ?_ ?_
        · rintro b a w' ⟨ha, Q_B0⟩ hb_ hon hoff
          refine ⟨_, rfl, fun K hK => ?_⟩
          have e33 : a.tmps[33]? = some (.int .i64 nx) := by rw [ha]; exact putSel_on (e := (2, 33, .int .i64 nx)) 2 rfl rfl (hon 2 (by kernel_rfl)) rfl
          have e40 : a.tmps[40]? = some (.int .i64 nx) := by rw [ha]; exact putSel_on (e := (9, 40, .int .i64 nx)) 9 rfl rfl (hon 9 (by kernel_rfl)) rfl
          replace ha := Aside0.mk ha
          have B0 := Aside0.mk Q_B0
          have q_ := HEE.out.1
          refine value_ (w1 := w') (v := .bool false) (by rfl) rfl ?_ ?_
          · go_simp
            (try simp only [i64_w])
            try rfl
          refine hK.out _ _ ⟨(by rw [ha.out]; exact putSel_upk 10 hb_ rfl rfl rfl), Q_B0⟩
        refine steps_cons ?_ ?_
        · rintro b a w' ⟨ha, Q_B0⟩ hb_ hon hoff
          refine ⟨_, rfl, fun K hK => ?_⟩
          have e41 : a.tmps[41]? = some (.bool false) := by rw [ha]; exact putSel_on (e := (10, 41, .bool false)) 10 rfl rfl (hon 10 (by kernel_rfl)) rfl
          replace ha := Aside0.mk ha
          have B0 := Aside0.mk Q_B0
          refine value_ (w1 := w') (v := .bool false) (by rfl) rfl ?_ ?_
          · go_simp
            (try simp only [i64_w])
            try rfl
          refine hK.out _ _ ⟨(by rw [ha.out]; exact putSel_upk 11 hb_ rfl rfl rfl), Q_B0⟩
        refine steps_cons ?_ ?_
        · rintro b a w' ⟨ha, Q_B0⟩ hb_ hon hoff
          refine ⟨_, rfl, fun K hK => ?_⟩
          have e0 : a.tmps[0]? = some (.pointer (some ⟨L.g, 0, none⟩)) := by rw [ha]; exact (putSel_off rfl).trans rfl
          have e42 : a.tmps[42]? = some (.bool false) := by rw [ha]; exact putSel_on (e := (11, 42, .bool false)) 11 rfl rfl (hon 11 (by kernel_rfl)) rfl
          replace ha := Aside0.mk ha
          have B0 := Aside0.mk Q_B0
          refine value_ (w1 := w') (v := .pointer (some ⟨L.g, 0, none⟩)) (wanted_on rfl rfl rfl (e42.trans (by first | rfl | (simp [*]; done)))) rfl ?_ ?_
          · go_simp
            (try simp only [i64_w])
            try rfl
          refine hK.out _ _ ⟨(by rw [ha.out]; exact putSel_upk 12 hb_ rfl rfl rfl), Q_B0⟩
        refine steps_cons ?_ ?_
        · rintro b a w' ⟨ha, Q_B0⟩ hb_ hon hoff
          refine ⟨_, rfl, fun K hK => ?_⟩
          have e5 : a.tmps[5]? = some (.int .i64 (bl : Int)) := by rw [ha]; exact (putSel_off rfl).trans rfl
          have e42 : a.tmps[42]? = some (.bool false) := by rw [ha]; exact putSel_on (e := (11, 42, .bool false)) 11 rfl rfl (hon 11 (by kernel_rfl)) rfl
          replace ha := Aside0.mk ha
          have B0 := Aside0.mk Q_B0
          refine value_ (w1 := w') (v := .int .i64 (bl : Int)) (wanted_on rfl rfl rfl (e42.trans (by first | rfl | (simp [*]; done)))) rfl ?_ ?_
          · go_simp
            (try simp only [i64_w])
            try rfl
          refine hK.out _ _ ⟨(by rw [ha.out]; exact putSel_upk 13 hb_ rfl rfl rfl), Q_B0⟩
        refine steps_cons ?_ ?_
        · rintro b a w' ⟨ha, Q_B0⟩ hb_ hon hoff
          refine ⟨_, rfl, fun K hK => ?_⟩
          have e43 : a.tmps[43]? = some (.pointer (some ⟨L.g, 0, none⟩)) := by rw [ha]; exact putSel_on (e := (12, 43, .pointer (some ⟨L.g, 0, none⟩))) 12 rfl rfl (hon 12 (by kernel_rfl)) rfl
          have e44 : a.tmps[44]? = some (.int .i64 (bl : Int)) := by rw [ha]; exact putSel_on (e := (13, 44, .int .i64 (bl : Int))) 13 rfl rfl (hon 13 (by kernel_rfl)) rfl
          have e42 : a.tmps[42]? = some (.bool false) := by rw [ha]; exact putSel_on (e := (11, 42, .bool false)) 11 rfl rfl (hon 11 (by kernel_rfl)) rfl
          replace ha := Aside0.mk ha
          have B0 := Aside0.mk Q_B0
          refine goes_ Try.func31 (by kernel_rfl) rfl #[.pointer (some ⟨L.g, 0, none⟩), .int .i64 (bl : Int)] (wanted_on rfl rfl rfl (e42.trans rfl)) rfl rfl (by first | (simp only [List.map_toArray, List.map_cons, List.map_nil, Act.eval, Array.getD_eq_getD_getElem?, Option.getD_some, e43, e44, e42]; done) | (simp only [List.map_toArray, List.map_cons, List.map_nil, Act.eval, Array.getD_eq_getD_getElem?, Option.getD_some, e43, e44, e42]; rfl)) ?_
          with_reducible refine (HWE.out _ B0.out).mono ?_
          rintro e w2 ⟨rfl, hb⟩
          refine ⟨_, rfl, ?_⟩
          refine hK.out _ _ ⟨(by rw [ha.out]; exact putSel_upk 14 hb_ rfl rfl rfl), below_then B0.out B0.out.size hb⟩
        refine steps_cons ?_ ?_
        · rintro b a w' ⟨ha, Q_B0⟩ hb_ hon hoff
          refine ⟨_, rfl, fun K hK => ?_⟩
          have e1 : a.tmps[1]? = some (.pointer (some ⟨X.g, 0, none⟩)) := by rw [ha]; exact (putSel_off rfl).trans rfl
          have e42 : a.tmps[42]? = some (.bool false) := by rw [ha]; exact putSel_on (e := (11, 42, .bool false)) 11 rfl rfl (hon 11 (by kernel_rfl)) rfl
          replace ha := Aside0.mk ha
          have B0 := Aside0.mk Q_B0
          refine value_ (w1 := w') (v := .pointer (some ⟨X.g, 0, none⟩)) (wanted_on rfl rfl rfl (e42.trans (by first | rfl | (simp [*]; done)))) rfl ?_ ?_
          · go_simp
            (try simp only [i64_w])
            try rfl
          refine hK.out _ _ ⟨(by rw [ha.out]; exact putSel_upk 15 hb_ rfl rfl rfl), Q_B0⟩
        refine steps_cons ?_ ?_
        · rintro b a w' ⟨ha, Q_B0⟩ hb_ hon hoff
          refine ⟨_, rfl, fun K hK => ?_⟩
          have e46 : a.tmps[46]? = some (.pointer (some ⟨X.g, 0, none⟩)) := by rw [ha]; exact putSel_on (e := (15, 46, .pointer (some ⟨X.g, 0, none⟩))) 15 rfl rfl (hon 15 (by kernel_rfl)) rfl
          have e42 : a.tmps[42]? = some (.bool false) := by rw [ha]; exact putSel_on (e := (11, 42, .bool false)) 11 rfl rfl (hon 11 (by kernel_rfl)) rfl
          replace ha := Aside0.mk ha
          have B0 := Aside0.mk Q_B0
          refine value_ (w1 := w') (v := .pointer (some ⟨X.g, 0, none⟩)) (wanted_on rfl rfl rfl (e42.trans (by first | rfl | (simp [*]; done)))) rfl ?_ ?_
          · go_simp
            (try simp only [i64_w])
            try rfl
          refine hK.out _ _ ⟨(by rw [ha.out]; exact putSel_upk 16 hb_ rfl rfl rfl), Q_B0⟩
        refine steps_cons ?_ ?_
        · rintro b a w' ⟨ha, Q_B0⟩ hb_ hon hoff
          refine ⟨_, rfl, fun K hK => ?_⟩
          have e47 : a.tmps[47]? = some (.pointer (some ⟨X.g, 0, none⟩)) := by rw [ha]; exact putSel_on (e := (16, 47, .pointer (some ⟨X.g, 0, none⟩))) 16 rfl rfl (hon 16 (by kernel_rfl)) rfl
          have e42 : a.tmps[42]? = some (.bool false) := by rw [ha]; exact putSel_on (e := (11, 42, .bool false)) 11 rfl rfl (hon 11 (by kernel_rfl)) rfl
          replace ha := Aside0.mk ha
          have B0 := Aside0.mk Q_B0
          refine value_ (w1 := w') (v := .pointer (some ⟨X.g, 6, none⟩)) (wanted_on rfl rfl rfl (e42.trans (by first | rfl | (simp [*]; done)))) rfl ?_ ?_
          · go_simp
            (try simp only [i64_w])
            try rfl
          refine hK.out _ _ ⟨(by rw [ha.out]; exact putSel_upk 17 hb_ rfl rfl rfl), Q_B0⟩
        refine steps_cons ?_ ?_
        · rintro b a w' ⟨ha, Q_B0⟩ hb_ hon hoff
          refine ⟨_, rfl, fun K hK => ?_⟩
          have e48 : a.tmps[48]? = some (.pointer (some ⟨X.g, 6, none⟩)) := by rw [ha]; exact putSel_on (e := (17, 48, .pointer (some ⟨X.g, 6, none⟩))) 17 rfl rfl (hon 17 (by kernel_rfl)) rfl
          have e42 : a.tmps[42]? = some (.bool false) := by rw [ha]; exact putSel_on (e := (11, 42, .bool false)) 11 rfl rfl (hon 11 (by kernel_rfl)) rfl
          replace ha := Aside0.mk ha
          have B0 := Aside0.mk Q_B0
          have c_ := (xtop_cells (HHX.out.below B0.out)).2.2.2.2.2.2.1
          refine value_ (w1 := w') (v := .slice (some ⟨X.gw, 0, none⟩) D.wear.length X.cw) (wanted_on rfl rfl rfl (e42.trans (by first | rfl | (simp [*]; done)))) rfl ?_ ?_
          · go_simp
            (try simp only [i64_w])
            try rfl
          refine hK.out _ _ ⟨(by rw [ha.out]; exact putSel_upk 18 hb_ rfl rfl rfl), Q_B0⟩
        refine steps_cons ?_ ?_
        · rintro b a w' ⟨ha, Q_B0⟩ hb_ hon hoff
          refine ⟨_, rfl, fun K hK => ?_⟩
          have e5 : a.tmps[5]? = some (.int .i64 (bl : Int)) := by rw [ha]; exact (putSel_off rfl).trans rfl
          have e42 : a.tmps[42]? = some (.bool false) := by rw [ha]; exact putSel_on (e := (11, 42, .bool false)) 11 rfl rfl (hon 11 (by kernel_rfl)) rfl
          replace ha := Aside0.mk ha
          have B0 := Aside0.mk Q_B0
          refine value_ (w1 := w') (v := .int .i64 (bl : Int)) (wanted_on rfl rfl rfl (e42.trans (by first | rfl | (simp [*]; done)))) rfl ?_ ?_
          · go_simp
            (try simp only [i64_w])
            try rfl
          refine hK.out _ _ ⟨(by rw [ha.out]; exact putSel_upk 19 hb_ rfl rfl rfl), Q_B0⟩
        refine steps_cons ?_ ?_
        · rintro b a w' ⟨ha, Q_B0⟩ hb_ hon hoff
          refine ⟨_, rfl, fun K hK => ?_⟩
          have e49 : a.tmps[49]? = some (.slice (some ⟨X.gw, 0, none⟩) D.wear.length X.cw) := by rw [ha]; exact putSel_on (e := (18, 49, .slice (some ⟨X.gw, 0, none⟩) D.wear.length X.cw)) 18 rfl rfl (hon 18 (by kernel_rfl)) rfl
          have e50 : a.tmps[50]? = some (.int .i64 (bl : Int)) := by rw [ha]; exact putSel_on (e := (19, 50, .int .i64 (bl : Int))) 19 rfl rfl (hon 19 (by kernel_rfl)) rfl
          have e42 : a.tmps[42]? = some (.bool false) := by rw [ha]; exact putSel_on (e := (11, 42, .bool false)) 11 rfl rfl (hon 11 (by kernel_rfl)) rfl
          replace ha := Aside0.mk ha
          have B0 := Aside0.mk Q_B0
          have p_ := HQ.out.1
          have q_ := HQ.out.2.2
          refine value_ (w1 := w') (v := .pointer (some ⟨X.gw, bl, none⟩)) (wanted_on rfl rfl rfl (e42.trans (by first | rfl | (simp [*]; done)))) rfl ?_ ?_
          · go_simp
            (try simp only [i64_w])
            try rfl
          refine hK.out _ _ ⟨(by rw [ha.out]; exact putSel_upk 20 hb_ rfl rfl rfl), Q_B0⟩
        refine steps_cons ?_ ?_
        · rintro b a w' ⟨ha, Q_B0⟩ hb_ hon hoff
          refine ⟨_, rfl, fun K hK => ?_⟩
          have e51 : a.tmps[51]? = some (.pointer (some ⟨X.gw, bl, none⟩)) := by rw [ha]; exact putSel_on (e := (20, 51, .pointer (some ⟨X.gw, bl, none⟩))) 20 rfl rfl (hon 20 (by kernel_rfl)) rfl
          have e42 : a.tmps[42]? = some (.bool false) := by rw [ha]; exact putSel_on (e := (11, 42, .bool false)) 11 rfl rfl (hon 11 (by kernel_rfl)) rfl
          replace ha := Aside0.mk ha
          have B0 := Aside0.mk Q_B0
          have c_ := (HHX.out.below B0.out).we.cell HWC.out
          refine value_ (w1 := w') (v := .int .i64 we) (wanted_on rfl rfl rfl (e42.trans (by first | rfl | (simp [*]; done)))) rfl ?_ ?_
          · go_simp
            (try simp only [i64_w])
            try rfl
          refine hK.out _ _ ⟨(by rw [ha.out]; exact putSel_upk 21 hb_ rfl rfl rfl), Q_B0⟩
        refine steps_cons ?_ ?_
        · rintro b a w' ⟨ha, Q_B0⟩ hb_ hon hoff
          refine ⟨_, rfl, fun K hK => ?_⟩
          have e45 : a.tmps[45]? = some (.int .i64 we) := by rw [ha]; exact putSel_on (e := (14, 45, .int .i64 we)) 14 rfl rfl (hon 14 (by kernel_rfl)) rfl
          have e52 : a.tmps[52]? = some (.int .i64 we) := by rw [ha]; exact putSel_on (e := (21, 52, .int .i64 we)) 21 rfl rfl (hon 21 (by kernel_rfl)) rfl
          have e42 : a.tmps[42]? = some (.bool false) := by rw [ha]; exact putSel_on (e := (11, 42, .bool false)) 11 rfl rfl (hon 11 (by kernel_rfl)) rfl
          replace ha := Aside0.mk ha
          have B0 := Aside0.mk Q_B0
          have q_ := HEE.out.2.1
          refine value_ (w1 := w') (v := .bool false) (wanted_on rfl rfl rfl (e42.trans (by first | rfl | (simp [*]; done)))) rfl ?_ ?_
          · go_simp
            (try simp only [i64_w])
            try rfl
          refine hK.out _ _ ⟨(by rw [ha.out]; exact putSel_upk 22 hb_ rfl rfl rfl), Q_B0⟩
        refine steps_cons ?_ ?_
        · rintro b a w' ⟨ha, Q_B0⟩ hb_ hon hoff
          refine ⟨_, rfl, fun K hK => ?_⟩
          have e42 : a.tmps[42]? = some (.bool false) := by rw [ha]; exact putSel_on (e := (11, 42, .bool false)) 11 rfl rfl (hon 11 (by kernel_rfl)) rfl
          have e53 : a.tmps[53]? = some (.bool false) := by rw [ha]; exact putSel_on (e := (22, 53, .bool false)) 22 rfl rfl (hon 22 (by kernel_rfl)) rfl
          replace ha := Aside0.mk ha
          have B0 := Aside0.mk Q_B0
          refine value_ (w1 := w') (v := .bool false) (by rfl) rfl ?_ ?_
          · go_simp
            (try simp only [i64_w])
            try rfl
          refine hK.out _ _ ⟨(by rw [ha.out]; exact putSel_upk 23 hb_ rfl rfl rfl), Q_B0⟩
        refine steps_cons ?_ ?_
        · rintro b a w' ⟨ha, Q_B0⟩ hb_ hon hoff
          refine ⟨_, rfl, fun K hK => ?_⟩
          have e54 : a.tmps[54]? = some (.bool false) := by rw [ha]; exact putSel_on (e := (23, 54, .bool false)) 23 rfl rfl (hon 23 (by kernel_rfl)) rfl
          replace ha := Aside0.mk ha
          have B0 := Aside0.mk Q_B0
          refine value_ (w1 := w') (v := .bool false) (by rfl) rfl ?_ ?_
          · go_simp
            (try simp only [i64_w])
            try rfl
          refine hK.out _ _ ⟨(by rw [ha.out]; exact putSel_upk 24 hb_ rfl rfl rfl), Q_B0⟩
        refine steps_cons ?_ ?_
        · rintro b a w' ⟨ha, Q_B0⟩ hb_ hon hoff
          refine ⟨_, rfl, fun K hK => ?_⟩
          have e0 : a.tmps[0]? = some (.pointer (some ⟨L.g, 0, none⟩)) := by rw [ha]; exact (putSel_off rfl).trans rfl
          have e55 : a.tmps[55]? = some (.bool false) := by rw [ha]; exact putSel_on (e := (24, 55, .bool false)) 24 rfl rfl (hon 24 (by kernel_rfl)) rfl
          replace ha := Aside0.mk ha
          have B0 := Aside0.mk Q_B0
          refine value_ (w1 := w') (v := .pointer (some ⟨L.g, 0, none⟩)) (wanted_on rfl rfl rfl (e55.trans (by first | rfl | (simp [*]; done)))) rfl ?_ ?_
          · go_simp
            (try simp only [i64_w])
            try rfl
          refine hK.out _ _ ⟨(by rw [ha.out]; exact putSel_upk 25 hb_ rfl rfl rfl), Q_B0⟩
        refine steps_cons ?_ ?_
        · rintro b a w' ⟨ha, Q_B0⟩ hb_ hon hoff
          refine ⟨_, rfl, fun K hK => ?_⟩
          have e5 : a.tmps[5]? = some (.int .i64 (bl : Int)) := by rw [ha]; exact (putSel_off rfl).trans rfl
          have e55 : a.tmps[55]? = some (.bool false) := by rw [ha]; exact putSel_on (e := (24, 55, .bool false)) 24 rfl rfl (hon 24 (by kernel_rfl)) rfl
          replace ha := Aside0.mk ha
          have B0 := Aside0.mk Q_B0
          refine value_ (w1 := w') (v := .int .i64 (bl : Int)) (wanted_on rfl rfl rfl (e55.trans (by first | rfl | (simp [*]; done)))) rfl ?_ ?_
          · go_simp
            (try simp only [i64_w])
            try rfl
          refine hK.out _ _ ⟨(by rw [ha.out]; exact putSel_upk 26 hb_ rfl rfl rfl), Q_B0⟩
        refine steps_cons ?_ ?_
        · rintro b a w' ⟨ha, Q_B0⟩ hb_ hon hoff
          refine ⟨_, rfl, fun K hK => ?_⟩
          have e56 : a.tmps[56]? = some (.pointer (some ⟨L.g, 0, none⟩)) := by rw [ha]; exact putSel_on (e := (25, 56, .pointer (some ⟨L.g, 0, none⟩))) 25 rfl rfl (hon 25 (by kernel_rfl)) rfl
          have e57 : a.tmps[57]? = some (.int .i64 (bl : Int)) := by rw [ha]; exact putSel_on (e := (26, 57, .int .i64 (bl : Int))) 26 rfl rfl (hon 26 (by kernel_rfl)) rfl
          have e55 : a.tmps[55]? = some (.bool false) := by rw [ha]; exact putSel_on (e := (24, 55, .bool false)) 24 rfl rfl (hon 24 (by kernel_rfl)) rfl
          replace ha := Aside0.mk ha
          have B0 := Aside0.mk Q_B0
          refine goes_ Try.func30 (by kernel_rfl) rfl #[.pointer (some ⟨L.g, 0, none⟩), .int .i64 (bl : Int)] (wanted_on rfl rfl rfl (e55.trans rfl)) rfl rfl (by first | (simp only [List.map_toArray, List.map_cons, List.map_nil, Act.eval, Array.getD_eq_getD_getElem?, Option.getD_some, e56, e57, e55]; done) | (simp only [List.map_toArray, List.map_cons, List.map_nil, Act.eval, Array.getD_eq_getD_getElem?, Option.getD_some, e56, e57, e55]; rfl)) ?_
          with_reducible refine (HMK.out _ B0.out).mono ?_
          rintro e w2 ⟨rfl, hb⟩
          refine ⟨_, rfl, ?_⟩
          refine hK.out _ _ ⟨(by rw [ha.out]; exact putSel_upk 27 hb_ rfl rfl rfl), below_then B0.out B0.out.size hb⟩
        refine steps_cons ?_ ?_
        · rintro b a w' ⟨ha, Q_B0⟩ hb_ hon hoff
          refine ⟨_, rfl, fun K hK => ?_⟩
          have e1 : a.tmps[1]? = some (.pointer (some ⟨X.g, 0, none⟩)) := by rw [ha]; exact (putSel_off rfl).trans rfl
          have e55 : a.tmps[55]? = some (.bool false) := by rw [ha]; exact putSel_on (e := (24, 55, .bool false)) 24 rfl rfl (hon 24 (by kernel_rfl)) rfl
          replace ha := Aside0.mk ha
          have B0 := Aside0.mk Q_B0
          refine value_ (w1 := w') (v := .pointer (some ⟨X.g, 0, none⟩)) (wanted_on rfl rfl rfl (e55.trans (by first | rfl | (simp [*]; done)))) rfl ?_ ?_
          · go_simp
            (try simp only [i64_w])
            try rfl
          refine hK.out _ _ ⟨(by rw [ha.out]; exact putSel_upk 28 hb_ rfl rfl rfl), Q_B0⟩
        refine steps_cons ?_ ?_
        · rintro b a w' ⟨ha, Q_B0⟩ hb_ hon hoff
          refine ⟨_, rfl, fun K hK => ?_⟩
          have e59 : a.tmps[59]? = some (.pointer (some ⟨X.g, 0, none⟩)) := by rw [ha]; exact putSel_on (e := (28, 59, .pointer (some ⟨X.g, 0, none⟩))) 28 rfl rfl (hon 28 (by kernel_rfl)) rfl
          have e55 : a.tmps[55]? = some (.bool false) := by rw [ha]; exact putSel_on (e := (24, 55, .bool false)) 24 rfl rfl (hon 24 (by kernel_rfl)) rfl
          replace ha := Aside0.mk ha
          have B0 := Aside0.mk Q_B0
          refine value_ (w1 := w') (v := .pointer (some ⟨X.g, 0, none⟩)) (wanted_on rfl rfl rfl (e55.trans (by first | rfl | (simp [*]; done)))) rfl ?_ ?_
          · go_simp
            (try simp only [i64_w])
            try rfl
          refine hK.out _ _ ⟨(by rw [ha.out]; exact putSel_upk 29 hb_ rfl rfl rfl), Q_B0⟩
        refine steps_cons ?_ ?_
        · rintro b a w' ⟨ha, Q_B0⟩ hb_ hon hoff
          refine ⟨_, rfl, fun K hK => ?_⟩
          have e60 : a.tmps[60]? = some (.pointer (some ⟨X.g, 0, none⟩)) := by rw [ha]; exact putSel_on (e := (29, 60, .pointer (some ⟨X.g, 0, none⟩))) 29 rfl rfl (hon 29 (by kernel_rfl)) rfl
          have e55 : a.tmps[55]? = some (.bool false) := by rw [ha]; exact putSel_on (e := (24, 55, .bool false)) 24 rfl rfl (hon 24 (by kernel_rfl)) rfl
          replace ha := Aside0.mk ha
          have B0 := Aside0.mk Q_B0
          refine value_ (w1 := w') (v := .pointer (some ⟨X.g, 3, none⟩)) (wanted_on rfl rfl rfl (e55.trans (by first | rfl | (simp [*]; done)))) rfl ?_ ?_
          · go_simp
            (try simp only [i64_w])
            try rfl
          refine hK.out _ _ ⟨(by rw [ha.out]; exact putSel_upk 30 hb_ rfl rfl rfl), Q_B0⟩
        refine steps_cons ?_ ?_
        · rintro b a w' ⟨ha, Q_B0⟩ hb_ hon hoff
          refine ⟨_, rfl, fun K hK => ?_⟩
          have e61 : a.tmps[61]? = some (.pointer (some ⟨X.g, 3, none⟩)) := by rw [ha]; exact putSel_on (e := (30, 61, .pointer (some ⟨X.g, 3, none⟩))) 30 rfl rfl (hon 30 (by kernel_rfl)) rfl
          have e55 : a.tmps[55]? = some (.bool false) := by rw [ha]; exact putSel_on (e := (24, 55, .bool false)) 24 rfl rfl (hon 24 (by kernel_rfl)) rfl
          replace ha := Aside0.mk ha
          have B0 := Aside0.mk Q_B0
          have c_ := (xtop_cells (HHX.out.below B0.out)).2.2.2.1
          refine value_ (w1 := w') (v := .slice X.Am D.bad.length X.cm) (wanted_on rfl rfl rfl (e55.trans (by first | rfl | (simp [*]; done)))) rfl ?_ ?_
          · go_simp
            (try simp only [i64_w])
            try rfl
          refine hK.out _ _ ⟨(by rw [ha.out]; exact putSel_upk 31 hb_ rfl rfl rfl), Q_B0⟩
        refine steps_cons ?_ ?_
        · rintro b a w' ⟨ha, Q_B0⟩ hb_ hon hoff
          refine ⟨_, rfl, fun K hK => ?_⟩
          have e5 : a.tmps[5]? = some (.int .i64 (bl : Int)) := by rw [ha]; exact (putSel_off rfl).trans rfl
          have e55 : a.tmps[55]? = some (.bool false) := by rw [ha]; exact putSel_on (e := (24, 55, .bool false)) 24 rfl rfl (hon 24 (by kernel_rfl)) rfl
          replace ha := Aside0.mk ha
          have B0 := Aside0.mk Q_B0
          refine value_ (w1 := w') (v := .int .i64 (bl : Int)) (wanted_on rfl rfl rfl (e55.trans (by first | rfl | (simp [*]; done)))) rfl ?_ ?_
          · go_simp
            (try simp only [i64_w])
            try rfl
          refine hK.out _ _ ⟨(by rw [ha.out]; exact putSel_upk 32 hb_ rfl rfl rfl), Q_B0⟩
        refine steps_cons ?_ ?_
        · rintro b a w' ⟨ha, Q_B0⟩ hb_ hon hoff
          refine ⟨_, rfl, fun K hK => ?_⟩
          have e62 : a.tmps[62]? = some (.slice X.Am D.bad.length X.cm) := by rw [ha]; exact putSel_on (e := (31, 62, .slice X.Am D.bad.length X.cm)) 31 rfl rfl (hon 31 (by kernel_rfl)) rfl
          have e63 : a.tmps[63]? = some (.int .i64 (bl : Int)) := by rw [ha]; exact putSel_on (e := (32, 63, .int .i64 (bl : Int))) 32 rfl rfl (hon 32 (by kernel_rfl)) rfl
          have e55 : a.tmps[55]? = some (.bool false) := by rw [ha]; exact putSel_on (e := (24, 55, .bool false)) 24 rfl rfl (hon 24 (by kernel_rfl)) rfl
          replace ha := Aside0.mk ha
          have B0 := Aside0.mk Q_B0
          refine goes_ Try.func44 (by kernel_rfl) rfl #[.slice X.Am D.bad.length X.cm, .int .i64 (bl : Int)] (wanted_on rfl rfl rfl (e55.trans rfl)) rfl rfl (by first | (simp only [List.map_toArray, List.map_cons, List.map_nil, Act.eval, Array.getD_eq_getD_getElem?, Option.getD_some, e62, e63, e55]; done) | (simp only [List.map_toArray, List.map_cons, List.map_nil, Act.eval, Array.getD_eq_getD_getElem?, Option.getD_some, e62, e63, e55]; rfl)) ?_
          with_reducible refine (HHS.out _ B0.out).mono ?_
          rintro e w2 ⟨rfl, hb⟩
          refine ⟨_, rfl, ?_⟩
          refine hK.out _ _ ⟨(by rw [ha.out]; exact putSel_upk 33 hb_ rfl rfl rfl), below_then B0.out B0.out.size hb⟩
        refine steps_cons ?_ ?_
        · rintro b a w' ⟨ha, Q_B0⟩ hb_ hon hoff
          refine ⟨_, rfl, fun K hK => ?_⟩
          have e58 : a.tmps[58]? = some (.bool mk) := by rw [ha]; exact putSel_on (e := (27, 58, .bool mk)) 27 rfl rfl (hon 27 (by kernel_rfl)) rfl
          have e64 : a.tmps[64]? = some (.bool mk) := by rw [ha]; exact putSel_on (e := (33, 64, .bool mk)) 33 rfl rfl (hon 33 (by kernel_rfl)) rfl
          have e55 : a.tmps[55]? = some (.bool false) := by rw [ha]; exact putSel_on (e := (24, 55, .bool false)) 24 rfl rfl (hon 24 (by kernel_rfl)) rfl
          replace ha := Aside0.mk ha
          have B0 := Aside0.mk Q_B0
          have q_ := HEE.out.2.2
          refine value_ (w1 := w') (v := .bool false) (wanted_on rfl rfl rfl (e55.trans (by first | rfl | (simp [*]; done)))) rfl ?_ ?_
          · go_simp
            (try simp only [i64_w])
            try rfl
          refine hK.out _ _ ⟨(by rw [ha.out]; exact putSel_upk 34 hb_ rfl rfl rfl), Q_B0⟩
        refine steps_cons ?_ ?_
        · rintro b a w' ⟨ha, Q_B0⟩ hb_ hon hoff
          refine ⟨_, rfl, fun K hK => ?_⟩
          have e55 : a.tmps[55]? = some (.bool false) := by rw [ha]; exact putSel_on (e := (24, 55, .bool false)) 24 rfl rfl (hon 24 (by kernel_rfl)) rfl
          have e65 : a.tmps[65]? = some (.bool false) := by rw [ha]; exact putSel_on (e := (34, 65, .bool false)) 34 rfl rfl (hon 34 (by kernel_rfl)) rfl
          replace ha := Aside0.mk ha
          have B0 := Aside0.mk Q_B0
          refine value_ (w1 := w') (v := .bool false) (by rfl) rfl ?_ ?_
          · go_simp
            (try simp only [i64_w])
            try rfl
          refine hK.out _ _ ⟨(by rw [ha.out]; exact putSel_upk 35 hb_ rfl rfl rfl), Q_B0⟩
        exact steps_nil
      rintro b a w6 hall ⟨ha, Q_B0⟩
      clear B0
      have hb0_ := hall 0 (by kernel_rfl)
      have hb1_ := hall 1 (by kernel_rfl)
      have hb2_ := hall 2 (by kernel_rfl)
      have hb3_ := hall 3 (by kernel_rfl)
      have hb4_ := hall 4 (by kernel_rfl)
      have hb5_ := hall 5 (by kernel_rfl)
      have hb6_ := hall 6 (by kernel_rfl)
      have hb7_ := hall 7 (by kernel_rfl)
      have hb8_ := hall 8 (by kernel_rfl)
      have hb9_ := hall 9 (by kernel_rfl)
      have hb10_ := hall 10 (by kernel_rfl)
      have hb11_ := hall 11 (by kernel_rfl)
      have hb12_ := hall 12 (by kernel_rfl)
      have hb13_ := hall 13 (by kernel_rfl)
      have hb14_ := hall 14 (by kernel_rfl)
      have hb15_ := hall 15 (by kernel_rfl)
      have hb16_ := hall 16 (by kernel_rfl)
      have hb17_ := hall 17 (by kernel_rfl)
      have hb18_ := hall 18 (by kernel_rfl)
      have hb19_ := hall 19 (by kernel_rfl)
      have hb20_ := hall 20 (by kernel_rfl)
      have hb21_ := hall 21 (by kernel_rfl)
      have hb22_ := hall 22 (by kernel_rfl)
      have hb23_ := hall 23 (by kernel_rfl)
      have hb24_ := hall 24 (by kernel_rfl)
      have hb25_ := hall 25 (by kernel_rfl)
      have hb26_ := hall 26 (by kernel_rfl)
      have hb27_ := hall 27 (by kernel_rfl)
      have hb28_ := hall 28 (by kernel_rfl)
      have hb29_ := hall 29 (by kernel_rfl)
      have hb30_ := hall 30 (by kernel_rfl)
      have hb31_ := hall 31 (by kernel_rfl)
      have hb32_ := hall 32 (by kernel_rfl)
      have hb33_ := hall 33 (by kernel_rfl)
      have hb34_ := hall 34 (by kernel_rfl)
      have hb35_ := hall 35 (by kernel_rfl)
      subst ha
      simp only [putSel, hb0_, hb1_, hb2_, hb3_, hb4_, hb5_, hb6_, hb7_, hb8_, hb9_, hb10_, hb11_, hb12_, hb13_, hb14_, hb15_, hb16_, hb17_, hb18_, hb19_, hb20_, hb21_, hb22_, hb23_, hb24_, hb25_, hb26_, hb27_, hb28_, hb29_, hb30_, hb31_, hb32_, hb33_, hb34_, hb35_, if_true, Act.put, List.setIfInBounds_toArray, List.set_cons_zero, List.set_cons_succ]
      have B0 := Aside0.mk Q_B0
      clear Q_B0
      clear hall hb0_ hb1_ hb2_ hb3_ hb4_ hb5_ hb6_ hb7_ hb8_ hb9_ hb10_ hb11_ hb12_ hb13_ hb14_ hb15_ hb16_ hb17_ hb18_ hb19_ hb20_ hb21_ hb22_ hb23_ hb24_ hb25_ hb26_ hb27_ hb28_ hb29_ hb30_ hb31_ hb32_ hb33_ hb34_ hb35_
      go_wp2_with fail
      go_roundg (Bn - bl)
      case measure => have := HJ.out; have := HJ2.out; omega
      case rel => exact ⟨bl + 1, by first | rfl | simp, ⟨by have := HJ2.out; omega, by have := HJ.out; have := HJ2.out; omega⟩, ⟨below_then BB.out BB.out.size B0.out⟩⟩
end Go.Proofs.Ytnchdmidaigheaa.ND
