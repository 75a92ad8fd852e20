/- Parts of the proof of the statement ScanBlocks, laid together (5 of 10). -/
import Derived.Deep.DeepCutAuto
import Derived.Deep.CutBlock
import Derived.WalkMore
import Derived.Test.YtnchdmidaigheaaZScanBlocks3
namespace Go.Proofs.Ytnchdmidaigheaa.ND
set_option linter.unusedVariables false
set_option linter.unusedSimpArgs false
open Go.RowKit Go.Proofs.Ytnchdmidaigheaa.Hp Go.Proofs.YtnchdmidaigheaaW.PrintWords Go.Proofs.YtnchdmidaigheaaW.PrintLast Go.Proofs.YtnchdmidaigheaaW.PrintMore
def marksTo (B : Nat) (bad : List Int) (i : Nat) : List Value := (List.range B).map fun (j : Nat) => .bool ((bad.take i).any fun x => x == (j : Int))
theorem marksTo_len (B : Nat) (bad : List Int) (i : Nat) : (marksTo B bad i).length = B := by unfold marksTo; rw [List.length_map, List.length_range]
theorem marksTo_at (B : Nat) (bad : List Int) (i j : Nat) : (marksTo B bad i)[j]? = if j < B then some (.bool ((bad.take i).any fun x => x == (j : Int))) else none := by
 unfold marksTo; rw [List.getElem?_map]
 split
 ·
  rename_i h
  rw [List.getElem?_range h]; rfl
 ·
  rename_i h
  rw [List.getElem?_eq_none (by rw [List.length_range]; omega)]; rfl
theorem any_take {bad : List Int} {i : Nat} {x : Int} (hx : bad[i]? = some x) (p : Int → Bool) : (bad.take (i + 1)).any p = ((bad.take i).any p || p x) := by
 rw [List.take_add_one, hx, List.any_append]; simp
theorem marksTo_hit {B : Nat} {bad : List Int} {i n : Nat} (hx : bad[i]? = some (n : Int)) (hn : n < B) : marksTo B bad (i + 1) = (marksTo B bad i).set n (.bool true) := by
 apply List.ext_getElem?; intro j; rw [List.getElem?_set, marksTo_at, marksTo_at, marksTo_len, any_take hx]; by_cases hj : n = j
 ·
  subst hj; rw [if_pos hn, if_pos rfl, if_pos hn]; simp
 ·
  rw [if_neg hj]; have : ((n : Int) == (j : Int)) = false := by simp; omega
  rw [this, Bool.or_false]
theorem marksTo_miss {B : Nat} {bad : List Int} {i : Nat} {x : Int} (hx' : bad[i]? = some x) (hx : ¬ (0 ≤ x ∧ x < (B : Int))) : marksTo B bad (i + 1) = marksTo B bad i := by
 apply List.ext_getElem?; intro j; rw [marksTo_at, marksTo_at, any_take hx']
 split
 ·
  have : (x == (j : Int)) = false := by simp; omega
  rw [this, Bool.or_false]
 ·
  rfl
theorem marksTo_zero (B : Nat) (bad : List Int) : marksTo B bad 0 = List.replicate B (.bool false) := by
 apply List.ext_getElem?; intro j; rw [marksTo_at, List.getElem?_replicate, List.take_zero]; rfl
theorem marksTo_all {B P C : Int} {bad : List Int} {fs : List Flt} : marksTo B.toNat bad bad.length = marks (newDv B P C bad fs) := by
 unfold marksTo; rw [List.take_length]; rfl
theorem made_cells (z : Value) (n : Nat) {W : World} {g T : Nat} (h : W.heap[g]? = some (.cells (madeCells #[z] n) T (0, 0))) : Cells W g T (List.replicate n z) := by
 have := Cells.mk' h
 rwa [toList_madeCells_one] at this
theorem Ones_256 : zeros_Ones.f 300 256 = some (List.replicate 256 255) := by decide +kernel
abbrev okv (W5 : World) (v : Value) (k : Nat) : Prop := W5.heap.size ≤ k ∧ some k ≠ v.ownBlock
theorem ones_fresh {W5 w w2 : World} {vp v : Value} {n e T : Nat} {vs : List Value} (ho : w.ownsRow W5.heap.size T 1 vp n vs) (hR : Kd.R (Kd.int .u8) e w2 w.heap.size (fun _ => True) v (List.replicate 256 255)) (hs : W5.heap.size ≤ w.heap.size) : ∃ A c, v = .slice A 256 c ∧ 256 ≤ c ∧ Kd.F (Kd.int .u8) w2 (okv W5 vp) A 256 (List.replicate 256 255) := by
 obtain ⟨A, c, rfl, hc, _⟩ := Kd.R_reads hR; rw [List.length_replicate] at hc; have h := Kd.R_F (Kd.R_mono (Kd.R_bound hR) (fun k hk => (⟨Nat.le_trans hs hk.2.1, fun e => by have := own_lt ho k e.symm; have := hk.2.1; omega⟩ : okv W5 vp k))); rw [List.length_replicate] at h; exact ⟨A, c, by rw [List.length_replicate], hc, h⟩
theorem Pages.snoc {W : World} {ok : Nat → Prop} {vs : List Value} {ps : List (List Int)} (h : Pages W ok vs ps) {A : Option Addr} {c : Nat} {l : List Int} (hc : 256 ≤ c) (hF : Kd.F (Kd.int .u8) W ok A 256 l) : Pages W ok (vs ++ [.slice A 256 c]) (ps ++ [l]) := by
 refine ⟨by rw [List.length_append, List.length_append, h.1]; rfl, fun i v x hv hx => ?_⟩
 rcases Nat.lt_or_ge i vs.length with hi | hi
 ·
  rw [List.getElem?_append_left hi] at hv; rw [List.getElem?_append_left (by have := h.1; omega)] at hx; exact h.2 i v x hv hx
 ·
  have hi' : i = vs.length := by
   have := (List.getElem?_eq_some_iff.1 hv).1; rw [List.length_append] at this; have e : [Value.slice A 256 c].length = 1 := rfl; omega
  subst hi'; rw [List.getElem?_append_right (Nat.le_refl _), Nat.sub_self] at hv; rw [List.getElem?_append_right (by have := h.1; omega), show vs.length - ps.length = 0 by have := h.1; omega] at hx; obtain rfl := Option.some.inj hv; obtain rfl := Option.some.inj hx; exact ⟨A, c, rfl, hc, hF⟩
theorem page_app {W5 W : World} {vp : Value} {n : Nat} {vs : List Value} {ps : List (List Int)} (ho : W.ownsRow W5.heap.size 38 1 vp n vs) (hp : Pages W (okv W5 vp) vs ps) {A : Option Addr} {c : Nat} {l : List Int} (hc : 256 ≤ c) (hF : Kd.F (Kd.int .u8) W (okv W5 vp) A 256 l) {gx : Nat} (hx : W.heap[gx]? = some (.cells #[.slice A 256 c] 38 (0, 0))) (hn : n + 1 ≤ 100000) (hs : W5.heap.size ≤ W.heap.size) :
  ∃ v' w', (Builtin.append_ #[107, 107] 107 #[vp, .slice (some ⟨gx, 0, none⟩) 1 1]).run Try.prog W = .ok v' w' ∧ w'.ownsRow W5.heap.size 38 1 v' (n + 1) (vs ++ [.slice A 256 c]) ∧ Pages w' (okv W5 v') (vs ++ [.slice A 256 c]) (ps ++ [l]) ∧ W.grownBy w' vp.ownBlock := by
 obtain ⟨v', w', h1, h2, h3, h4⟩ := app_any W5.heap.size 107 107 38 Try.underlying107 (z := .slice none 0 0) (sz := 1) (bytes := 24) (by kernel_rfl) rfl (by decide) (by decide) (by decide) vp n vs ho ⟨gx, 0, none⟩ 1 1 [.slice A 256 c] rfl (fun j u hu => by rw [add_plain, blk_cell hx, ← hu]; show (#[Value.slice A 256 c])[j]? = _; rw [← List.getElem?_toArray]) (fun u hu => by rw [List.mem_singleton.1 hu]; rfl) hn hs; refine ⟨v', w', h1, h2, ?_, h3⟩; have hat : v'.ownBlock = vp.ownBlock ∨ ∃ b, v'.ownBlock = some b ∧ W.heap.size ≤ b := by
  rcases h4 with h4 | h4
  ·
   exact .inl h4
  ·
   exact .inr ⟨_, h4, Nat.le_refl _⟩
 have hsn := hp.snoc hc hF; exact ⟨hsn.1, fun i v x hv hx => by obtain ⟨A', c', e1, e2, e3⟩ := hsn.2 i v x hv hx; exact ⟨A', c', e1, e2, Kd.F_after (ok := fun k => W5.heap.size ≤ k) e3 h3 hat⟩⟩
section
variable {P : Program} {ops : Array Oper} {Q : Exit → Act → World → Prop}
theorem app_step {oi : Oper} {N : Option Tmp} {a : Act} {w : World} {K : Act → World → Prop} (hw : Region.wanted oi (yielded ops a.tmps) = true) (hN : oi.dst = N) {ts tx : Tmp} {t : TypeId} (ho : oi.op = .call { callee := .builtin .append, args := #[.tmp ts, .tmp tx], argTypes := #[t, t] })
  {v xv : Value} (hs : a.tmps[ts]? = some v) (hx : a.tmps[tx]? = some xv) {v' : Value} {w' : World} (hr : (Builtin.append_ #[t, t] oi.type #[v, xv]).run P w = .ok v' w') (h : K (a.put N v') w') :
  if Region.wanted oi (yielded ops a.tmps) = true then Oper.wp P oi a w K Q else K (a.put N undef) w := by
 rw [if_pos hw]; subst hN; have e1 : a.eval (.tmp ts) = v := by simp [Act.eval, Array.getD_eq_getD_getElem?, hs]
 have e2 : a.eval (.tmp tx) = xv := by simp [Act.eval, Array.getD_eq_getD_getElem?, hx]
 unfold Oper.wp execOp; simp only [ho, resolve, invoke, builtin, Sem.run_bind, Sem.run_pure, Result.andThen_ok, List.map_toArray, List.map_cons, List.map_nil, e1, e2, hr]; exact h
end
def NewTo (W : World) (B P C : Int) (bad : List Int) (fs : List Flt) (e : Ending) (w' : World) : Prop :=
 Below W.heap.size W w' ∧ (rightG B P C = true → ∃ L : Lay, e = .returned (.tuple #[.pointer (some ⟨L.g, 0, none⟩), .int .i64 0]) ∧ DV w' (fun k => W.heap.size ≤ k ∧ ¬ L.S k) L (newDv B P C bad fs) ∧ ∀ k, L.S k ∨ k = L.gm → W.heap.size ≤ k) ∧
 (rightG B P C = false → e = .returned (.tuple #[.pointer none, .int .i64 3]))
def new4.T4 : Bool × List (List Nat × List Nat) := (true, [([], []), ([], []), ([1], [1]), ([2, 2], [2]), ([], []), ([4], [4]), ([5, 5], [5]), ([], []), ([7], [7]), ([8, 8], [8]), ([0, 3, 6, 9], [0, 3, 6, 9]), ([10], [10]), ([11, 0, 1, 2, 3, 4, 5, 6, 7, 8, 9, 10, 11], [11])])
def new4.B4 : List Nat := [0, 0, 2, 6, 0, 16, 48, 0, 128, 384, 1023, 2047, 4095]
theorem new4.tab4 : rtab .any (opsOf Try.f14 4) = new4.T4 := by kernel_rfl
theorem new4.bits4 : waitsOk new4.T4.2 new4.B4 = true := by kernel_rfl
def new13.T13 : Bool × List (List Nat × List Nat) := (true, [([], []), ([], []), ([1], [1]), ([2], [2]), ([3], [3]), ([], []), ([5], [5]), ([4, 6, 5], [4, 6]), ([0, 0, 1, 2, 3, 4, 5, 6, 7], [0]), ([8, 0, 1, 2, 3, 4, 5, 6, 7], [8]), ([9, 7, 7, 0, 1, 2, 3, 4, 5, 6, 7], [7, 9])])
def new13.B13 : List Nat := [0, 0, 2, 6, 14, 0, 32, 126, 255, 511, 1023]
theorem new13.tab13 : rtab .any (opsOf Try.f14 13) = new13.T13 := by kernel_rfl
theorem new13.bits13 : waitsOk new13.T13.2 new13.B13 = true := by kernel_rfl
def new19.T19 : Bool × List (List Nat × List Nat) := (true, [([], []), ([], []), ([1], [1]), ([2], [2]), ([3], [3]), ([], []), ([5], [5]), ([4, 6], [4, 6]), ([0, 0, 1, 2, 3, 4, 5, 6, 7], [0]), ([8, 0, 1, 2, 3, 4, 5, 6, 7], [8]), ([9, 7, 7, 0, 1, 2, 3, 4, 5, 6, 7], [7, 9])])
def new19.B19 : List Nat := [0, 0, 2, 6, 14, 0, 32, 126, 255, 511, 1023]
theorem new19.tab19 : rtab .any (opsOf Try.f14 19) = new19.T19 := by kernel_rfl
theorem new19.bits19 : waitsOk new19.T19.2 new19.B19 = true := by kernel_rfl
set_option maxHeartbeats 4000000 in
set_option maxRecDepth 100000 in
theorem new_calls {W : World} (B P C : Int) (bad : List Int) (fs : List Flt) (Ab Af : Option Addr) (cb cf : Nat) (hb : Kd.C (Kd.int .i64) W Ab bad.length bad) (hf : Kd.C k65 W Af fs.length fs) (hbl : bad.length ≤ 1000) (hfl : fs.length ≤ 1000) (hfm : ∀ f ∈ fs, isBytes f.f2 ∧ f.f2.length ≤ 1000) :
  Calls Try.prog 14 #[.agg #[.int .i64 B, .int .i64 P, .int .i64 C], .slice Ab bad.length cb, .slice Af fs.length cf] W fun e w' => NewTo W B P C bad fs e w' := by
 have HIN := aK (And.intro hb (And.intro hf (And.intro hbl (And.intro hfl hfm)))); have hz3 := heap_alloc_new W (.cells #[.int .i64 B, .int .i64 P, .int .i64 C] 23); have hb3 := below_alloc (Below.refl W.heap.size W) (.cells #[.int .i64 B, .int .i64 P, .int .i64 C] 23); obtain ⟨g3, hg3⟩ : ∃ g, g = W.heap.size := ⟨_, rfl⟩; clear hb hf hbl hfl hfm; go_enter Try.func14, Try.ntmps14; go_upto_region 1 with fail; generalize W.alloc (.cells #[.int .i64 B, .int .i64 P, .int .i64 C] 23) = W2 at hz3 hb3 ⊢; rw [← hg3] at hz3 ⊢; have HG3 := aK hg3; have HZ2 := aK hz3; have HB2 := aK hb3; have HCK := aK (fun w => geom_Check.calls B P C _ w rfl); have c0 := blk_cell hz3 0; have c1 := blk_cell hz3 1; have c2 := blk_cell hz3 2; clear hg3 hz3 hb3
 cases hr : rightG B P C with
 | false =>
  have hr' : (within B 8 34 && (within P 4 32 && within C 0 8)) = false := hr; rw [if_neg (by rw [hr']; decide)] at HCK; have HRF := aK hr; clear hr hr'; go_wp2_with (go_at_call 60; refine (HCK.out _).mono ?_; rintro e w3 ⟨rfl, hb⟩; have HB3 := aK (below_then HB2.out HB2.out.size hb); clear hb); go_ret2; refine ⟨HB3.out, ⟨fun h => ?_, fun _ => rfl⟩⟩; rw [HRF.out] at h
  cases h
 | true =>
  have hr' : (within B 8 34 && (within P 4 32 && within C 0 8)) = true := hr; rw [if_pos hr'] at HCK; have HRG := aK hr; obtain ⟨hb1, hb2, hp1, hp2, hc1, hc2⟩ : 8 ≤ B ∧ B ≤ 34 ∧ 4 ≤ P ∧ P ≤ 32 ∧ 0 ≤ C ∧ C ≤ 8 := by
   unfold within at hr'; simp only [Bool.and_eq_true, decide_eq_true_eq] at hr'; obtain ⟨⟨h1, h2⟩, ⟨h3, h4⟩, h5, h6⟩ := hr'; exact ⟨h1, h2, h3, h4, h5, h6⟩
  obtain ⟨Bn, rfl⟩ := Int.eq_ofNat_of_zero_le (show 0 ≤ B by omega); obtain ⟨Pn, rfl⟩ := Int.eq_ofNat_of_zero_le (show 0 ≤ P by omega); have HGM := aK (And.intro hb1 (And.intro hb2 (And.intro hp1 hp2))); clear hr hr' hb1 hb2 hp1 hp2 hc1 hc2; go_upto_region 4 with (go_at_call 60; refine (HCK.out _).mono ?_; rintro e w3 ⟨rfl, hb⟩; have HB23 := aK hb; have HB3 := aK (below_then HB2.out HB2.out.size hb); clear hb c0 c1 c2); have HZ3 := aK (blk_below HZ2.out HB23.out); have HMB := aK (print_make_of (P := Try.prog) 106 4 (.bool false) 1 Try.underlying106 (by kernel_rfl) rfl (by decide) Bn (by have := HGM.out; omega)); have HMI := aK (print_make_of (P := Try.prog) 24 3 (.int .i64 0) 8 Try.underlying24 (by kernel_rfl) rfl (by decide) Bn (by have := HGM.out; omega)); have B0 := aK (below_drew1 (Below.refl w3.heap.size w3)); clear HCK HZ2 HB2 HB23; refine start_ (n := 13) (S := fun w' => True) (ds := []) #[false, false, false, false, false, false, false, false, false, false, false, false, false] (by kernel_rfl) rfl rfl trivial (fun hHeld => ?_); refine with_tabW new4.tab4 new4.bits4 (fun HT_ HW_ => ?_); generalize w3.drew = wq at B0 hHeld ⊢; refine inv_at [0, 1, 2, 3, 4, 5, 6, 7, 8, 9, 10, 11, 12] (fun a0_ b a w' => ∃ (gm : Nat) (gn : Nat) (gw : Nat) (g9 : Nat) (m3_ : Value) (m6_ : Value) (m9_ : Value) (m10_ : Value) (m11_ : Value) (m12_ : Value), a = putSel a0_ b [(0, 19, .agg #[.int .i64 (Bn : Int), .int .i64 (Pn : Int), .int .i64 C]), (1, 20, .pointer (some ⟨g3, 0, none⟩)), (2, 21, .int .i64 (Bn : Int)), (3, 22, m3_), (4, 23, .pointer (some ⟨g3, 0, none⟩)), (5, 24, .int .i64 (Bn : Int)), (6, 25, m6_), (7, 26, .pointer (some ⟨g3, 0, none⟩)), (8, 27, .int .i64 (Bn : Int)), (9, 28, m9_), (10, 29, m10_), (11, 30, m11_), (12, 9, m12_)] ∧ (Below w3.heap.size w3 w') ∧ (b 3 = true → w'.heap[gm]? = some (.cells (madeCells #[.bool false] Bn) 4 (0, 0)) ∧ w3.heap.size ≤ gm) ∧ (b 6 = true → w'.heap[gn]? = some (.cells (madeCells #[.int .i64 0] Bn) 3 (0, 0)) ∧ w3.heap.size ≤ gn) ∧ (b 9 = true → w'.heap[gw]? = some (.cells (madeCells #[.int .i64 0] Bn) 3 (0, 0)) ∧ w3.heap.size ≤ gw) ∧ (b 3 = true → b 6 = true → gm ≠ gn) ∧ (b 3 = true → b 9 = true → gm ≠ gw) ∧ (b 6 = true → b 9 = true → gn ≠ gw) ∧ (b 11 = true → w'.heap[g9]? = some (.cells #[.int .i64 (Bn : Int), .int .i64 (Pn : Int), .int .i64 C, .slice (some ⟨gm, 0, none⟩) Bn Bn, .slice none 0 0, .slice (some ⟨gn, 0, none⟩) Bn Bn, .slice (some ⟨gw, 0, none⟩) Bn Bn, .slice none 0 0, .int .i64 0, .bool false] 109 (0, 0)) ∧ w3.heap.size ≤ g9 ∧ gm ≠ g9 ∧ gn ≠ g9 ∧ gw ≠ g9) ∧ (b 3 = true → (m3_ : Value) = .slice (some ⟨gm, 0, none⟩) Bn Bn) ∧ (b 6 = true → (m6_ : Value) = .slice (some ⟨gn, 0, none⟩) Bn Bn) ∧ (b 9 = true → (m9_ : Value) = .slice (some ⟨gw, 0, none⟩) Bn Bn) ∧ (b 10 = true → (m10_ : Value) = .agg #[.int .i64 (Bn : Int), .int .i64 (Pn : Int), .int .i64 C, .slice (some ⟨gm, 0, none⟩) Bn Bn, .slice none 0 0, .slice (some ⟨gn, 0, none⟩) Bn Bn, .slice (some ⟨gw, 0, none⟩) Bn Bn, .slice none 0 0, .int .i64 0, .bool false]) ∧ (b 11 = true → (m11_ : Value) = .pointer (some ⟨g9, 0, none⟩)) ∧ (b 12 = true → (m12_ : Value) = .pointer (some ⟨g9, 0, none⟩))) HT_.out HW_.out (by kernel_rfl) (by kernel_rfl) ?_ ?_ ?_
  ·
   exact ⟨0, 0, 0, 0, .bool false, .bool false, .bool false, .bool false, .bool false, .bool false, by simp only [putSel, Bool.false_eq_true, if_false], B0.out, fun h_ => absurd h_ (by decide), fun h_ => absurd h_ (by decide), fun h_ => absurd h_ (by decide), fun h_ => absurd h_ (by decide), fun h_ => absurd h_ (by decide), fun h_ => absurd h_ (by decide), fun h_ => absurd h_ (by decide), fun h_ => absurd h_ (by decide), fun h_ => absurd h_ (by decide), fun h_ => absurd h_ (by decide), fun h_ => absurd h_ (by decide), fun h_ => absurd h_ (by decide), fun h_ => absurd h_ (by decide)⟩
  ·
   skip
   clear B0; refine steps_cons ?_ ?_; rintro b a w' ⟨gm, gn, gw, g9, m3_, m6_, m9_, m10_, m11_, m12_, ha, Q_B0, Q_Zgm, Q_Zgn, Q_Zgw, Q_Nmn, Q_Nmw, Q_Nnw, Q_Z9, Q_X3_, Q_X6_, Q_X9_, Q_X10_, Q_X11_, Q_X12_⟩ hb_ hon hoff; refine ⟨_, rfl, fun K hK => ?_⟩; have e3 := q_f ha 3 rfl rfl; replace ha := aK ha; have B0 := aK Q_B0; have c0_ := blk_cell (blk_below HZ3.out B0.out) 0; have c1_ := blk_cell (blk_below HZ3.out B0.out) 1; have c2_ := blk_cell (blk_below HZ3.out B0.out) 2; refine q_v (.agg #[.int .i64 (Bn : Int), .int .i64 (Pn : Int), .int .i64 C]) (by rfl) rfl ?_ ?_; (· (go_simp; (try simp only [i64_w]); try rfl)); refine hK.out _ _ ⟨gm, gn, gw, g9, m3_, m6_, m9_, m10_, m11_, m12_, q_u ha 0 hb_ rfl rfl rfl, Q_B0, Q_Zgm, Q_Zgn, Q_Zgw, Q_Nmn, Q_Nmw, Q_Nnw, fun h0_ => q_h hoff 11 h0_, Q_X3_, Q_X6_, Q_X9_, fun h0_ => q_h hoff 10 h0_, fun h0_ => q_h hoff 11 h0_, fun h0_ => q_h hoff 12 h0_⟩; refine steps_cons ?_ ?_; rintro b a w' ⟨gm, gn, gw, g9, m3_, m6_, m9_, m10_, m11_, m12_, ha, Q_B0, Q_Zgm, Q_Zgn, Q_Zgw, Q_Nmn, Q_Nmw, Q_Nnw, Q_Z9, Q_X3_, Q_X6_, Q_X9_, Q_X10_, Q_X11_, Q_X12_⟩ hb_ hon hoff; refine ⟨_, rfl, fun K hK => ?_⟩; have e3 := q_f ha 3 rfl rfl; replace ha := aK ha; have B0 := aK Q_B0; refine q_v (.pointer (some ⟨g3, 0, none⟩)) (by rfl) rfl ?_ ?_; (· (go_simp; (try simp only [i64_w]); try rfl)); refine hK.out _ _ ⟨gm, gn, gw, g9, m3_, m6_, m9_, m10_, m11_, m12_, q_u ha 1 hb_ rfl rfl rfl, Q_B0, fun h0_ => q_h hoff 3 h0_, Q_Zgn, Q_Zgw, fun h0_ _ => q_h hoff 3 h0_, fun h0_ _ => q_h hoff 3 h0_, Q_Nnw, fun h0_ => q_h hoff 11 h0_, fun h0_ => q_h hoff 3 h0_, Q_X6_, Q_X9_, fun h0_ => q_h hoff 10 h0_, fun h0_ => q_h hoff 11 h0_, fun h0_ => q_h hoff 12 h0_⟩; refine steps_cons ?_ ?_; rintro b a w' ⟨gm, gn, gw, g9, m3_, m6_, m9_, m10_, m11_, m12_, ha, Q_B0, Q_Zgm, Q_Zgn, Q_Zgw, Q_Nmn, Q_Nmw, Q_Nnw, Q_Z9, Q_X3_, Q_X6_, Q_X9_, Q_X10_, Q_X11_, Q_X12_⟩ hb_ hon hoff; refine ⟨_, rfl, fun K hK => ?_⟩; have e20 := q_n ha hon 20 1 1 rfl; replace ha := aK ha; have B0 := aK Q_B0; have c_ := blk_cell (blk_below HZ3.out B0.out) 0; refine q_v (.int .i64 (Bn : Int)) (by rfl) rfl ?_ ?_; (· (go_simp; (try simp only [i64_w]); try rfl)); refine hK.out _ _ ⟨gm, gn, gw, g9, m3_, m6_, m9_, m10_, m11_, m12_, q_u ha 2 hb_ rfl rfl rfl, Q_B0, fun h0_ => q_h hoff 3 h0_, Q_Zgn, Q_Zgw, fun h0_ _ => q_h hoff 3 h0_, fun h0_ _ => q_h hoff 3 h0_, Q_Nnw, fun h0_ => q_h hoff 11 h0_, fun h0_ => q_h hoff 3 h0_, Q_X6_, Q_X9_, fun h0_ => q_h hoff 10 h0_, fun h0_ => q_h hoff 11 h0_, fun h0_ => q_h hoff 12 h0_⟩; refine steps_cons ?_ ?_; rintro b a w' ⟨gm, gn, gw, g9, m3_, m6_, m9_, m10_, m11_, m12_, ha, Q_B0, Q_Zgm, Q_Zgn, Q_Zgw, Q_Nmn, Q_Nmw, Q_Nnw, Q_Z9, Q_X3_, Q_X6_, Q_X9_, Q_X10_, Q_X11_, Q_X12_⟩ hb_ hon hoff; refine ⟨_, rfl, fun K hK => ?_⟩; have e21 := q_n ha hon 21 2 2 rfl; replace ha := aK ha; have B0 := aK Q_B0; have mk_ := HMB.out; refine value_ (w1 := w'.alloc (Obj.cells (madeCells #[.bool false] Bn) 4)) (v := .slice (some ⟨w'.heap.size, 0, none⟩) Bn Bn) (by rfl) rfl (by first | (go_simp; done) | (go_simp; rfl)) ?_; have hb := below_alloc (Below.refl w'.heap.size w') (Obj.cells (madeCells #[.bool false] Bn) 4); refine hK.out _ _ ⟨w'.heap.size, gn, gw, g9, (.slice (some ⟨w'.heap.size, 0, none⟩) Bn Bn), m6_, m9_, m10_, m11_, m12_, q_u ha 3 hb_ rfl rfl rfl, below_then B0.out B0.out.size hb, fun _ => ⟨heap_alloc_new w' _, B0.out.size⟩, fun h0_ => ⟨blk_below (Q_Zgn h0_).1 hb, (Q_Zgn h0_).2⟩, fun h0_ => ⟨blk_below (Q_Zgw h0_).1 hb, (Q_Zgw h0_).2⟩, fun h0_ h1_ => Nat.ne_of_gt (blk_lt (Q_Zgn h1_).1), fun h0_ h1_ => Nat.ne_of_gt (blk_lt (Q_Zgw h1_).1), Q_Nnw, fun h0_ => q_h hoff 11 h0_, fun _ => rfl, Q_X6_, Q_X9_, fun h0_ => q_h hoff 10 h0_, fun h0_ => q_h hoff 11 h0_, fun h0_ => q_h hoff 12 h0_⟩; refine steps_cons ?_ ?_; rintro b a w' ⟨gm, gn, gw, g9, m3_, m6_, m9_, m10_, m11_, m12_, ha, Q_B0, Q_Zgm, Q_Zgn, Q_Zgw, Q_Nmn, Q_Nmw, Q_Nnw, Q_Z9, Q_X3_, Q_X6_, Q_X9_, Q_X10_, Q_X11_, Q_X12_⟩ hb_ hon hoff; refine ⟨_, rfl, fun K hK => ?_⟩
   have e3 := q_f ha 3 rfl rfl; replace ha := aK ha; have B0 := aK Q_B0; refine q_v (.pointer (some ⟨g3, 0, none⟩)) (by rfl) rfl ?_ ?_; (· (go_simp; (try simp only [i64_w]); try rfl)); refine hK.out _ _ ⟨gm, gn, gw, g9, m3_, m6_, m9_, m10_, m11_, m12_, q_u ha 4 hb_ rfl rfl rfl, Q_B0, Q_Zgm, fun h0_ => q_h hoff 6 h0_, Q_Zgw, fun _ h1_ => q_h hoff 6 h1_, Q_Nmw, fun h0_ _ => q_h hoff 6 h0_, fun h0_ => q_h hoff 11 h0_, Q_X3_, fun h0_ => q_h hoff 6 h0_, Q_X9_, fun h0_ => q_h hoff 10 h0_, fun h0_ => q_h hoff 11 h0_, fun h0_ => q_h hoff 12 h0_⟩; refine steps_cons ?_ ?_; rintro b a w' ⟨gm, gn, gw, g9, m3_, m6_, m9_, m10_, m11_, m12_, ha, Q_B0, Q_Zgm, Q_Zgn, Q_Zgw, Q_Nmn, Q_Nmw, Q_Nnw, Q_Z9, Q_X3_, Q_X6_, Q_X9_, Q_X10_, Q_X11_, Q_X12_⟩ hb_ hon hoff; refine ⟨_, rfl, fun K hK => ?_⟩; have e23 := q_n ha hon 23 4 4 rfl; replace ha := aK ha; have B0 := aK Q_B0; have c_ := blk_cell (blk_below HZ3.out B0.out) 0; refine q_v (.int .i64 (Bn : Int)) (by rfl) rfl ?_ ?_; (· (go_simp; (try simp only [i64_w]); try rfl)); refine hK.out _ _ ⟨gm, gn, gw, g9, m3_, m6_, m9_, m10_, m11_, m12_, q_u ha 5 hb_ rfl rfl rfl, Q_B0, Q_Zgm, fun h0_ => q_h hoff 6 h0_, Q_Zgw, fun _ h1_ => q_h hoff 6 h1_, Q_Nmw, fun h0_ _ => q_h hoff 6 h0_, fun h0_ => q_h hoff 11 h0_, Q_X3_, fun h0_ => q_h hoff 6 h0_, Q_X9_, fun h0_ => q_h hoff 10 h0_, fun h0_ => q_h hoff 11 h0_, fun h0_ => q_h hoff 12 h0_⟩; refine steps_cons ?_ ?_; rintro b a w' ⟨gm, gn, gw, g9, m3_, m6_, m9_, m10_, m11_, m12_, ha, Q_B0, Q_Zgm, Q_Zgn, Q_Zgw, Q_Nmn, Q_Nmw, Q_Nnw, Q_Z9, Q_X3_, Q_X6_, Q_X9_, Q_X10_, Q_X11_, Q_X12_⟩ hb_ hon hoff; refine ⟨_, rfl, fun K hK => ?_⟩; have e24 := q_n ha hon 24 5 5 rfl; replace ha := aK ha; have B0 := aK Q_B0; have mk_ := HMI.out; refine value_ (w1 := w'.alloc (Obj.cells (madeCells #[.int .i64 0] Bn) 3)) (v := .slice (some ⟨w'.heap.size, 0, none⟩) Bn Bn) (by rfl) rfl (by first | (go_simp; done) | (go_simp; rfl)) ?_; have hb := below_alloc (Below.refl w'.heap.size w') (Obj.cells (madeCells #[.int .i64 0] Bn) 3); refine hK.out _ _ ⟨gm, w'.heap.size, gw, g9, m3_, (.slice (some ⟨w'.heap.size, 0, none⟩) Bn Bn), m9_, m10_, m11_, m12_, q_u ha 6 hb_ rfl rfl rfl, below_then B0.out B0.out.size hb, fun h0_ => ⟨blk_below (Q_Zgm h0_).1 hb, (Q_Zgm h0_).2⟩, fun _ => ⟨heap_alloc_new w' _, B0.out.size⟩, fun h0_ => ⟨blk_below (Q_Zgw h0_).1 hb, (Q_Zgw h0_).2⟩, fun h0_ h1_ => Nat.ne_of_lt (blk_lt (Q_Zgm h0_).1), Q_Nmw, fun h0_ h1_ => Nat.ne_of_gt (blk_lt (Q_Zgw h1_).1), fun h0_ => q_h hoff 11 h0_, Q_X3_, fun _ => rfl, Q_X9_, fun h0_ => q_h hoff 10 h0_, fun h0_ => q_h hoff 11 h0_, fun h0_ => q_h hoff 12 h0_⟩; refine steps_cons ?_ ?_; rintro b a w' ⟨gm, gn, gw, g9, m3_, m6_, m9_, m10_, m11_, m12_, ha, Q_B0, Q_Zgm, Q_Zgn, Q_Zgw, Q_Nmn, Q_Nmw, Q_Nnw, Q_Z9, Q_X3_, Q_X6_, Q_X9_, Q_X10_, Q_X11_, Q_X12_⟩ hb_ hon hoff; refine ⟨_, rfl, fun K hK => ?_⟩; have e3 := q_f ha 3 rfl rfl; replace ha := aK ha; have B0 := aK Q_B0; refine q_v (.pointer (some ⟨g3, 0, none⟩)) (by rfl) rfl ?_ ?_; (· (go_simp; (try simp only [i64_w]); try rfl)); refine hK.out _ _ ⟨gm, gn, gw, g9, m3_, m6_, m9_, m10_, m11_, m12_, q_u ha 7 hb_ rfl rfl rfl, Q_B0, Q_Zgm, Q_Zgn, fun h0_ => q_h hoff 9 h0_, Q_Nmn, fun _ h1_ => q_h hoff 9 h1_, fun _ h1_ => q_h hoff 9 h1_, fun h0_ => q_h hoff 11 h0_, Q_X3_, Q_X6_, fun h0_ => q_h hoff 9 h0_, fun h0_ => q_h hoff 10 h0_, fun h0_ => q_h hoff 11 h0_, fun h0_ => q_h hoff 12 h0_⟩; refine steps_cons ?_ ?_; rintro b a w' ⟨gm, gn, gw, g9, m3_, m6_, m9_, m10_, m11_, m12_, ha, Q_B0, Q_Zgm, Q_Zgn, Q_Zgw, Q_Nmn, Q_Nmw, Q_Nnw, Q_Z9, Q_X3_, Q_X6_, Q_X9_, Q_X10_, Q_X11_, Q_X12_⟩ hb_ hon hoff; refine ⟨_, rfl, fun K hK => ?_⟩; have e26 := q_n ha hon 26 7 7 rfl; replace ha := aK ha; have B0 := aK Q_B0; have c_ := blk_cell (blk_below HZ3.out B0.out) 0; refine q_v (.int .i64 (Bn : Int)) (by rfl) rfl ?_ ?_; (· (go_simp; (try simp only [i64_w]); try rfl)); refine hK.out _ _ ⟨gm, gn, gw, g9, m3_, m6_, m9_, m10_, m11_, m12_, q_u ha 8 hb_ rfl rfl rfl, Q_B0, Q_Zgm, Q_Zgn, fun h0_ => q_h hoff 9 h0_, Q_Nmn, fun _ h1_ => q_h hoff 9 h1_, fun _ h1_ => q_h hoff 9 h1_, fun h0_ => q_h hoff 11 h0_, Q_X3_, Q_X6_, fun h0_ => q_h hoff 9 h0_, fun h0_ => q_h hoff 10 h0_, fun h0_ => q_h hoff 11 h0_, fun h0_ => q_h hoff 12 h0_⟩
   refine steps_cons ?_ ?_; rintro b a w' ⟨gm, gn, gw, g9, m3_, m6_, m9_, m10_, m11_, m12_, ha, Q_B0, Q_Zgm, Q_Zgn, Q_Zgw, Q_Nmn, Q_Nmw, Q_Nnw, Q_Z9, Q_X3_, Q_X6_, Q_X9_, Q_X10_, Q_X11_, Q_X12_⟩ hb_ hon hoff; refine ⟨_, rfl, fun K hK => ?_⟩; have e27 := q_n ha hon 27 8 8 rfl; replace ha := aK ha; have B0 := aK Q_B0; have mk_ := HMI.out; refine value_ (w1 := w'.alloc (Obj.cells (madeCells #[.int .i64 0] Bn) 3)) (v := .slice (some ⟨w'.heap.size, 0, none⟩) Bn Bn) (by rfl) rfl (by first | (go_simp; done) | (go_simp; rfl)) ?_; have hb := below_alloc (Below.refl w'.heap.size w') (Obj.cells (madeCells #[.int .i64 0] Bn) 3); refine hK.out _ _ ⟨gm, gn, w'.heap.size, g9, m3_, m6_, (.slice (some ⟨w'.heap.size, 0, none⟩) Bn Bn), m10_, m11_, m12_, q_u ha 9 hb_ rfl rfl rfl, below_then B0.out B0.out.size hb, fun h0_ => ⟨blk_below (Q_Zgm h0_).1 hb, (Q_Zgm h0_).2⟩, fun h0_ => ⟨blk_below (Q_Zgn h0_).1 hb, (Q_Zgn h0_).2⟩, fun _ => ⟨heap_alloc_new w' _, B0.out.size⟩, Q_Nmn, fun h0_ h1_ => Nat.ne_of_lt (blk_lt (Q_Zgm h0_).1), fun h0_ h1_ => Nat.ne_of_lt (blk_lt (Q_Zgn h0_).1), fun h0_ => q_h hoff 11 h0_, Q_X3_, Q_X6_, fun _ => rfl, fun h0_ => q_h hoff 10 h0_, fun h0_ => q_h hoff 11 h0_, fun h0_ => q_h hoff 12 h0_⟩; refine steps_cons ?_ ?_; rintro b a w' ⟨gm, gn, gw, g9, m3_, m6_, m9_, m10_, m11_, m12_, ha, Q_B0, Q_Zgm, Q_Zgn, Q_Zgw, Q_Nmn, Q_Nmw, Q_Nnw, Q_Z9, Q_X3_, Q_X6_, Q_X9_, Q_X10_, Q_X11_, Q_X12_⟩ hb_ hon hoff; refine ⟨_, rfl, fun K hK => ?_⟩; have e19 := q_n ha hon 19 0 0 rfl; have e22 := q_n ha hon 22 3 3 rfl; rw [Q_X3_ (hon 3 (by kernel_rfl))] at e22; have e25 := q_n ha hon 25 6 6 rfl; rw [Q_X6_ (hon 6 (by kernel_rfl))] at e25; have e28 := q_n ha hon 28 9 9 rfl; rw [Q_X9_ (hon 9 (by kernel_rfl))] at e28; replace ha := aK ha; have B0 := aK Q_B0; have Zgm := aK (Q_Zgm (hon 3 (by kernel_rfl))); have Zgn := aK (Q_Zgn (hon 6 (by kernel_rfl))); have Zgw := aK (Q_Zgw (hon 9 (by kernel_rfl))); have Nmn := aK (Q_Nmn (hon 3 (by kernel_rfl)) (hon 6 (by kernel_rfl))); have Nmw := aK (Q_Nmw (hon 3 (by kernel_rfl)) (hon 9 (by kernel_rfl))); have Nnw := aK (Q_Nnw (hon 6 (by kernel_rfl)) (hon 9 (by kernel_rfl))); refine q_v (.agg #[.int .i64 (Bn : Int), .int .i64 (Pn : Int), .int .i64 C, .slice (some ⟨gm, 0, none⟩) Bn Bn, .slice none 0 0, .slice (some ⟨gn, 0, none⟩) Bn Bn, .slice (some ⟨gw, 0, none⟩) Bn Bn, .slice none 0 0, .int .i64 0, .bool false]) (by rfl) rfl ?_ ?_; (· (go_simp; (try simp only [i64_w]); try rfl)); refine hK.out _ _ ⟨gm, gn, gw, g9, m3_, m6_, m9_, (.agg #[.int .i64 (Bn : Int), .int .i64 (Pn : Int), .int .i64 C, .slice (some ⟨gm, 0, none⟩) Bn Bn, .slice none 0 0, .slice (some ⟨gn, 0, none⟩) Bn Bn, .slice (some ⟨gw, 0, none⟩) Bn Bn, .slice none 0 0, .int .i64 0, .bool false]), m11_, m12_, q_u ha 10 hb_ rfl rfl rfl, Q_B0, Q_Zgm, Q_Zgn, Q_Zgw, Q_Nmn, Q_Nmw, Q_Nnw, fun h0_ => q_h hoff 11 h0_, Q_X3_, Q_X6_, Q_X9_, fun _ => rfl, fun h0_ => q_h hoff 11 h0_, fun h0_ => q_h hoff 12 h0_⟩; refine steps_cons ?_ ?_; rintro b a w' ⟨gm, gn, gw, g9, m3_, m6_, m9_, m10_, m11_, m12_, ha, Q_B0, Q_Zgm, Q_Zgn, Q_Zgw, Q_Nmn, Q_Nmw, Q_Nnw, Q_Z9, Q_X3_, Q_X6_, Q_X9_, Q_X10_, Q_X11_, Q_X12_⟩ hb_ hon hoff; refine ⟨_, rfl, fun K hK => ?_⟩; have e29 := q_n ha hon 29 10 10 rfl; rw [Q_X10_ (hon 10 (by kernel_rfl))] at e29; replace ha := aK ha; have B0 := aK Q_B0; have Zgm := aK (Q_Zgm (hon 3 (by kernel_rfl))); have Zgn := aK (Q_Zgn (hon 6 (by kernel_rfl))); have Zgw := aK (Q_Zgw (hon 9 (by kernel_rfl))); have Nmn := aK (Q_Nmn (hon 3 (by kernel_rfl)) (hon 6 (by kernel_rfl))); have Nmw := aK (Q_Nmw (hon 3 (by kernel_rfl)) (hon 9 (by kernel_rfl))); have Nnw := aK (Q_Nnw (hon 6 (by kernel_rfl)) (hon 9 (by kernel_rfl))); refine value_ (w1 := w'.alloc (Obj.cells #[.int .i64 (Bn : Int), .int .i64 (Pn : Int), .int .i64 C, .slice (some ⟨gm, 0, none⟩) Bn Bn, .slice none 0 0, .slice (some ⟨gn, 0, none⟩) Bn Bn, .slice (some ⟨gw, 0, none⟩) Bn Bn, .slice none 0 0, .int .i64 0, .bool false] 109)) (v := .pointer (some ⟨w'.heap.size, 0, none⟩)) (by rfl) rfl (by first | (go_simp; done) | (go_simp; rfl)) ?_
   have hb := below_alloc (Below.refl w'.heap.size w') (Obj.cells #[.int .i64 (Bn : Int), .int .i64 (Pn : Int), .int .i64 C, .slice (some ⟨gm, 0, none⟩) Bn Bn, .slice none 0 0, .slice (some ⟨gn, 0, none⟩) Bn Bn, .slice (some ⟨gw, 0, none⟩) Bn Bn, .slice none 0 0, .int .i64 0, .bool false] 109); refine hK.out _ _ ⟨gm, gn, gw, w'.heap.size, m3_, m6_, m9_, m10_, (.pointer (some ⟨w'.heap.size, 0, none⟩)), m12_, q_u ha 11 hb_ rfl rfl rfl, below_then B0.out B0.out.size hb, fun _ => ⟨blk_below Zgm.out.1 hb, Zgm.out.2⟩, fun _ => ⟨blk_below Zgn.out.1 hb, Zgn.out.2⟩, fun _ => ⟨blk_below Zgw.out.1 hb, Zgw.out.2⟩, Q_Nmn, Q_Nmw, Q_Nnw, fun _ => ⟨heap_alloc_new w' _, B0.out.size, Nat.ne_of_lt (blk_lt Zgm.out.1), Nat.ne_of_lt (blk_lt Zgn.out.1), Nat.ne_of_lt (blk_lt Zgw.out.1)⟩, Q_X3_, Q_X6_, Q_X9_, Q_X10_, fun _ => rfl, fun h0_ => q_h hoff 12 h0_⟩; refine steps_cons ?_ ?_; rintro b a w' ⟨gm, gn, gw, g9, m3_, m6_, m9_, m10_, m11_, m12_, ha, Q_B0, Q_Zgm, Q_Zgn, Q_Zgw, Q_Nmn, Q_Nmw, Q_Nnw, Q_Z9, Q_X3_, Q_X6_, Q_X9_, Q_X10_, Q_X11_, Q_X12_⟩ hb_ hon hoff; refine ⟨_, rfl, fun K hK => ?_⟩; have e30 := q_n ha hon 30 11 11 rfl; rw [Q_X11_ (hon 11 (by kernel_rfl))] at e30; replace ha := aK ha; have B0 := aK Q_B0; have Zgm := aK (Q_Zgm (hon 3 (by kernel_rfl))); have Zgn := aK (Q_Zgn (hon 6 (by kernel_rfl))); have Zgw := aK (Q_Zgw (hon 9 (by kernel_rfl))); have Nmn := aK (Q_Nmn (hon 3 (by kernel_rfl)) (hon 6 (by kernel_rfl))); have Nmw := aK (Q_Nmw (hon 3 (by kernel_rfl)) (hon 9 (by kernel_rfl))); have Nnw := aK (Q_Nnw (hon 6 (by kernel_rfl)) (hon 9 (by kernel_rfl))); have Z9 := aK (Q_Z9 (hon 11 (by kernel_rfl))); refine q_v (.pointer (some ⟨g9, 0, none⟩)) (by rfl) rfl ?_ ?_; (· (go_simp; (try simp only [i64_w]); try rfl)); refine hK.out _ _ ⟨gm, gn, gw, g9, m3_, m6_, m9_, m10_, m11_, (.pointer (some ⟨g9, 0, none⟩)), q_u ha 12 hb_ rfl rfl rfl, Q_B0, Q_Zgm, Q_Zgn, Q_Zgw, Q_Nmn, Q_Nmw, Q_Nnw, Q_Z9, Q_X3_, Q_X6_, Q_X9_, Q_X10_, Q_X11_, fun _ => rfl⟩; exact steps_nil
  rintro b a w4 hall ⟨gm, gn, gw, g9, m3_, m6_, m9_, m10_, m11_, m12_, ha, Q_B0, Q_Zgm, Q_Zgn, Q_Zgw, Q_Nmn, Q_Nmw, Q_Nnw, Q_Z9, Q_X3_, Q_X6_, Q_X9_, Q_X10_, Q_X11_, Q_X12_⟩; clear B0; subst ha; obtain rfl := Q_X3_ (hall 3 (by kernel_rfl)); obtain rfl := Q_X6_ (hall 6 (by kernel_rfl)); obtain rfl := Q_X9_ (hall 9 (by kernel_rfl)); obtain rfl := Q_X10_ (hall 10 (by kernel_rfl)); obtain rfl := Q_X11_ (hall 11 (by kernel_rfl)); obtain rfl := Q_X12_ (hall 12 (by kernel_rfl)); rw [q_a hall]; rotate_left
  ·
   kernel_rfl
  simp only [List.foldl_cons, List.foldl_nil, Act.put, List.setIfInBounds_toArray, List.set_cons_zero, List.set_cons_succ]; have B0 := aK Q_B0; clear Q_B0; have Zgm := aK (Q_Zgm (hall 3 (by kernel_rfl))); clear Q_Zgm; have Zgn := aK (Q_Zgn (hall 6 (by kernel_rfl))); clear Q_Zgn; have Zgw := aK (Q_Zgw (hall 9 (by kernel_rfl))); clear Q_Zgw; have Nmn := aK (Q_Nmn (hall 3 (by kernel_rfl)) (hall 6 (by kernel_rfl))); clear Q_Nmn; have Nmw := aK (Q_Nmw (hall 3 (by kernel_rfl)) (hall 9 (by kernel_rfl))); clear Q_Nmw; have Nnw := aK (Q_Nnw (hall 6 (by kernel_rfl)) (hall 9 (by kernel_rfl))); clear Q_Nnw; have Z9 := aK (Q_Z9 (hall 11 (by kernel_rfl))); clear Q_Z9; clear hall; have HB4 := aK (below_then HB3.out HB3.out.size B0.out); have HZ4 := aK (blk_below HZ3.out B0.out); have HG3S : Aside0 (g3 < w3.heap.size ∧ W.heap.size ≤ w3.heap.size) := ⟨blk_lt HZ3.out, HB3.out.size⟩; clear B0 HMB HMI HZ3 HB3; go_wp2_with fail
  go_loopg [33] (bad.length + 1) (fun kq v33 w' => ∃ i : Nat, v33 = .int .i64 (i : Int) ∧ Aside0 (i ≤ bad.length ∧ kq + i = bad.length + 1) ∧ Aside0 (Cells w' gm 4 (marksTo Bn bad i)) ∧ Aside0 (Turn w4 w' (fun k => k = gm)))
  case atStart => exact ⟨0, rfl, ⟨Nat.zero_le _, rfl⟩, ⟨by rw [marksTo_zero]; exact made_cells _ _ Zgm.out.1⟩, ⟨Turn.refl _ _⟩⟩
  case round =>
   obtain ⟨i, rfl, HI, HC, HT⟩ := hrel; by_cases hi : i < bad.length
   case neg =>
    have t1 : decide ((i : Int) < (bad.length : Int)) = false := decide_eq_false (by omega); have t2 : decide (i < bad.length) = false := decide_eq_false (by omega); have hie : i = bad.length := by have := HI.out.1; omega
    have hM := HC.out; have e0 : marksTo Bn bad bad.length = marks (newDv (Bn : Int) (Pn : Int) C bad fs) := marksTo_all (B := (Bn : Int)) (P := (Pn : Int)) (C := C) (fs := fs); rw [hie, e0] at hM; clear e0; have hB5 : Below W.heap.size W wr := HT.out.to_below HB4.out HB4.out.size (fun k hk => by have := Zgm.out.2; have := HG3S.out.2; omega); have hz3 := blk_turn HZ4.out HT.out (fun e => by have := Zgm.out.2; have := HG3S.out.1; omega); have hz9 := blk_turn Z9.out.1 HT.out (fun e => Z9.out.2.2.1 e.symm); have hzn := blk_turn Zgn.out.1 HT.out (fun e => Nmn.out e.symm); have hzw := blk_turn Zgw.out.1 HT.out (fun e => Nmw.out e.symm); clear hi hie HI HC HT; generalize wr = W5 at hM hB5 hz3 hz9 hzn hzw ⊢; have HM5 := aK hM; have HB5 := aK hB5; have Z3_5 := aK hz3; have Z9_5 := aK hz9; have Zn_5 := aK hzn; have Zw_5 := aK hzw; obtain ⟨NP, hNP⟩ : ∃ x, x = Bn * Pn := ⟨_, rfl⟩; have hNI : (NP : Int) = (Bn : Int) * (Pn : Int) := by rw [hNP, Int.natCast_mul]
    have hNL : NP ≤ 34 * 32 := by rw [hNP]; exact Nat.mul_le_mul (by have := HGM.out; omega) (by have := HGM.out; omega)
    have HNP := aK (And.intro hNI hNL); obtain ⟨hw1, hw2⟩ := wrap_id (x := (Bn : Int) * (Pn : Int)) (by omega) (by omega); rw [← hNI] at hw1 hw2; have hw1' : IntKind.i64.wrap ((Bn : Int) * (Pn : Int)) = (NP : Int) := by rw [← hNI]; exact hw1
    have hw2' : wrap64 ((Bn : Int) * (Pn : Int)) = (NP : Int) := by rw [← hNI]; exact hw2
    have z0 := blk_cell hz3 0; have z1 := blk_cell hz3 1; clear hw1 hw2 hM hB5 hz3 hz9 hzn hzw hNP hNI hNL HB4 HZ4; go_wp2_with fail; clear hw1' hw2' z0 z1 t1 t2
    go_loopg [57] (NP + 1) (fun kq v57 w' => ∃ j : Nat, v57 = .int .i64 (j : Int) ∧ Aside0 (j ≤ NP ∧ kq + j = NP + 1) ∧ ∃ vp vs, Aside0 (w'.heap[g9]? = some (.cells #[.int .i64 (Bn : Int), .int .i64 (Pn : Int), .int .i64 C, .slice (some ⟨gm, 0, none⟩) Bn Bn, vp, .slice (some ⟨gn, 0, none⟩) Bn Bn, .slice (some ⟨gw, 0, none⟩) Bn Bn, .slice none 0 0, .int .i64 0, .bool false] 109 (0, 0))) ∧ Aside0 (w'.ownsRow W5.heap.size 38 1 vp j vs ∧ Pages w' (okv W5 vp) vs (List.replicate j (List.replicate 256 255))) ∧ Aside0 (Turn W5 w' (fun k => k = g9)))
    case atStart => exact ⟨0, rfl, ⟨Nat.zero_le _, rfl⟩, .slice none 0 0, [], Z9_5, ⟨World.ownsRow_nil _ _ _ _, rfl, fun i v l hv _ => by simp at hv⟩, ⟨Turn.refl _ _⟩⟩
    case round =>
     obtain ⟨j, rfl, HJ, vp, vs, Z9r, HP, HTr⟩ := hrel; by_cases hj : j < NP
     case neg =>
      have t1 : decide ((j : Int) < (NP : Int)) = false := decide_eq_false (by omega); have t2 : decide (j < NP) = false := decide_eq_false (by omega); obtain rfl : j = NP := by have := HJ.out.1; omega
      have hnp : 0 < j := by have := HNP.out.1; have := HGM.out; have h8 : 8 * (Pn : Int) ≤ (Bn : Int) * (Pn : Int) := Int.mul_le_mul_of_nonneg_right (by omega) (by omega); omega
      obtain ⟨gp, cp, rfl, hgp, hgp2⟩ := HP.out.1.form hnp; have hB6 : Below W.heap.size W wr := HTr.out.to_below HB5.out HB5.out.size (fun k hk => by have := Z9.out.2.1; have := HG3S.out.2; omega); have hM6 := HM5.out.turn HTr.out (fun e => Z9.out.2.2.1 e); have hzn := blk_turn Zn_5.out HTr.out (fun e => Z9.out.2.2.2.1 e); have hzw := blk_turn Zw_5.out HTr.out (fun e => Z9.out.2.2.2.2 e); have HLT9 : Aside0 (g9 < W5.heap.size ∧ gm < W5.heap.size ∧ gn < W5.heap.size ∧ gw < W5.heap.size ∧ W5.heap.size ≤ gp ∧ W.heap.size ≤ W5.heap.size) := ⟨blk_lt Z9_5.out, HM5.out.lt, blk_lt Zn_5.out, blk_lt Zw_5.out, hgp, HB5.out.size⟩; have hz9 := Z9r.out; have hP := HP.out; clear hnp hgp HP HTr HJ hj Z9r; generalize wr = W6 at hB6 hM6 hzn hzw hz9 hP hgp2 ⊢; have HB6 := aK hB6; have HM6 := aK hM6; have Zn_6 := aK hzn; have Zw_6 := aK hzw; have Z9_6 := aK hz9; have HP6 := aK hP; have HGP6 := aK hgp2; clear hB6 hM6 hzn hzw hz9 hP hgp2 HM5 HB5 Z3_5 Z9_5 Zn_5 Zw_5; go_wp2_with fail; clear t1 t2
      go_loopg [72] (fs.length + 1) (fun kq v72 w' => ∃ i : Nat, v72 = .int .i64 (i : Int) ∧ Aside0 (i ≤ fs.length ∧ kq + i = fs.length + 1) ∧ ∃ (vf : Value) (ps : List Fp), Aside0 (ps.map (·.1) = fs.take i) ∧ Aside0 (w'.heap[g9]? = some (.cells #[.int .i64 (Bn : Int), .int .i64 (Pn : Int), .int .i64 C, .slice (some ⟨gm, 0, none⟩) Bn Bn, .slice (some ⟨gp, 0, none⟩) j cp, .slice (some ⟨gn, 0, none⟩) Bn Bn, .slice (some ⟨gw, 0, none⟩) Bn Bn, vf, .int .i64 0, .bool false] 109 (0, 0))) ∧ Aside0 (w'.ownsRow W6.heap.size 65 3 vf i (ps.flatMap encF) ∧ FRow w' (okw W6 vf) ps) ∧ Aside0 (Turn W6 w' (fun k => k = g9)))
      case atStart => exact ⟨0, rfl, ⟨Nat.zero_le _, rfl⟩, .slice none 0 0, [], ⟨rfl⟩, Z9_6, ⟨World.ownsRow_nil _ _ _ _, fun p hp => by simp at hp⟩, ⟨Turn.refl _ _⟩⟩
      case round =>
       obtain ⟨i, rfl, HI, vf, ps, HPS, Z9r, HF, HTr⟩ := hrel; by_cases hi : i < fs.length
       case neg =>
        have t1 : decide ((i : Int) < (fs.length : Int)) = false := decide_eq_false (by omega); have t2 : decide (i < fs.length) = false := decide_eq_false (by omega); have hie : i = fs.length := by have := HI.out.1; omega
        have hps : ps.map (·.1) = fs := by have := HPS.out; rwa [hie, List.take_length] at this
        have hpl : ps.length = fs.length := by rw [← hps, List.length_map]
        have ho : wr.ownsRow W6.heap.size 65 3 vf ps.length (ps.flatMap encF) := by rw [hpl, ← hie]; exact HF.out.1
        have hro : FRow wr (fun k => W6.heap.size ≤ k) ps := fun p hp => ⟨(HF.out.2 p hp).1, Kd.F_mono (HF.out.2 p hp).2 (fun k hk => hk.1)⟩; obtain ⟨Af', cf', rfl, hcf, hFF⟩ := faults_F ho hro (fun k hk => own_base ho k hk) (by rw [hpl]; exact HIN.out.2.2.2.1); rw [hps] at hFF; rw [hpl] at hFF hcf; have hBW : Below W.heap.size W wr := HTr.out.to_below HB6.out HB6.out.size (fun k hk => by have := Z9.out.2.1; have := HG3S.out.2; omega); have h6 := HB6.out.size; have hlt := HLT9.out; have hsn := blk_lt Zn_6.out; have hsw := blk_lt Zw_6.out; have hs9 := blk_lt Z9_6.out; have hg6 := HGP6.out; have hpn : ((Bn : Int) * (Pn : Int)).toNat = j := by rw [← HNP.out.1]; exact Int.toNat_natCast _
        have hw : W.heap.size ≤ g9 ∧ W.heap.size ≤ gm ∧ W.heap.size ≤ gn ∧ W.heap.size ≤ gw := ⟨Nat.le_trans HG3S.out.2 Z9.out.2.1, Nat.le_trans HG3S.out.2 Zgm.out.2, Nat.le_trans HG3S.out.2 Zgn.out.2, Nat.le_trans HG3S.out.2 Zgw.out.2⟩; have e9 := Z9.out.2.2; have emn := Nmn.out; have emw := Nmw.out; have enw := Nnw.out; obtain ⟨L, hL⟩ : ∃ L : Lay, L = ⟨g9, gm, gp, gn, gw, Bn, cp, Bn, Bn, Af', cf'⟩ := ⟨_, rfl⟩; have hS : ∀ k, L.S k ↔ (k = g9 ∨ k = gp ∨ k = gn ∨ k = gw) := fun k => by rw [hL]; exact Iff.rfl
        have hDV : DV wr (fun k => W.heap.size ≤ k ∧ ¬ L.S k) L (newDv (Bn : Int) (Pn : Int) C bad fs) := {
         top := by
          rw [hL]; have := Z9r.out; rw [hpl] at this; rw [this]; unfold Lay.top; rw [marks_len]
          show some (Obj.cells #[_, _, _, _, _, _, _, _, _, _] _ _) = some (Obj.cells #[.int .i64 (Bn : Int), .int .i64 (Pn : Int), .int .i64 C, .slice (some ⟨gm, 0, none⟩) (Bn : Int).toNat Bn, .slice (some ⟨gp, 0, none⟩) (List.replicate ((Bn : Int) * (Pn : Int)).toNat (List.replicate 256 (255 : Int))).length cp, .slice (some ⟨gn, 0, none⟩) (List.replicate (Bn : Int).toNat (0 : Int)).length Bn, .slice (some ⟨gw, 0, none⟩) (List.replicate (Bn : Int).toNat (0 : Int)).length Bn, .slice Af' fs.length cf', .int .i64 0, .bool false] _ _)
          rw [List.length_replicate, List.length_replicate, hpn]; rfl
         nx := by
          rw [hL]; have := made_cells _ _ (blk_turn Zn_6.out HTr.out (fun e => e9.2.1 e))
          show Cells wr gn _ ((List.replicate (Bn : Int).toNat (0 : Int)).map (Value.int .i64))
          rw [List.map_replicate]; exact this
         we := by
          rw [hL]; have := made_cells _ _ (blk_turn Zw_6.out HTr.out (fun e => e9.2.2 e))
          show Cells wr gw _ ((List.replicate (Bn : Int).toNat (0 : Int)).map (Value.int .i64))
          rw [List.map_replicate]; exact this
         pg := by
          refine ⟨vs, by rw [hL]; exact (Cells.of_own HP6.out.1).turn HTr.out (fun e => by have e' : gp = g9 := e; omega), ?_⟩
          show Pages wr _ vs (List.replicate ((Bn : Int) * (Pn : Int)).toNat (List.replicate 256 255))
          rw [hpn]; refine (HP6.out.2.step (fun k hk hl => HTr.out.block k hl (fun e => by have e' : k = g9 := e; have := hk.1; omega))).mono (fun k hk => ⟨Nat.le_trans hlt.2.2.2.2.2 hk.1, fun hs => ?_⟩); have h1 := hk.1
          rcases (hS k).1 hs with e | e | e | e
          ·
           omega
          ·
           exact hk.2 (by rw [e]; rfl)
          ·
           omega
          ·
           omega
         mb := by rw [hL]; exact HM6.out.turn HTr.out (fun e => e9.1 e)
         fl := by
          rw [hL]; exact ⟨Kd.F_mono hFF (fun k hk => ⟨Nat.le_trans h6 hk, fun hs => by
           have hk' : W6.heap.size ≤ k := hk; rw [← hL] at hs
           rcases (hS k).1 hs with e | e | e | e <;> omega⟩), hcf⟩
         ne := by rw [hL]; exact ⟨by show gp ≠ g9; omega, fun e => e9.2.1 e, fun e => e9.2.2 e, by show gp ≠ gn; omega, by show gp ≠ gw; omega, enw⟩
         nm := fun hs => by
          rcases (hS L.gm).1 hs with e | e | e | e <;> rw [hL] at e
          ·
           exact e9.1 e
          ·
           have e' : gm = gp := e; omega
          ·
           exact emn e
          ·
           exact emw e
         no := fun k hk _ => hk.2
         ok := newDv_ok HRG.out HIN.out.2.2.1 HIN.out.2.2.2.1 HIN.out.2.2.2.2 }
        have hLL : ∀ k, L.S k ∨ k = L.gm → W.heap.size ≤ k := fun k hk => by
         rcases hk with hk | hk
         ·
          rcases (hS k).1 hk with e | e | e | e <;> omega
         ·
          rw [hk, hL]; exact hw.2.1
        have hLg : L.g = g9 := by rw [hL]
        have HFIN := aK (And.intro hBW (And.intro hDV (And.intro hLL hLg))); clear hi hie hps hpl ho hro hcf hFF hBW h6 hlt hsn hsw hs9 hg6 hpn hw e9 emn emw enw hL hS hDV hLL hLg; go_wp2_with fail; go_ret2; refine ⟨HFIN.out.1, ⟨fun _ => ⟨L, ?_, HFIN.out.2.1, HFIN.out.2.2.1⟩, fun h => ?_⟩⟩
        ·
         rw [HFIN.out.2.2.2]; rfl
        ·
         rw [HRG.out] at h; cases h
       case pos =>
        have t1 : decide ((i : Int) < (fs.length : Int)) = true := decide_eq_true (by omega); have t2 : decide (i < fs.length) = true := decide_eq_true (by omega); have p1 := eq_true (show (0 : Int) ≤ (i : Int) by omega); have q1 := eq_true (show (i : Int) < (fs.length : Int) by omega); obtain ⟨hw5, hw6⟩ := wrap_id (x := (i : Int) + 1) (by omega) (by have := HIN.out.2.2.2.1; omega); have HI2 := aK hi; have hBW : Below W.heap.size W wr := HTr.out.to_below HB6.out HB6.out.size (fun k hk => by have := Z9.out.2.1; have := HG3S.out.2; omega); obtain ⟨ad, A2, c2, hA, hx0, hx1, hx2, l2, g2⟩ := at_T65 (Kd.C_below HIN.out.2.1 hBW) (i : Int) (by omega) (by omega); obtain ⟨x, hx⟩ : ∃ x, x = rd_T65 fs (i : Int) := ⟨_, rfl⟩; rw [← hx] at hx0 hx1 hx2 l2 g2; rw [Int.toNat_natCast] at hx0 hx1 hx2; have hxe : fs[i]? = some x := by
         rw [hx]; unfold rd_T65; rw [Int.toNat_natCast, List.getD_eq_getElem?_getD, List.getElem?_eq_getElem hi]; rfl
        have HXE := aK hxe; have HML : Aside0 (x.f2.length ≤ 1000) := ⟨(HIN.out.2.2.2.2 x (List.mem_of_getElem? hxe)).2⟩; have HAA := aK hA; rw [hA]; have hz13 := heap_alloc_new wr (.cells #[.int .i64 x.f0, .int .i64 x.f1, .slice A2 x.f2.length c2] 65); have hb13 := below_alloc (Below.refl wr.heap.size wr) (.cells #[.int .i64 x.f0, .int .i64 x.f1, .slice A2 x.f2.length c2] 65); have hg13 := Kd.C_below g2 hb13; clear hA hx hxe l2 g2 hBW hi; go_upto_region 18 with fail; rw [show (some ad : Option Addr) = Af from HAA.out.symm]; generalize wr.alloc (.cells #[.int .i64 x.f0, .int .i64 x.f1, .slice A2 x.f2.length c2] 65) = W18 at hz13 hb13 hg13 ⊢; obtain ⟨g13, hgg⟩ : ∃ g, g = wr.heap.size := ⟨_, rfl⟩; rw [← hgg] at hz13 ⊢; obtain ⟨v78, w78, hr, ho, hb⟩ := bytes_copy (c := c2) hg13 HML.out; obtain ⟨A78, c78, rfl, hc78, hF78⟩ := own_F ho; have HR := aK hr; have hZ13 := blk_below hz13 hb; have H13 := aK (blk_put hZ13 2 (.slice A78 x.f2.length c78) rfl); have hbw := hb13.trans (hb.mono hb13.size); have hF := Kd.F_step (W1 := w78.setCell ⟨g13, 2, none⟩ (.slice A78 x.f2.length c78)) hF78 (fun k hk _ => Below.heap_setCell w78 ⟨g13, 2, none⟩ _ k (fun e => by have h1_ : W18.heap.size ≤ k := hk; have h2_ := blk_lt hz13; have e' : k = g13 := e; omega)); have hB19 : Below wr.heap.size wr (w78.setCell ⟨g13, 2, none⟩ (.slice A78 x.f2.length c78)) := hbw.setCell (p := ⟨g13, 2, none⟩) (Nat.le_of_eq hgg.symm) _; have HMK : Aside0 (x.f2.length ≤ c78 ∧ Kd.F (Kd.int .u8) (w78.setCell ⟨g13, 2, none⟩ (.slice A78 x.f2.length c78)) (okw W6 vf) A78 x.f2.length x.f2) := ⟨hc78, Kd.F_mono hF (fun k hk => by
         have h1_ : W18.heap.size ≤ k := hk; have h2_ := hb13.size; exact ⟨Nat.le_trans HTr.out.size (Nat.le_trans h2_ h1_), fun e => by have := own_lt HF.out.1 k e.symm; omega⟩)⟩
        have d2 : W18.cell? ⟨g13, 2, none⟩ = some (.slice A2 x.f2.length c2) := blk_cell hz13 2; have e2 : w78.cell? ⟨g13, 2, none⟩ = some (.slice A2 x.f2.length c2) := blk_cell hZ13 2; have ff := blk_frozen hZ13 2; clear hr ho hb hc78 hF78 hF hz13 hb13 hg13 hZ13 hbw hgg; go_upto_region 19 with (at_builtin; refine app_wp rfl _ _ 38 rfl rfl rfl HR.out ?_; clear d2); have T0 : Aside0 (Turn W6 (w78.setCell ⟨g13, 2, none⟩ (.slice A78 x.f2.length c78)) (fun k => k = g9)) := ⟨HTr.out.below hB19⟩; have Z9' := aK (blk_below Z9r.out hB19); have OR := aK (pw_own_below HF.out.1 hB19); have PG := aK (HF.out.2.step (fun k _ hl => hB19.block k hl)); clear e2 ff HR hB19 Z9r HF HTr; generalize w78.setCell ⟨g13, 2, none⟩ (.slice A78 x.f2.length c78) = W19 at T0 Z9' OR PG H13 HMK ⊢; replace T0 := aK (T0.out.below (below_drew1 (Below.refl _ _))); replace Z9' := aK (blk_drew Z9'.out); have OR : Aside0 (W19.drew.ownsRow W6.heap.size 65 3 vf i (ps.flatMap encF)) := ⟨World.ownsRow.drew OR.out⟩; have PG : Aside0 (FRow W19.drew (okw W6 vf) ps) := ⟨PG.out.step (fun _ _ _ => rfl)⟩; have H13 := aK (blk_drew H13.out); have HMK : Aside0 (x.f2.length ≤ c78 ∧ Kd.F (Kd.int .u8) W19.drew (okw W6 vf) A78 x.f2.length x.f2) := ⟨HMK.out.1, Kd.F_step HMK.out.2 (fun _ _ _ => rfl)⟩; have HLG : Aside0 (g9 < W6.heap.size) := ⟨blk_lt Z9_6.out⟩; clear t1 t2 p1 q1 hx0 hx1 hx2; refine start_ (n := 11) (S := fun w' => True) (ds := []) #[false, false, false, false, false, false, false, false, false, false, false] (by kernel_rfl) rfl rfl trivial (fun hHeld => ?_); refine with_tabW new19.tab19 new19.bits19 (fun HT_ HW_ => ?_); generalize W19.drew = wq at T0 Z9' OR PG HMK H13 hHeld ⊢; refine inv_at [0, 1, 2, 3, 4, 5, 6, 7, 8, 9, 10] (fun a0_ b a w' => ∃ (gx : Nat) (A87 : Option Addr) (c87 : Nat) (m6_ : Value) (m7_ : Value), a = putSel a0_ b [(0, 80, .pointer (some ⟨g9, 0, none⟩)), (1, 81, .pointer (some ⟨g9, 0, none⟩)), (2, 82, .pointer (some ⟨g9, 0, none⟩)), (3, 83, .pointer (some ⟨g9, 7, none⟩)), (4, 84, vf), (5, 85, .agg #[.int .i64 x.f0, .int .i64 x.f1, .slice A78 x.f2.length c78]), (6, 86, m6_), (7, 87, m7_), (8, 88, .pointer (some ⟨g9, 0, none⟩)), (9, 89, .pointer (some ⟨g9, 7, none⟩))] ∧ (Turn W6 w' (fun k => k = g9)) ∧ (b 10 = false → w'.heap[g9]? = some (.cells #[.int .i64 (Bn : Int), .int .i64 (Pn : Int), .int .i64 C, .slice (some ⟨gm, 0, none⟩) Bn Bn, .slice (some ⟨gp, 0, none⟩) j cp, .slice (some ⟨gn, 0, none⟩) Bn Bn, .slice (some ⟨gw, 0, none⟩) Bn Bn, vf, .int .i64 0, .bool false] 109 (0, 0))) ∧ (b 7 = false → w'.ownsRow W6.heap.size 65 3 vf i (ps.flatMap encF)) ∧ (b 7 = false → FRow w' (okw W6 vf) ps) ∧ (b 7 = false → x.f2.length ≤ c78 ∧ Kd.F (Kd.int .u8) w' (okw W6 vf) A78 x.f2.length x.f2) ∧ (b 7 = false → w'.heap[g13]? = some (.cells #[.int .i64 x.f0, .int .i64 x.f1, .slice A78 x.f2.length c78] 65 (0, 0))) ∧ (b 6 = true → b 7 = false → w'.heap[gx]? = some (.cells #[.int .i64 x.f0, .int .i64 x.f1, .slice A78 x.f2.length c78] 65 (0, 0))) ∧ (b 7 = true → w'.ownsRow W6.heap.size 65 3 (.slice A87 (i + 1) c87) (i + 1) ((ps ++ [(x, A78, c78)]).flatMap encF) ∧ FRow w' (okw W6 (.slice A87 (i + 1) c87)) (ps ++ [(x, A78, c78)])) ∧ (b 10 = true → w'.heap[g9]? = some (.cells #[.int .i64 (Bn : Int), .int .i64 (Pn : Int), .int .i64 C, .slice (some ⟨gm, 0, none⟩) Bn Bn, .slice (some ⟨gp, 0, none⟩) j cp, .slice (some ⟨gn, 0, none⟩) Bn Bn, .slice (some ⟨gw, 0, none⟩) Bn Bn, .slice A87 (i + 1) c87, .int .i64 0, .bool false] 109 (0, 0))) ∧ (b 6 = true → (m6_ : Value) = .slice (some ⟨gx, 0, none⟩) 1 1) ∧ (b 7 = true → (m7_ : Value) = .slice A87 (i + 1) c87)) HT_.out HW_.out (by kernel_rfl) (by kernel_rfl) ?_ ?_ ?_
        ·
         exact ⟨0, none, 0, .bool false, .bool false, by simp only [putSel, Bool.false_eq_true, if_false], T0.out, fun _ => Z9'.out, fun _ => OR.out, fun _ => PG.out, fun _ => HMK.out, fun _ => H13.out, fun h_ => absurd h_ (by decide), fun h_ => absurd h_ (by decide), fun h_ => absurd h_ (by decide), fun h_ => absurd h_ (by decide), fun h_ => absurd h_ (by decide)⟩
        ·
         skip
         clear H13 HMK OR PG T0 Z9'; refine steps_cons ?_ ?_; rintro b a w' ⟨gx, A87, c87, m6_, m7_, ha, Q_T0, Q_Z9', Q_OR, Q_PG, Q_HMK, Q_H13, Q_GX, Q_O7, Q_FIN, Q_X6_, Q_X7_⟩ hb_ hon hoff; refine ⟨_, rfl, fun K hK => ?_⟩; have e9 := q_f ha 9 rfl rfl; replace ha := aK ha; have T0 := aK Q_T0; have Z9' := aK (Q_Z9' (hoff 10 (by kernel_rfl))); refine q_v (.pointer (some ⟨g9, 0, none⟩)) (by rfl) rfl ?_ ?_; (· (go_simp; (try simp only [i64_w]); try rfl)); refine hK.out _ _ ⟨gx, A87, c87, m6_, m7_, q_u ha 0 hb_ rfl rfl rfl, Q_T0, Q_Z9', Q_OR, Q_PG, Q_HMK, Q_H13, Q_GX, Q_O7, fun h0_ => q_h hoff 10 h0_, Q_X6_, Q_X7_⟩; refine steps_cons ?_ ?_; rintro b a w' ⟨gx, A87, c87, m6_, m7_, ha, Q_T0, Q_Z9', Q_OR, Q_PG, Q_HMK, Q_H13, Q_GX, Q_O7, Q_FIN, Q_X6_, Q_X7_⟩ hb_ hon hoff; refine ⟨_, rfl, fun K hK => ?_⟩; have e9 := q_f ha 9 rfl rfl; replace ha := aK ha; have T0 := aK Q_T0; have Z9' := aK (Q_Z9' (hoff 10 (by kernel_rfl))); have OR := aK (Q_OR (hoff 7 (by kernel_rfl))); have PG := aK (Q_PG (hoff 7 (by kernel_rfl))); have HMK := aK (Q_HMK (hoff 7 (by kernel_rfl))); have H13 := aK (Q_H13 (hoff 7 (by kernel_rfl))); refine q_v (.pointer (some ⟨g9, 0, none⟩)) (by rfl) rfl ?_ ?_; (· (go_simp; (try simp only [i64_w]); try rfl)); refine hK.out _ _ ⟨gx, A87, c87, m6_, m7_, q_u ha 1 hb_ rfl rfl rfl, Q_T0, Q_Z9', Q_OR, Q_PG, Q_HMK, Q_H13, Q_GX, fun h0_ => q_h hoff 7 h0_, fun h0_ => q_h hoff 10 h0_, Q_X6_, fun h0_ => q_h hoff 7 h0_⟩; refine steps_cons ?_ ?_; rintro b a w' ⟨gx, A87, c87, m6_, m7_, ha, Q_T0, Q_Z9', Q_OR, Q_PG, Q_HMK, Q_H13, Q_GX, Q_O7, Q_FIN, Q_X6_, Q_X7_⟩ hb_ hon hoff; refine ⟨_, rfl, fun K hK => ?_⟩; have e81 := q_n ha hon 81 1 1 rfl; replace ha := aK ha; have T0 := aK Q_T0; have Z9' := aK (Q_Z9' (hoff 10 (by kernel_rfl))); have OR := aK (Q_OR (hoff 7 (by kernel_rfl))); have PG := aK (Q_PG (hoff 7 (by kernel_rfl))); have HMK := aK (Q_HMK (hoff 7 (by kernel_rfl))); have H13 := aK (Q_H13 (hoff 7 (by kernel_rfl))); refine q_v (.pointer (some ⟨g9, 0, none⟩)) (by rfl) rfl ?_ ?_; (· (go_simp; (try simp only [i64_w]); try rfl)); refine hK.out _ _ ⟨gx, A87, c87, m6_, m7_, q_u ha 2 hb_ rfl rfl rfl, Q_T0, Q_Z9', Q_OR, Q_PG, Q_HMK, Q_H13, Q_GX, fun h0_ => q_h hoff 7 h0_, fun h0_ => q_h hoff 10 h0_, Q_X6_, fun h0_ => q_h hoff 7 h0_⟩; refine steps_cons ?_ ?_; rintro b a w' ⟨gx, A87, c87, m6_, m7_, ha, Q_T0, Q_Z9', Q_OR, Q_PG, Q_HMK, Q_H13, Q_GX, Q_O7, Q_FIN, Q_X6_, Q_X7_⟩ hb_ hon hoff; refine ⟨_, rfl, fun K hK => ?_⟩; have e82 := q_n ha hon 82 2 2 rfl; replace ha := aK ha; have T0 := aK Q_T0; have Z9' := aK (Q_Z9' (hoff 10 (by kernel_rfl))); have OR := aK (Q_OR (hoff 7 (by kernel_rfl))); have PG := aK (Q_PG (hoff 7 (by kernel_rfl))); have HMK := aK (Q_HMK (hoff 7 (by kernel_rfl))); have H13 := aK (Q_H13 (hoff 7 (by kernel_rfl))); refine q_v (.pointer (some ⟨g9, 7, none⟩)) (by rfl) rfl ?_ ?_; (· (go_simp; (try simp only [i64_w]); try rfl)); refine hK.out _ _ ⟨gx, A87, c87, m6_, m7_, q_u ha 3 hb_ rfl rfl rfl, Q_T0, Q_Z9', Q_OR, Q_PG, Q_HMK, Q_H13, Q_GX, fun h0_ => q_h hoff 7 h0_, fun h0_ => q_h hoff 10 h0_, Q_X6_, fun h0_ => q_h hoff 7 h0_⟩; refine steps_cons ?_ ?_; rintro b a w' ⟨gx, A87, c87, m6_, m7_, ha, Q_T0, Q_Z9', Q_OR, Q_PG, Q_HMK, Q_H13, Q_GX, Q_O7, Q_FIN, Q_X6_, Q_X7_⟩ hb_ hon hoff; refine ⟨_, rfl, fun K hK => ?_⟩; have e83 := q_n ha hon 83 3 3 rfl; replace ha := aK ha; have T0 := aK Q_T0; have Z9' := aK (Q_Z9' (hoff 10 (by kernel_rfl))); have OR := aK (Q_OR (hoff 7 (by kernel_rfl))); have PG := aK (Q_PG (hoff 7 (by kernel_rfl))); have HMK := aK (Q_HMK (hoff 7 (by kernel_rfl))); have H13 := aK (Q_H13 (hoff 7 (by kernel_rfl))); have c_ := blk_cell Z9'.out 7; refine q_v (vf) (by rfl) rfl ?_ ?_; (· (go_simp; (try simp only [i64_w]); try rfl)); refine hK.out _ _ ⟨gx, A87, c87, m6_, m7_, q_u ha 4 hb_ rfl rfl rfl, Q_T0, Q_Z9', Q_OR, Q_PG, Q_HMK, Q_H13, Q_GX, fun h0_ => q_h hoff 7 h0_, fun h0_ => q_h hoff 10 h0_, Q_X6_, fun h0_ => q_h hoff 7 h0_⟩
         refine steps_cons ?_ ?_; rintro b a w' ⟨gx, A87, c87, m6_, m7_, ha, Q_T0, Q_Z9', Q_OR, Q_PG, Q_HMK, Q_H13, Q_GX, Q_O7, Q_FIN, Q_X6_, Q_X7_⟩ hb_ hon hoff; refine ⟨_, rfl, fun K hK => ?_⟩; have e13 := q_f ha 13 rfl rfl; replace ha := aK ha; have T0 := aK Q_T0; have Z9' := aK (Q_Z9' (hoff 10 (by kernel_rfl))); have OR := aK (Q_OR (hoff 7 (by kernel_rfl))); have PG := aK (Q_PG (hoff 7 (by kernel_rfl))); have HMK := aK (Q_HMK (hoff 7 (by kernel_rfl))); have H13 := aK (Q_H13 (hoff 7 (by kernel_rfl))); have c0_ := blk_cell H13.out 0; have c1_ := blk_cell H13.out 1; have c2_ := blk_cell H13.out 2; refine q_v (.agg #[.int .i64 x.f0, .int .i64 x.f1, .slice A78 x.f2.length c78]) (by rfl) rfl ?_ ?_; (· (go_simp; (try simp only [i64_w]); try rfl)); refine hK.out _ _ ⟨gx, A87, c87, m6_, m7_, q_u ha 5 hb_ rfl rfl rfl, Q_T0, Q_Z9', Q_OR, Q_PG, Q_HMK, Q_H13, fun h0_ _ => q_h hoff 6 h0_, fun h0_ => q_h hoff 7 h0_, fun h0_ => q_h hoff 10 h0_, fun h0_ => q_h hoff 6 h0_, fun h0_ => q_h hoff 7 h0_⟩; refine steps_cons ?_ ?_; rintro b a w' ⟨gx, A87, c87, m6_, m7_, ha, Q_T0, Q_Z9', Q_OR, Q_PG, Q_HMK, Q_H13, Q_GX, Q_O7, Q_FIN, Q_X6_, Q_X7_⟩ hb_ hon hoff; refine ⟨_, rfl, fun K hK => ?_⟩; have e85 := q_n ha hon 85 5 5 rfl; replace ha := aK ha; have T0 := aK Q_T0; have Z9' := aK (Q_Z9' (hoff 10 (by kernel_rfl))); have OR := aK (Q_OR (hoff 7 (by kernel_rfl))); have PG := aK (Q_PG (hoff 7 (by kernel_rfl))); have HMK := aK (Q_HMK (hoff 7 (by kernel_rfl))); have H13 := aK (Q_H13 (hoff 7 (by kernel_rfl))); refine value_ (w1 := w'.alloc (Obj.cells #[.int .i64 x.f0, .int .i64 x.f1, .slice A78 x.f2.length c78] 65)) (v := .slice (some ⟨w'.heap.size, 0, none⟩) 1 1) (by rfl) rfl (by first | (go_simp; done) | (go_simp; rfl)) ?_; have hb := below_alloc (Below.refl w'.heap.size w') (Obj.cells #[.int .i64 x.f0, .int .i64 x.f1, .slice A78 x.f2.length c78] 65); refine hK.out _ _ ⟨w'.heap.size, A87, c87, (.slice (some ⟨w'.heap.size, 0, none⟩) 1 1), m7_, q_u ha 6 hb_ rfl rfl rfl, T0.out.below hb, fun _ => blk_below Z9'.out hb, fun _ => pw_own_below OR.out hb, fun _ => PG.out.step (fun k _ hl_ => hb.block k hl_), fun _ => ⟨HMK.out.1, Kd.F_below HMK.out.2 hb⟩, fun _ => blk_below H13.out hb, fun _ _ => heap_alloc_new w' _, fun h0_ => q_h hoff 7 h0_, fun h0_ => q_h hoff 10 h0_, fun _ => rfl, fun h0_ => q_h hoff 7 h0_⟩; refine steps_cons ?_ ?_; rintro b a w' ⟨gx, A87, c87, m6_, m7_, ha, Q_T0, Q_Z9', Q_OR, Q_PG, Q_HMK, Q_H13, Q_GX, Q_O7, Q_FIN, Q_X6_, Q_X7_⟩ hb_ hon hoff; refine ⟨_, rfl, fun K hK => ?_⟩; have e84 := q_n ha hon 84 4 4 rfl; have e86 := q_n ha hon 86 6 6 rfl; rw [Q_X6_ (hon 6 (by kernel_rfl))] at e86; replace ha := aK ha; have T0 := aK Q_T0; have Z9' := aK (Q_Z9' (hoff 10 (by kernel_rfl))); have OR := aK (Q_OR hb_); have PG := aK (Q_PG hb_); have HMK := aK (Q_HMK hb_); have H13 := aK (Q_H13 hb_); have GX := aK (Q_GX (hon 6 (by kernel_rfl)) hb_); obtain ⟨v_, w2, hr_, ho_, hp_, hg_⟩ := fault_app (p := (x, A78, c78)) OR.out PG.out HMK.out.1 HMK.out.2 GX.out (by have := HIN.out.2.2.2.1; have := HI2.out; omega) T0.out.size; obtain ⟨A_, c_, rfl⟩ := own_slice ho_; refine app_step (by rfl) rfl rfl e84 e86 hr_ ?_; refine hK.out _ _ ⟨gx, A_, c_, m6_, (.slice A_ (i + 1) c_), q_u ha 7 hb_ rfl rfl rfl, T0.out.grown hg_ (fun k hk_ => .inr (own_base OR.out k hk_)), fun _ => blk_grown Z9'.out hg_ (fun e_ => absurd (own_base OR.out g9 e_.symm) (Nat.not_le_of_lt HLG.out)), fun h0_ => q_x h0_ (up_self b 7), fun h0_ => q_x h0_ (up_self b 7), fun h0_ => q_x h0_ (up_self b 7), fun h0_ => q_x h0_ (up_self b 7), fun _ h1_ => q_x h1_ (up_self b 7), fun _ => ⟨ho_, hp_⟩, fun h0_ => q_h hoff 10 h0_, Q_X6_, fun _ => rfl⟩; refine steps_cons ?_ ?_; rintro b a w' ⟨gx, A87, c87, m6_, m7_, ha, Q_T0, Q_Z9', Q_OR, Q_PG, Q_HMK, Q_H13, Q_GX, Q_O7, Q_FIN, Q_X6_, Q_X7_⟩ hb_ hon hoff; refine ⟨_, rfl, fun K hK => ?_⟩; have e80 := q_n ha hon 80 0 0 rfl
         replace ha := aK ha; have T0 := aK Q_T0; have Z9' := aK (Q_Z9' (hoff 10 (by kernel_rfl))); have O7 := aK (Q_O7 (hon 7 (by kernel_rfl))); refine q_v (.pointer (some ⟨g9, 0, none⟩)) (by rfl) rfl ?_ ?_; (· (go_simp; (try simp only [i64_w]); try rfl)); refine hK.out _ _ ⟨gx, A87, c87, m6_, m7_, q_u ha 8 hb_ rfl rfl rfl, Q_T0, Q_Z9', fun h0_ => q_x h0_ (hon 7 (by kernel_rfl)), fun h0_ => q_x h0_ (hon 7 (by kernel_rfl)), fun h0_ => q_x h0_ (hon 7 (by kernel_rfl)), fun h0_ => q_x h0_ (hon 7 (by kernel_rfl)), fun _ h1_ => q_x h1_ (hon 7 (by kernel_rfl)), Q_O7, fun h0_ => q_h hoff 10 h0_, Q_X6_, Q_X7_⟩; refine steps_cons ?_ ?_; rintro b a w' ⟨gx, A87, c87, m6_, m7_, ha, Q_T0, Q_Z9', Q_OR, Q_PG, Q_HMK, Q_H13, Q_GX, Q_O7, Q_FIN, Q_X6_, Q_X7_⟩ hb_ hon hoff; refine ⟨_, rfl, fun K hK => ?_⟩; have e88 := q_n ha hon 88 8 8 rfl; replace ha := aK ha; have T0 := aK Q_T0; have Z9' := aK (Q_Z9' (hoff 10 (by kernel_rfl))); have O7 := aK (Q_O7 (hon 7 (by kernel_rfl))); refine q_v (.pointer (some ⟨g9, 7, none⟩)) (by rfl) rfl ?_ ?_; (· (go_simp; (try simp only [i64_w]); try rfl)); refine hK.out _ _ ⟨gx, A87, c87, m6_, m7_, q_u ha 9 hb_ rfl rfl rfl, Q_T0, Q_Z9', fun h0_ => q_x h0_ (hon 7 (by kernel_rfl)), fun h0_ => q_x h0_ (hon 7 (by kernel_rfl)), fun h0_ => q_x h0_ (hon 7 (by kernel_rfl)), fun h0_ => q_x h0_ (hon 7 (by kernel_rfl)), fun _ h1_ => q_x h1_ (hon 7 (by kernel_rfl)), Q_O7, fun h0_ => q_h hoff 10 h0_, Q_X6_, Q_X7_⟩; refine steps_cons ?_ ?_; rintro b a w' ⟨gx, A87, c87, m6_, m7_, ha, Q_T0, Q_Z9', Q_OR, Q_PG, Q_HMK, Q_H13, Q_GX, Q_O7, Q_FIN, Q_X6_, Q_X7_⟩ hb_ hon hoff; refine ⟨_, rfl, fun K hK => ?_⟩; have e89 := q_n ha hon 89 9 9 rfl; have e87 := q_n ha hon 87 7 7 rfl; rw [Q_X7_ (hon 7 (by kernel_rfl))] at e87; replace ha := aK ha; have T0 := aK Q_T0; have Z9' := aK (Q_Z9' hb_); have O7 := aK (Q_O7 (hon 7 (by kernel_rfl))); have c_ := blk_cell Z9'.out 7; have fr_ := blk_frozen Z9'.out 7; have hne_ : some g9 ≠ (Value.slice A87 (i + 1) c87).ownBlock := fun e_ => absurd (own_base O7.out.1 g9 e_.symm) (Nat.not_le_of_lt HLG.out); refine skip_ (w1 := ?_) (by rfl) rfl ?_ ?_; rotate_left
         ·
          go_simp
          rfl
         refine hK.out _ _ ⟨gx, A87, c87, m6_, m7_, (by rw [ha.out]; exact putSel_none (v := undef) rfl), T0.out.setCell (p := ⟨g9, 7, none⟩) (.inl rfl) _, fun h0_ => q_x h0_ (up_self b 10), fun h0_ => q_x h0_ (hon 7 (by kernel_rfl)), fun h0_ => q_x h0_ (hon 7 (by kernel_rfl)), fun h0_ => q_x h0_ (hon 7 (by kernel_rfl)), fun h0_ => q_x h0_ (hon 7 (by kernel_rfl)), fun _ h1_ => q_x h1_ (hon 7 (by kernel_rfl)), fun _ => ⟨own_setCell (p := ⟨g9, 7, none⟩) O7.out.1 hne_ _, O7.out.2.step (fun k hk_ _ => Below.heap_setCell w' ⟨g9, 7, none⟩ _ k (fun e_ => by have h1_ := hk_.1; rw [e_] at h1_; exact absurd h1_ (Nat.not_le_of_lt HLG.out)))⟩, fun _ => blk_put Z9'.out 7 _ rfl, Q_X6_, Q_X7_⟩; exact steps_nil
        rintro b a w19 hall ⟨gx, A87, c87, m6_, m7_, ha, Q_T0, Q_Z9', Q_OR, Q_PG, Q_HMK, Q_H13, Q_GX, Q_O7, Q_FIN, Q_X6_, Q_X7_⟩; clear H13 HMK OR PG T0 Z9'; subst ha; obtain rfl := Q_X6_ (hall 6 (by kernel_rfl)); obtain rfl := Q_X7_ (hall 7 (by kernel_rfl)); rw [q_a hall]; rotate_left
        ·
         kernel_rfl
        simp only [List.foldl_cons, List.foldl_nil, Act.put, List.setIfInBounds_toArray, List.set_cons_zero, List.set_cons_succ]; have T0 := aK Q_T0; clear Q_T0; clear Q_Z9'; clear Q_OR; clear Q_PG; clear Q_HMK; clear Q_H13; clear Q_GX; have O7 := aK (Q_O7 (hall 7 (by kernel_rfl))); clear Q_O7; have FIN := aK (Q_FIN (hall 10 (by kernel_rfl))); clear Q_FIN; clear hall; go_wp2_with fail; go_roundg (fs.length - i)
        case measure => have := HI.out; have := HI2.out; omega
        case rel => exact ⟨i + 1, by first | rfl | simp, ⟨by have := HI2.out; omega, by have := HI.out; have := HI2.out; omega⟩, .slice A87 (i + 1) c87, ps ++ [(x, A78, c78)], ⟨by rw [List.map_append, HPS.out, List.take_add_one, HXE.out]; rfl⟩, FIN, O7, T0⟩
     case pos =>
      have t1 : decide ((j : Int) < (NP : Int)) = true := decide_eq_true (by omega); have t2 : decide (j < NP) = true := decide_eq_true (by omega); obtain ⟨hw5, hw6⟩ := wrap_id (x := (j : Int) + 1) (by omega) (by have := HNP.out.2; omega); have HJ2 := aK hj; have HLT9 : Aside0 (g9 < W5.heap.size) := ⟨blk_lt Z9_5.out⟩; have Z9 := Z9r; have OR := aK HP.out.1; have PG := aK HP.out.2; have T0 : Aside0 (Turn W5 wr.drew (fun k => k = g9)) := ⟨HTr.out.below (below_drew1 (Below.refl _ _))⟩; have Z9 := aK (blk_drew Z9r.out); have OR : Aside0 (wr.drew.ownsRow W5.heap.size 38 1 vp j vs) := ⟨World.ownsRow.drew HP.out.1⟩; have PG : Aside0 (Pages wr.drew (okv W5 vp) vs (List.replicate j (List.replicate 256 255))) := ⟨HP.out.2.step (fun _ _ _ => rfl)⟩; have HON := aK (fun w => zeros_Ones.calls 300 256 (List.replicate 256 255) w Ones_256); clear Z9r HP HTr hj; go_upto_region 13 with fail; clear t1 t2; refine start_ (n := 11) (S := fun w' => True) (ds := []) #[false, false, false, false, false, false, false, false, false, false, false] (by kernel_rfl) rfl rfl trivial (fun hHeld => ?_); refine with_tabW new13.tab13 new13.bits13 (fun HT_ HW_ => ?_); generalize wr.drew = wq at T0 Z9 OR PG hHeld ⊢; refine inv_at [0, 1, 2, 3, 4, 5, 6, 7, 8, 9, 10] (fun a0_ b a w' => ∃ (A64 : Option Addr) (c64 : Nat) (gx : Nat) (A66 : Option Addr) (c66 : Nat) (m5_ : Value) (m6_ : Value) (m7_ : Value), a = putSel a0_ b [(0, 59, .pointer (some ⟨g9, 0, none⟩)), (1, 60, .pointer (some ⟨g9, 0, none⟩)), (2, 61, .pointer (some ⟨g9, 0, none⟩)), (3, 62, .pointer (some ⟨g9, 4, none⟩)), (4, 63, vp), (5, 64, m5_), (6, 65, m6_), (7, 66, m7_), (8, 67, .pointer (some ⟨g9, 0, none⟩)), (9, 68, .pointer (some ⟨g9, 4, none⟩))] ∧ (Turn W5 w' (fun k => k = g9)) ∧ (b 10 = false → w'.heap[g9]? = some (.cells #[.int .i64 (Bn : Int), .int .i64 (Pn : Int), .int .i64 C, .slice (some ⟨gm, 0, none⟩) Bn Bn, vp, .slice (some ⟨gn, 0, none⟩) Bn Bn, .slice (some ⟨gw, 0, none⟩) Bn Bn, .slice none 0 0, .int .i64 0, .bool false] 109 (0, 0))) ∧ (b 7 = false → w'.ownsRow W5.heap.size 38 1 vp j vs) ∧ (b 7 = false → Pages w' (okv W5 vp) vs (List.replicate j (List.replicate 256 255))) ∧ (b 5 = true → b 7 = false → 256 ≤ c64 ∧ Kd.F (Kd.int .u8) w' (okv W5 vp) A64 256 (List.replicate 256 255)) ∧ (b 6 = true → b 7 = false → w'.heap[gx]? = some (.cells #[.slice A64 256 c64] 38 (0, 0))) ∧ (b 7 = true → w'.ownsRow W5.heap.size 38 1 (.slice A66 (j + 1) c66) (j + 1) (vs ++ [.slice A64 256 c64]) ∧ Pages w' (okv W5 (.slice A66 (j + 1) c66)) (vs ++ [.slice A64 256 c64]) (List.replicate j (List.replicate 256 255) ++ [(List.replicate 256 255)])) ∧ (b 10 = true → w'.heap[g9]? = some (.cells #[.int .i64 (Bn : Int), .int .i64 (Pn : Int), .int .i64 C, .slice (some ⟨gm, 0, none⟩) Bn Bn, .slice A66 (j + 1) c66, .slice (some ⟨gn, 0, none⟩) Bn Bn, .slice (some ⟨gw, 0, none⟩) Bn Bn, .slice none 0 0, .int .i64 0, .bool false] 109 (0, 0))) ∧ (b 5 = true → (m5_ : Value) = .slice A64 256 c64) ∧ (b 6 = true → (m6_ : Value) = .slice (some ⟨gx, 0, none⟩) 1 1) ∧ (b 7 = true → (m7_ : Value) = .slice A66 (j + 1) c66)) HT_.out HW_.out (by kernel_rfl) (by kernel_rfl) ?_ ?_ ?_
      ·
       exact ⟨none, 0, 0, none, 0, .bool false, .bool false, .bool false, by simp only [putSel, Bool.false_eq_true, if_false], T0.out, fun _ => Z9.out, fun _ => OR.out, fun _ => PG.out, fun h_ => absurd h_ (by decide), fun h_ => absurd h_ (by decide), fun h_ => absurd h_ (by decide), fun h_ => absurd h_ (by decide), fun h_ => absurd h_ (by decide), fun h_ => absurd h_ (by decide), fun h_ => absurd h_ (by decide)⟩
      ·
       skip
       clear OR PG T0 Z9; refine steps_cons ?_ ?_; rintro b a w' ⟨A64, c64, gx, A66, c66, m5_, m6_, m7_, ha, Q_T0, Q_Z9, Q_OR, Q_PG, Q_FO, Q_GX, Q_O7, Q_FIN, Q_X5_, Q_X6_, Q_X7_⟩ hb_ hon hoff; refine ⟨_, rfl, fun K hK => ?_⟩; have e9 := q_f ha 9 rfl rfl; replace ha := aK ha; have T0 := aK Q_T0; have Z9 := aK (Q_Z9 (hoff 10 (by kernel_rfl))); refine q_v (.pointer (some ⟨g9, 0, none⟩)) (by rfl) rfl ?_ ?_; (· (go_simp; (try simp only [i64_w]); try rfl)); refine hK.out _ _ ⟨A64, c64, gx, A66, c66, m5_, m6_, m7_, q_u ha 0 hb_ rfl rfl rfl, Q_T0, Q_Z9, Q_OR, Q_PG, Q_FO, Q_GX, Q_O7, fun h0_ => q_h hoff 10 h0_, Q_X5_, Q_X6_, Q_X7_⟩; refine steps_cons ?_ ?_; rintro b a w' ⟨A64, c64, gx, A66, c66, m5_, m6_, m7_, ha, Q_T0, Q_Z9, Q_OR, Q_PG, Q_FO, Q_GX, Q_O7, Q_FIN, Q_X5_, Q_X6_, Q_X7_⟩ hb_ hon hoff; refine ⟨_, rfl, fun K hK => ?_⟩; have e9 := q_f ha 9 rfl rfl; replace ha := aK ha; have T0 := aK Q_T0; have Z9 := aK (Q_Z9 (hoff 10 (by kernel_rfl))); have OR := aK (Q_OR (hoff 7 (by kernel_rfl))); have PG := aK (Q_PG (hoff 7 (by kernel_rfl))); refine q_v (.pointer (some ⟨g9, 0, none⟩)) (by rfl) rfl ?_ ?_; (· (go_simp; (try simp only [i64_w]); try rfl)); refine hK.out _ _ ⟨A64, c64, gx, A66, c66, m5_, m6_, m7_, q_u ha 1 hb_ rfl rfl rfl, Q_T0, Q_Z9, Q_OR, Q_PG, Q_FO, Q_GX, fun h0_ => q_h hoff 7 h0_, fun h0_ => q_h hoff 10 h0_, Q_X5_, Q_X6_, fun h0_ => q_h hoff 7 h0_⟩; refine steps_cons ?_ ?_; rintro b a w' ⟨A64, c64, gx, A66, c66, m5_, m6_, m7_, ha, Q_T0, Q_Z9, Q_OR, Q_PG, Q_FO, Q_GX, Q_O7, Q_FIN, Q_X5_, Q_X6_, Q_X7_⟩ hb_ hon hoff; refine ⟨_, rfl, fun K hK => ?_⟩; have e60 := q_n ha hon 60 1 1 rfl; replace ha := aK ha; have T0 := aK Q_T0; have Z9 := aK (Q_Z9 (hoff 10 (by kernel_rfl))); have OR := aK (Q_OR (hoff 7 (by kernel_rfl))); have PG := aK (Q_PG (hoff 7 (by kernel_rfl))); refine q_v (.pointer (some ⟨g9, 0, none⟩)) (by rfl) rfl ?_ ?_; (· (go_simp; (try simp only [i64_w]); try rfl)); refine hK.out _ _ ⟨A64, c64, gx, A66, c66, m5_, m6_, m7_, q_u ha 2 hb_ rfl rfl rfl, Q_T0, Q_Z9, Q_OR, Q_PG, Q_FO, Q_GX, fun h0_ => q_h hoff 7 h0_, fun h0_ => q_h hoff 10 h0_, Q_X5_, Q_X6_, fun h0_ => q_h hoff 7 h0_⟩; refine steps_cons ?_ ?_; rintro b a w' ⟨A64, c64, gx, A66, c66, m5_, m6_, m7_, ha, Q_T0, Q_Z9, Q_OR, Q_PG, Q_FO, Q_GX, Q_O7, Q_FIN, Q_X5_, Q_X6_, Q_X7_⟩ hb_ hon hoff; refine ⟨_, rfl, fun K hK => ?_⟩; have e61 := q_n ha hon 61 2 2 rfl; replace ha := aK ha; have T0 := aK Q_T0; have Z9 := aK (Q_Z9 (hoff 10 (by kernel_rfl))); have OR := aK (Q_OR (hoff 7 (by kernel_rfl))); have PG := aK (Q_PG (hoff 7 (by kernel_rfl))); refine q_v (.pointer (some ⟨g9, 4, none⟩)) (by rfl) rfl ?_ ?_; (· (go_simp; (try simp only [i64_w]); try rfl)); refine hK.out _ _ ⟨A64, c64, gx, A66, c66, m5_, m6_, m7_, q_u ha 3 hb_ rfl rfl rfl, Q_T0, Q_Z9, Q_OR, Q_PG, Q_FO, Q_GX, fun h0_ => q_h hoff 7 h0_, fun h0_ => q_h hoff 10 h0_, Q_X5_, Q_X6_, fun h0_ => q_h hoff 7 h0_⟩; refine steps_cons ?_ ?_; rintro b a w' ⟨A64, c64, gx, A66, c66, m5_, m6_, m7_, ha, Q_T0, Q_Z9, Q_OR, Q_PG, Q_FO, Q_GX, Q_O7, Q_FIN, Q_X5_, Q_X6_, Q_X7_⟩ hb_ hon hoff; refine ⟨_, rfl, fun K hK => ?_⟩; have e62 := q_n ha hon 62 3 3 rfl; replace ha := aK ha; have T0 := aK Q_T0; have Z9 := aK (Q_Z9 (hoff 10 (by kernel_rfl))); have OR := aK (Q_OR (hoff 7 (by kernel_rfl))); have PG := aK (Q_PG (hoff 7 (by kernel_rfl))); have c_ := blk_cell Z9.out 4; refine q_v (vp) (by rfl) rfl ?_ ?_; (· (go_simp; (try simp only [i64_w]); try rfl)); refine hK.out _ _ ⟨A64, c64, gx, A66, c66, m5_, m6_, m7_, q_u ha 4 hb_ rfl rfl rfl, Q_T0, Q_Z9, Q_OR, Q_PG, Q_FO, Q_GX, fun h0_ => q_h hoff 7 h0_, fun h0_ => q_h hoff 10 h0_, Q_X5_, Q_X6_, fun h0_ => q_h hoff 7 h0_⟩; refine steps_cons ?_ ?_; rintro b a w' ⟨A64, c64, gx, A66, c66, m5_, m6_, m7_, ha, Q_T0, Q_Z9, Q_OR, Q_PG, Q_FO, Q_GX, Q_O7, Q_FIN, Q_X5_, Q_X6_, Q_X7_⟩ hb_ hon hoff; refine ⟨_, rfl, fun K hK => ?_⟩; replace ha := aK ha
       have T0 := aK Q_T0; have Z9 := aK (Q_Z9 (hoff 10 (by kernel_rfl))); have OR := aK (Q_OR (hoff 7 (by kernel_rfl))); have PG := aK (Q_PG (hoff 7 (by kernel_rfl))); refine goes_ Try.func61 (by kernel_rfl) rfl #[.int .i64 256] (by rfl) rfl rfl (by (simp only [List.map_toArray, List.map_cons, List.map_nil, Act.eval, Array.getD_eq_getD_getElem?, Option.getD_some]) <;> rfl) ?_; (with_reducible refine (HON.out _).mono ?_); rintro e w2 ⟨v_, rfl, hR_, hb⟩; obtain ⟨A_, c_, rfl, hc_, hF_⟩ := ones_fresh OR.out hR_ T0.out.size; refine ⟨_, rfl, ?_⟩; refine hK.out _ _ ⟨A_, c_, gx, A66, c66, (.slice A_ 256 c_), m6_, m7_, q_u ha 5 hb_ rfl rfl rfl, T0.out.below hb, fun _ => blk_below Z9.out hb, fun _ => pw_own_below OR.out hb, fun _ => PG.out.step (fun k _ hl_ => hb.block k hl_), fun _ _ => ⟨hc_, hF_⟩, fun h0_ _ => q_h hoff 6 h0_, fun h0_ => q_h hoff 7 h0_, fun h0_ => q_h hoff 10 h0_, fun _ => rfl, fun h0_ => q_h hoff 6 h0_, fun h0_ => q_h hoff 7 h0_⟩; refine steps_cons ?_ ?_; rintro b a w' ⟨A64, c64, gx, A66, c66, m5_, m6_, m7_, ha, Q_T0, Q_Z9, Q_OR, Q_PG, Q_FO, Q_GX, Q_O7, Q_FIN, Q_X5_, Q_X6_, Q_X7_⟩ hb_ hon hoff; refine ⟨_, rfl, fun K hK => ?_⟩; have e64 := q_n ha hon 64 5 5 rfl; rw [Q_X5_ (hon 5 (by kernel_rfl))] at e64; replace ha := aK ha; have T0 := aK Q_T0; have Z9 := aK (Q_Z9 (hoff 10 (by kernel_rfl))); have OR := aK (Q_OR (hoff 7 (by kernel_rfl))); have PG := aK (Q_PG (hoff 7 (by kernel_rfl))); have FO := aK (Q_FO (hon 5 (by kernel_rfl)) (hoff 7 (by kernel_rfl))); refine value_ (w1 := w'.alloc (Obj.cells #[.slice A64 256 c64] 38)) (v := .slice (some ⟨w'.heap.size, 0, none⟩) 1 1) (by rfl) rfl (by first | (go_simp; done) | (go_simp; rfl)) ?_; have hb := below_alloc (Below.refl w'.heap.size w') (Obj.cells #[.slice A64 256 c64] 38); refine hK.out _ _ ⟨A64, c64, w'.heap.size, A66, c66, m5_, (.slice (some ⟨w'.heap.size, 0, none⟩) 1 1), m7_, q_u ha 6 hb_ rfl rfl rfl, T0.out.below hb, fun _ => blk_below Z9.out hb, fun _ => pw_own_below OR.out hb, fun _ => PG.out.step (fun k _ hl_ => hb.block k hl_), fun _ _ => ⟨FO.out.1, Kd.F_below FO.out.2 hb⟩, fun _ _ => heap_alloc_new w' _, fun h0_ => q_h hoff 7 h0_, fun h0_ => q_h hoff 10 h0_, Q_X5_, fun _ => rfl, fun h0_ => q_h hoff 7 h0_⟩; refine steps_cons ?_ ?_; rintro b a w' ⟨A64, c64, gx, A66, c66, m5_, m6_, m7_, ha, Q_T0, Q_Z9, Q_OR, Q_PG, Q_FO, Q_GX, Q_O7, Q_FIN, Q_X5_, Q_X6_, Q_X7_⟩ hb_ hon hoff; refine ⟨_, rfl, fun K hK => ?_⟩; have e63 := q_n ha hon 63 4 4 rfl; have e65 := q_n ha hon 65 6 6 rfl; rw [Q_X6_ (hon 6 (by kernel_rfl))] at e65; replace ha := aK ha; have T0 := aK Q_T0; have Z9 := aK (Q_Z9 (hoff 10 (by kernel_rfl))); have OR := aK (Q_OR hb_); have PG := aK (Q_PG hb_); have FO := aK (Q_FO (hon 5 (by kernel_rfl)) hb_); have GX := aK (Q_GX (hon 6 (by kernel_rfl)) hb_); obtain ⟨v_, w2, hr_, ho_, hp_, hg_⟩ := page_app OR.out PG.out FO.out.1 FO.out.2 GX.out (by have := HNP.out.2; have := HJ2.out; omega) T0.out.size; obtain ⟨A_, c_, rfl⟩ := own_slice ho_; refine app_step (by rfl) rfl rfl e63 e65 hr_ ?_; refine hK.out _ _ ⟨A64, c64, gx, A_, c_, m5_, m6_, (.slice A_ (j + 1) c_), q_u ha 7 hb_ rfl rfl rfl, T0.out.grown hg_ (fun k hk_ => .inr (own_base OR.out k hk_)), fun _ => blk_grown Z9.out hg_ (fun e_ => absurd (own_base OR.out g9 e_.symm) (Nat.not_le_of_lt HLT9.out)), fun h0_ => q_x h0_ (up_self b 7), fun h0_ => q_x h0_ (up_self b 7), fun _ h1_ => q_x h1_ (up_self b 7), fun _ h1_ => q_x h1_ (up_self b 7), fun _ => ⟨ho_, hp_⟩, fun h0_ => q_h hoff 10 h0_, Q_X5_, Q_X6_, fun _ => rfl⟩; refine steps_cons ?_ ?_; rintro b a w' ⟨A64, c64, gx, A66, c66, m5_, m6_, m7_, ha, Q_T0, Q_Z9, Q_OR, Q_PG, Q_FO, Q_GX, Q_O7, Q_FIN, Q_X5_, Q_X6_, Q_X7_⟩ hb_ hon hoff; refine ⟨_, rfl, fun K hK => ?_⟩; have e59 := q_n ha hon 59 0 0 rfl; replace ha := aK ha; have T0 := aK Q_T0; have Z9 := aK (Q_Z9 (hoff 10 (by kernel_rfl))); have O7 := aK (Q_O7 (hon 7 (by kernel_rfl)))
       refine q_v (.pointer (some ⟨g9, 0, none⟩)) (by rfl) rfl ?_ ?_; (· (go_simp; (try simp only [i64_w]); try rfl)); refine hK.out _ _ ⟨A64, c64, gx, A66, c66, m5_, m6_, m7_, q_u ha 8 hb_ rfl rfl rfl, Q_T0, Q_Z9, fun h0_ => q_x h0_ (hon 7 (by kernel_rfl)), fun h0_ => q_x h0_ (hon 7 (by kernel_rfl)), fun _ h1_ => q_x h1_ (hon 7 (by kernel_rfl)), fun _ h1_ => q_x h1_ (hon 7 (by kernel_rfl)), Q_O7, fun h0_ => q_h hoff 10 h0_, Q_X5_, Q_X6_, Q_X7_⟩; refine steps_cons ?_ ?_; rintro b a w' ⟨A64, c64, gx, A66, c66, m5_, m6_, m7_, ha, Q_T0, Q_Z9, Q_OR, Q_PG, Q_FO, Q_GX, Q_O7, Q_FIN, Q_X5_, Q_X6_, Q_X7_⟩ hb_ hon hoff; refine ⟨_, rfl, fun K hK => ?_⟩; have e67 := q_n ha hon 67 8 8 rfl; replace ha := aK ha; have T0 := aK Q_T0; have Z9 := aK (Q_Z9 (hoff 10 (by kernel_rfl))); have O7 := aK (Q_O7 (hon 7 (by kernel_rfl))); refine q_v (.pointer (some ⟨g9, 4, none⟩)) (by rfl) rfl ?_ ?_; (· (go_simp; (try simp only [i64_w]); try rfl)); refine hK.out _ _ ⟨A64, c64, gx, A66, c66, m5_, m6_, m7_, q_u ha 9 hb_ rfl rfl rfl, Q_T0, Q_Z9, fun h0_ => q_x h0_ (hon 7 (by kernel_rfl)), fun h0_ => q_x h0_ (hon 7 (by kernel_rfl)), fun _ h1_ => q_x h1_ (hon 7 (by kernel_rfl)), fun _ h1_ => q_x h1_ (hon 7 (by kernel_rfl)), Q_O7, fun h0_ => q_h hoff 10 h0_, Q_X5_, Q_X6_, Q_X7_⟩; refine steps_cons ?_ ?_; rintro b a w' ⟨A64, c64, gx, A66, c66, m5_, m6_, m7_, ha, Q_T0, Q_Z9, Q_OR, Q_PG, Q_FO, Q_GX, Q_O7, Q_FIN, Q_X5_, Q_X6_, Q_X7_⟩ hb_ hon hoff; refine ⟨_, rfl, fun K hK => ?_⟩; have e68 := q_n ha hon 68 9 9 rfl; have e66 := q_n ha hon 66 7 7 rfl; rw [Q_X7_ (hon 7 (by kernel_rfl))] at e66; replace ha := aK ha; have T0 := aK Q_T0; have Z9 := aK (Q_Z9 hb_); have O7 := aK (Q_O7 (hon 7 (by kernel_rfl))); have c_ := blk_cell Z9.out 4; have fr_ := blk_frozen Z9.out 4; have hne_ : some g9 ≠ (Value.slice A66 (j + 1) c66).ownBlock := fun e_ => absurd (own_base O7.out.1 g9 e_.symm) (Nat.not_le_of_lt HLT9.out); refine skip_ (w1 := ?_) (by rfl) rfl ?_ ?_; rotate_left
       ·
        go_simp
        rfl
       refine hK.out _ _ ⟨A64, c64, gx, A66, c66, m5_, m6_, m7_, (by rw [ha.out]; exact putSel_none (v := undef) rfl), T0.out.setCell (p := ⟨g9, 4, none⟩) (.inl rfl) _, fun h0_ => q_x h0_ (up_self b 10), fun h0_ => q_x h0_ (hon 7 (by kernel_rfl)), fun h0_ => q_x h0_ (hon 7 (by kernel_rfl)), fun _ h1_ => q_x h1_ (hon 7 (by kernel_rfl)), fun _ h1_ => q_x h1_ (hon 7 (by kernel_rfl)), fun _ => ⟨own_setCell (p := ⟨g9, 4, none⟩) O7.out.1 hne_ _, O7.out.2.step (fun k hk_ _ => Below.heap_setCell w' ⟨g9, 4, none⟩ _ k (fun e_ => by have h1_ := hk_.1; rw [e_] at h1_; exact absurd h1_ (Nat.not_le_of_lt HLT9.out)))⟩, fun _ => blk_put Z9.out 4 _ rfl, Q_X5_, Q_X6_, Q_X7_⟩; exact steps_nil
      rintro b a w13 hall ⟨A64, c64, gx, A66, c66, m5_, m6_, m7_, ha, Q_T0, Q_Z9, Q_OR, Q_PG, Q_FO, Q_GX, Q_O7, Q_FIN, Q_X5_, Q_X6_, Q_X7_⟩; clear OR PG T0 Z9; subst ha; obtain rfl := Q_X5_ (hall 5 (by kernel_rfl)); obtain rfl := Q_X6_ (hall 6 (by kernel_rfl)); obtain rfl := Q_X7_ (hall 7 (by kernel_rfl)); rw [q_a hall]; rotate_left
      ·
       kernel_rfl
      simp only [List.foldl_cons, List.foldl_nil, Act.put, List.setIfInBounds_toArray, List.set_cons_zero, List.set_cons_succ]; have T0 := aK Q_T0; clear Q_T0; clear Q_Z9; clear Q_OR; clear Q_PG; clear Q_FO; clear Q_GX; have O7 := aK (Q_O7 (hall 7 (by kernel_rfl))); clear Q_O7; have FIN := aK (Q_FIN (hall 10 (by kernel_rfl))); clear Q_FIN; clear hall; go_wp2_with fail; go_roundg (NP - j)
      case measure => have := HJ.out; have := HJ2.out; omega
      case rel => exact ⟨j + 1, by first | rfl | simp, ⟨by have := HJ2.out; omega, by have := HJ.out; have := HJ2.out; omega⟩, .slice A66 (j + 1) c66, _, FIN, ⟨O7.out.1, by have := O7.out.2; rwa [← List.replicate_succ'] at this⟩, T0⟩
   case pos =>
    have t1 : decide ((i : Int) < (bad.length : Int)) = true := decide_eq_true (by omega); have t2 : decide (i < bad.length) = true := decide_eq_true (by omega); have p1 := eq_true (show (0 : Int) ≤ (i : Int) by omega); have q1 := eq_true (show (i : Int) < (bad.length : Int) by omega); have hBW : Below W.heap.size W wr := HT.out.to_below HB4.out HB4.out.size (fun k hk => by have := Zgm.out.2; have := HG3S.out.2; omega); obtain ⟨ad, cs, hA, hcl, hK, hcc⟩ := Kd.C_get (Kd.C_below HIN.out.1 hBW) 0 (i : Int) (by omega) (by omega); obtain ⟨x, hx⟩ : ∃ x, bad[i]? = some x := ⟨_, List.getElem?_eq_getElem hi⟩; have hx0 : wr.cell? (ad.add i) = some (.int .i64 x) := by
     have hk : cs = [.int .i64 (bad.getD (i : Int).toNat 0)] := hK; subst hk; have := hcc 0 _ rfl; rw [Int.toNat_natCast, List.getD_eq_getElem?_getD, hx] at this; have h' : wr.cell? (ad.add (i * 1 + 0)) = some (.int .i64 x) := this
     rwa [Nat.mul_one, Nat.add_zero] at h'
    have HX := aK hx; have HI2 := aK hi; have HAA := aK hA; have hz3 := blk_turn HZ4.out HT.out (fun e => by have := Zgm.out.2; have := HG3S.out.1; omega); have z0 := blk_cell hz3 0; obtain ⟨hw5, hw6⟩ := wrap_id (x := (i : Int) + 1) (by omega) (by have := HIN.out.2.2.1; omega); rw [hA]; clear hA hcl hK hcc hx hi hBW hz3; by_cases h0 : x ≥ 0
    case neg =>
     have t3 : decide (x ≥ 0) = false := decide_eq_false h0; have HMS := aK (marksTo_miss (B := Bn) HX.out (fun h => h0 h.1)); clear h0; go_wp2_with fail; rw [show (some ad : Option Addr) = Ab from HAA.out.symm]; go_roundg (bad.length - i)
     case measure => have := HI.out; have := HI2.out; omega
     case rel => exact ⟨i + 1, by first | rfl | simp, ⟨by have := HI2.out; omega, by have := HI.out; have := HI2.out; omega⟩, ⟨by rw [HMS.out]; exact HC.out⟩, HT⟩
    case pos =>
     have t3 : decide (x ≥ 0) = true := decide_eq_true h0; by_cases h1 : x < (Bn : Int)
     case neg =>
      have t4 : decide (x < (Bn : Int)) = false := decide_eq_false h1; have HMS := aK (marksTo_miss (B := Bn) HX.out (fun h => h1 h.2)); clear h0 h1; go_wp2_with fail; rw [show (some ad : Option Addr) = Ab from HAA.out.symm]; go_roundg (bad.length - i)
      case measure => have := HI.out; have := HI2.out; omega
      case rel => exact ⟨i + 1, by first | rfl | simp, ⟨by have := HI2.out; omega, by have := HI.out; have := HI2.out; omega⟩, ⟨by rw [HMS.out]; exact HC.out⟩, HT⟩
     case pos =>
      obtain ⟨n, rfl⟩ := Int.eq_ofNat_of_zero_le h0; have t3' : decide ((n : Int) ≥ 0) = true := decide_eq_true h0; have t4 : decide ((n : Int) < (Bn : Int)) = true := decide_eq_true h1; have t5 : decide (n < Bn) = true := decide_eq_true (by omega); have p3 := eq_true (show (0 : Int) ≤ (n : Int) by omega); have q3 := eq_true (show (n : Int) < (Bn : Int) by omega); have HMS := aK (marksTo_hit (B := Bn) HX.out (by omega)); have hz9 := blk_turn Z9.out.1 HT.out (fun e => Z9.out.2.2.1 e.symm); have z3 := blk_cell hz9 3; have zc := HC.out.cell (i := n) (by rw [marksTo_at, if_pos (by omega)]); have zf := HC.out.frozen n; have HC2 := aK (HC.out.set n (.bool true)); have HT2 := aK (HT.out.setCell (p := ⟨gm, n, none⟩) (.inl rfl) (.bool true)); clear h0 h1 hz9; go_wp2_with fail; rw [show (some ad : Option Addr) = Ab from HAA.out.symm]; go_roundg (bad.length - i)
      case measure => have := HI.out; have := HI2.out; omega
      case rel => exact ⟨i + 1, by first | rfl | simp, ⟨by have := HI2.out; omega, by have := HI.out; have := HI2.out; omega⟩, ⟨by rw [HMS.out]; exact HC2.out⟩, HT2⟩
end Go.Proofs.Ytnchdmidaigheaa.ND
namespace Go.Proofs.Ytnchdmidaigheaa.ND
set_option linter.unusedVariables false
set_option linter.unusedSimpArgs false
open Go.RowKit Go.Proofs.Ytnchdmidaigheaa.Hp Go.Proofs.YtnchdmidaigheaaW.PrintWords Go.Proofs.YtnchdmidaigheaaW.PrintLast Go.Proofs.YtnchdmidaigheaaW.PrintMore
theorem lit1_int {W : World} {g T : Nat} {k : IntKind} {x : Int} (h : W.heap[g]? = some (.cells #[.int k x] T (0, 0))) : Kd.C (Kd.int k) W (some ⟨g, 0, none⟩) 1 [x] :=
 ⟨rfl, by decide, fun _ => ⟨_, rfl, fun j p hp => by
  have hj : j = 0 := by have := (List.getElem?_eq_some_iff.1 hp).1; simp at this; exact this
  subst hj; obtain rfl : x = p := by simpa using hp
  exact ⟨[.int k x], rfl, rfl, fun i u hu => by
   have hi : i = 0 := by have := (List.getElem?_eq_some_iff.1 hu).1; simp at this; exact this
   subst hi; rw [add_plain]; exact (blk_cell h 0).trans hu⟩⟩⟩
def Held (W w : World) (L : Lay) (D : Dv) : Prop := (∃ ok, DV w ok L D) ∧ Below W.heap.size W w ∧ ∀ k, L.S k → W.heap.size ≤ k
theorem Held.below {W w w' : World} {L : Lay} {D : Dv} (h : Held W w L D) (hb : Below w.heap.size w w') : Held W w' L D := by
 obtain ⟨⟨ok, hD⟩, h2, h3⟩ := h; exact ⟨⟨ok, hD.below hb⟩, below_then h2 h2.size hb, h3⟩
theorem Held.turn {W w w' : World} {L : Lay} {D D' : Dv} {ok' : Nat → Prop} (h : Held W w L D) (hD : DV w' ok' L D') (hT : Turn w w' L.S) : Held W w' L D' :=
 ⟨⟨ok', hD⟩, hT.to_below h.2.1 h.2.1.size h.2.2, h.2.2⟩
theorem Held.lt {W w : World} {L : Lay} {D : Dv} (h : Held W w L D) : ∀ k, L.S k → k < w.heap.size := by obtain ⟨⟨ok, hD⟩, _, _⟩ := h; exact hD.lt
theorem held_new {W w w' : World} {B P C : Int} {bad : List Int} {fs : List Flt} {e : Ending} (h : NewTo w B P C bad fs e w') (h0 : Below W.heap.size W w) (hg : rightG B P C = true) : ∃ L : Lay, e = .returned (.tuple #[.pointer (some ⟨L.g, 0, none⟩), .int .i64 0]) ∧ Held W w' L (newDv B P C bad fs) := by
 obtain ⟨L, e1, hD, hL⟩ := h.2.1 hg; exact ⟨L, e1, ⟨_, hD⟩, below_then h0 h0.size h.1, fun k hk => Nat.le_trans h0.size (hL k (.inl hk))⟩
theorem held_prog {W w : World} {L : Lay} {D : Dv} {okl : Nat → Prop} (h : Held W w L D) (b p : Int) (l : List Int) (A : Option Addr) (c : Nat) (hc : l.length ≤ c) (hl : isBytes l) (gl : Kd.F (Kd.int .u8) w okl A l.length l) (hno : ∀ k, okl k → k < w.heap.size → ¬ L.S k) :
  Calls Try.prog 17 #[.pointer (some ⟨L.g, 0, none⟩), .agg #[.int .i64 b, .int .i64 p], .slice A l.length c] w fun e w' => e = .returned (.int .i64 (D.prog b p l).1) ∧ Held W w' L (D.prog b p l).2 ∧ Turn w w' L.S := by
 obtain ⟨ok, hD⟩ := h.1; refine (program_calls hD b p l A c hc hl gl hno).mono ?_; rintro e w' ⟨rfl, h1, h2⟩; exact ⟨rfl, h.turn h1 h2, h2⟩
theorem Held.dv {W w : World} {L : Lay} {D : Dv} (h : Held W w L D) : ∃ ok, DV w ok L D := h.1
def zs : List Int := List.replicate 256 0
def aF : Flt := ⟨1, 2, [15]⟩
def a0 : Dv := newDv 8 4 0 [3] [aF]
def a1 : Dv := (a0.prog 2 1 zs).2
def a2 : Dv := (a1.prog 2 0 zs).2
def a3 : Dv := (a2.prog 2 1 zs).2
def a4 : Dv := a3.power
theorem aw1 : (a0.prog 2 1 zs).1 = 11 := by decide +kernel
theorem aw2 : (a1.prog 2 0 zs).1 = 0 := by decide +kernel
theorem aw3 : (a2.prog 2 1 zs).1 = 9 := by decide +kernel
theorem aw4 : a3.down = true := by decide +kernel
theorem aw5 : (a4.read 2 1).2 = 0 := by decide +kernel
theorem aw6 : ((a4.read 2 1).1)[0]? = some 240 := by decide +kernel
theorem aw7 : (a4.there 3 && a4.mark 3) = true := by decide +kernel
theorem aw8 : a4.nextOf 2 = 2 := by decide +kernel
theorem aw9 : a4.ops = 2 := by decide +kernel
theorem aw10 : (a4.erase 3).1 = 12 := by decide +kernel
end Go.Proofs.Ytnchdmidaigheaa.ND
namespace Go.Proofs.Ytnchdmidaigheaa.ND
set_option linter.unusedVariables false
set_option linter.unusedSimpArgs false
open Go.RowKit Go.Proofs.Ytnchdmidaigheaa.Hp Go.Proofs.YtnchdmidaigheaaW.PrintWords Go.Proofs.YtnchdmidaigheaaW.PrintLast Go.Proofs.YtnchdmidaigheaaW.PrintMore
end Go.Proofs.Ytnchdmidaigheaa.ND
namespace Go.Proofs.Ytnchdmidaigheaa.GS
set_option linter.unusedVariables false
set_option linter.unusedSimpArgs false
open Go.RowKit Go.Proofs.Ytnchdmidaigheaa.Hp Go.Proofs.YtnchdmidaigheaaW.PrintWords Go.Proofs.YtnchdmidaigheaaW.PrintLast Go.Proofs.YtnchdmidaigheaaW.PrintMore
open Go.Proofs.Ytnchdmidaigheaa.ND (Dv DV Lay ReadsTo)
open Go.Proofs.Ytnchdmidaigheaa.PG (getOf cls)
abbrev Hd := S82
theorem results_ctt {P : Program} {fn : Func} {p q s : Tmp} {ty : TypeId} (h : fn.results = #[.cell p ty, .tmp q, .tmp s]) (tmps : Array Value) (w : World) (g : Nat) (t : TypeId) (cs : Array Value) (fr : Nat × Nat) (d : TypeDesc) (v u : Value)
  (hp : tmps.getD p undef = .pointer (some ⟨g, 0, none⟩)) (hq : tmps.getD q undef = v) (hs : tmps.getD s undef = u) (hg : w.heap[g]? = some (.cells cs t fr))
  (hu : P.underlying ty = some d) (hd : (match d with | .struct _ | .array _ _ => true | _ => false) = true) (hi : (P.info? ty).map (·.size) = some cs.size) :
  (results fn tmps).run P w = .ok (.tuple #[.agg cs, v, u]) w := by
 have hp' : tmps[p]?.getD undef = .pointer (some ⟨g, 0, none⟩) := by simpa using hp
 have hq' : tmps[q]?.getD undef = v := by simpa using hq
 have hs' : tmps[s]?.getD undef = u := by simpa using hs
 simp [results, h, hp', hq', hs', asAddr, run_loadVar_row w g t ty cs fr d hg hu hd hi]
abbrev Got := Hd × ByteArray × Int
def gotT (l : List Int) : Got := (⟨(getOf l).1, (getOf l).2.1, (getOf l).2.2.1, (getOf l).2.2.2.1, (getOf l).2.2.2.2.1, (getOf l).2.2.2.2.2.1, (getOf l).2.2.2.2.2.2.1⟩, (getOf l).2.2.2.2.2.2.2.1, (getOf l).2.2.2.2.2.2.2.2)
theorem get_calls {W : World} (l : List Int) (hb : isBytes l) (hl : l.length ≤ 100000) (A : Option Addr) (cp : Nat) (hc : l.length ≤ cp) (hC : Kd.C (Kd.int .u8) W A l.length l) :
  Calls Try.prog 90 #[.slice A l.length cp] W fun e w' => e = .returned (.tuple #[.agg #[.int .i64 (gotT l).1.f0, .int .i64 (gotT l).1.f1, .int .i64 (gotT l).1.f2, .int .u64 (gotT l).1.f3, .int .u64 (gotT l).1.f4, .int .i64 (gotT l).1.f5, .int .i64 (gotT l).1.f6], .string (gotT l).2.1, .int .i64 (gotT l).2.2]) ∧ Below W.heap.size W w' :=
 PG.get_calls l hb hl A cp hc _ _ _ _ _ _ _ _ _ rfl W hC
def dataR (r : List Int × Int) : Got := if r.2 = 0 then gotT r.1 else (⟨0, 0, 0, 0, 0, 0, 0⟩, ⟨#[]⟩, r.2)
def DataTo (W w' : World) (e : Ending) (g : Got) : Prop := e = .returned (.tuple #[.agg #[.int .i64 g.1.f0, .int .i64 g.1.f1, .int .i64 g.1.f2, .int .u64 g.1.f3, .int .u64 g.1.f4, .int .i64 g.1.f5, .int .i64 g.1.f6], .string g.2.1, .int .i64 g.2.2]) ∧ Below W.heap.size W w'
theorem put7h {g N : Nat} {w0 W : World} {y0 y1 y2 y3 y4 y5 y6 : Value} (x : Hd) (hz : W.heap[g]? = some (.cells #[y0, y1, y2, y3, y4, y5, y6] 82 (0, 0))) (hN : N ≤ g) (hb : Below N w0 W) :
  Below N w0 (((((((W.setCell ⟨g, 0, none⟩ (.int .i64 x.f0)).setCell ⟨g, 1, none⟩ (.int .i64 x.f1)).setCell ⟨g, 2, none⟩ (.int .i64 x.f2)).setCell ⟨g, 3, none⟩ (.int .u64 x.f3)).setCell ⟨g, 4, none⟩ (.int .u64 x.f4)).setCell ⟨g, 5, none⟩ (.int .i64 x.f5)).setCell ⟨g, 6, none⟩ (.int .i64 x.f6)) ∧
  (((((((W.setCell ⟨g, 0, none⟩ (.int .i64 x.f0)).setCell ⟨g, 1, none⟩ (.int .i64 x.f1)).setCell ⟨g, 2, none⟩ (.int .i64 x.f2)).setCell ⟨g, 3, none⟩ (.int .u64 x.f3)).setCell ⟨g, 4, none⟩ (.int .u64 x.f4)).setCell ⟨g, 5, none⟩ (.int .i64 x.f5)).setCell ⟨g, 6, none⟩ (.int .i64 x.f6)).heap[g]? = some (.cells #[.int .i64 x.f0, .int .i64 x.f1, .int .i64 x.f2, .int .u64 x.f3, .int .u64 x.f4, .int .i64 x.f5, .int .i64 x.f6] 82 (0, 0)) := by
 have h0 := blk_put hz 0 (.int .i64 x.f0) (cs' := #[.int .i64 x.f0, y1, y2, y3, y4, y5, y6]) rfl; have h1 := blk_put h0 1 (.int .i64 x.f1) (cs' := #[.int .i64 x.f0, .int .i64 x.f1, y2, y3, y4, y5, y6]) rfl; have h2 := blk_put h1 2 (.int .i64 x.f2) (cs' := #[.int .i64 x.f0, .int .i64 x.f1, .int .i64 x.f2, y3, y4, y5, y6]) rfl; have h3 := blk_put h2 3 (.int .u64 x.f3) (cs' := #[.int .i64 x.f0, .int .i64 x.f1, .int .i64 x.f2, .int .u64 x.f3, y4, y5, y6]) rfl; have h4 := blk_put h3 4 (.int .u64 x.f4) (cs' := #[.int .i64 x.f0, .int .i64 x.f1, .int .i64 x.f2, .int .u64 x.f3, .int .u64 x.f4, y5, y6]) rfl; have h5 := blk_put h4 5 (.int .i64 x.f5) (cs' := #[.int .i64 x.f0, .int .i64 x.f1, .int .i64 x.f2, .int .u64 x.f3, .int .u64 x.f4, .int .i64 x.f5, y6]) rfl; have h6 := blk_put h5 6 (.int .i64 x.f6) (cs' := #[.int .i64 x.f0, .int .i64 x.f1, .int .i64 x.f2, .int .u64 x.f3, .int .u64 x.f4, .int .i64 x.f5, .int .i64 x.f6]) rfl; exact ⟨((((((hb.setCell (p := ⟨g, 0, none⟩) hN _).setCell (p := ⟨g, 1, none⟩) hN _).setCell (p := ⟨g, 2, none⟩) hN _).setCell (p := ⟨g, 3, none⟩) hN _).setCell (p := ⟨g, 4, none⟩) hN _).setCell (p := ⟨g, 5, none⟩) hN _).setCell (p := ⟨g, 6, none⟩) hN _, h6⟩
set_option maxHeartbeats 4000000 in
set_option maxRecDepth 100000 in
theorem data_gen {W : World} (dv : Option Addr) (b p : Int) (r : List Int × Int) (hr : r.2 = 0 → isBytes r.1 ∧ r.1.length = 256)
  (hR : ∀ W', Below W.heap.size W W' → Calls Try.prog 21 #[.pointer dv, .agg #[.int .i64 b, .int .i64 p]] W' fun e w' => ReadsTo W' w' e r) :
  Calls Try.prog 47 #[.pointer dv, .agg #[.int .i64 b, .int .i64 p]] W fun e w' => DataTo W w' e (dataR r) := by
 have hz3 := heap_alloc_new W (.cells #[.int .i64 b, .int .i64 p] 37); have hb3 := below_alloc (Below.refl W.heap.size W) (.cells #[.int .i64 b, .int .i64 p] 37); have hz4 := heap_alloc_new (W.alloc (.cells #[.int .i64 b, .int .i64 p] 37)) (.cells #[.int .i64 0, .int .i64 0, .int .i64 0, .int .u64 0, .int .u64 0, .int .i64 0, .int .i64 0] 82); have hz3' := blk_below hz3 (below_alloc (Below.refl _ _) (.cells #[.int .i64 0, .int .i64 0, .int .i64 0, .int .u64 0, .int .u64 0, .int .i64 0, .int .i64 0] 82)); have hb4 := below_alloc hb3 (.cells #[.int .i64 0, .int .i64 0, .int .i64 0, .int .u64 0, .int .u64 0, .int .i64 0, .int .i64 0] 82); have hsz : (W.alloc (.cells #[.int .i64 b, .int .i64 p] 37)).heap.size = W.heap.size + 1 := by simp
 rw [hsz] at hz4; obtain ⟨g, hg⟩ : ∃ g, g = W.heap.size := ⟨_, rfl⟩; have HR := aK hR; have HRR := aK hr; clear hR hr; go_enter Try.func47, Try.ntmps47; go_upto_region 1 with fail; generalize (W.alloc (.cells #[.int .i64 b, .int .i64 p] 37)).alloc (.cells #[.int .i64 0, .int .i64 0, .int .i64 0, .int .u64 0, .int .u64 0, .int .i64 0, .int .i64 0] 82) = W1 at hz3' hz4 hb4 ⊢; clear hz3 hb3 hsz; rw [← hg] at hz3' hz4 ⊢; have HG := aK hg; have HB4 := aK (show Below W.heap.size W W1 from hb4); have HZ4 := aK hz4; have c0 := blk_cell hz3' 0; have c1 := blk_cell hz3' 1; clear hz3' hz4 hb4 hg; obtain ⟨rl, re⟩ := r; have hgl : W.heap.size ≤ g + 1 := by have := HG.out; omega
 have HGL := aK hgl; clear hgl
 cases hz : (re == 0) with
 | false =>
  have hne : (re != 0) = true := by simp [bne, hz]
  have HDT : Aside0 (dataR (rl, re) = (⟨0, 0, 0, 0, 0, 0, 0⟩, ⟨#[]⟩, re)) := ⟨by unfold dataR; rw [if_neg (by simpa using hz)]⟩; go_upto_region 3 with (go_at_call 21; refine (HR.out _ HB4.out).mono ?_; rintro e w5 ⟨A5, c5, rfl, hc5, hF5, hb⟩; have HB5 := aK (below_then HB4.out HB4.out.size hb); have HZ5 := aK (blk_below HZ4.out hb); clear hb hF5 hc5 c0 c1); have hst := put7h ⟨0, 0, 0, 0, 0, 0, 0⟩ HZ5.out HGL.out HB5.out; have HST := aK hst; have d0 := blk_cell HZ5.out 0; have d1 := blk_cell HZ5.out 1; have d2 := blk_cell HZ5.out 2; have d3 := blk_cell HZ5.out 3; have d4 := blk_cell HZ5.out 4; have d5 := blk_cell HZ5.out 5; have d6 := blk_cell HZ5.out 6; have e0 := blk_frozen HZ5.out 0; have e1 := blk_frozen HZ5.out 1; have e2 := blk_frozen HZ5.out 2; have e3 := blk_frozen HZ5.out 3; have e4 := blk_frozen HZ5.out 4; have e5 := blk_frozen HZ5.out 5; have e6 := blk_frozen HZ5.out 6; clear hst; go_wp2_with fail; (try simp only [Exit.inBlock, Exit.then]); refine bodyPost_ret (results_ctt rfl _ _ (g + 1) 82 _ (0, 0) _ _ _ rfl rfl rfl HST.out.2 Try.underlying82 rfl (by kernel_rfl)) rfl ?_; exact ⟨by rw [HDT.out]; rfl, HST.out.1⟩
 | true =>
  have hre : re = 0 := by simpa using hz
  subst hre; have HDT : Aside0 (dataR (rl, 0) = gotT rl) := ⟨by unfold dataR; rw [if_pos rfl]⟩; have HPG := aK (HRR.out rfl); obtain ⟨x, hx⟩ : ∃ x, x = gotT rl := ⟨_, rfl⟩; rw [← hx] at HDT; have HX := aK hx; have HGC : Aside0 (∀ W' A c, rl.length ≤ c → Kd.C (Kd.int .u8) W' A rl.length rl → Calls Try.prog 90 #[.slice A rl.length c] W' fun e w' => e = .returned (.tuple #[.agg #[.int .i64 x.1.f0, .int .i64 x.1.f1, .int .i64 x.1.f2, .int .u64 x.1.f3, .int .u64 x.1.f4, .int .i64 x.1.f5, .int .i64 x.1.f6], .string x.2.1, .int .i64 x.2.2]) ∧ Below W'.heap.size W' w') := ⟨fun W' A c hc hC => by rw [hx]; exact get_calls rl HPG.out.1 (by rw [show rl.length = 256 from HPG.out.2]; omega) A c hc hC⟩; clear hx hz; go_upto_region 4 with (go_at_call 21; refine (HR.out _ HB4.out).mono ?_; rintro e w5 ⟨A5, c5, rfl, hc5, hF5, hb⟩; have HB5 := aK (below_then HB4.out HB4.out.size hb); have HZ5 := aK (blk_below HZ4.out hb); have HC5 := aK (And.intro hc5 (Kd.F_now hF5)); clear hb hF5 hc5 c0 c1); have HGC5 := aK (HGC.out w5 A5 c5 HC5.out.1 HC5.out.2); go_wp2_with (go_at_call 90; refine HGC5.out.mono ?_; rintro e w6 ⟨rfl, hb⟩; have HB6 := aK (below_then HB5.out HB5.out.size hb); have HZ6 := aK (blk_below HZ5.out hb); clear hb; have HST := aK (put7h x.1 HZ6.out HGL.out HB6.out); have d0 := blk_cell HZ6.out 0; have d1 := blk_cell HZ6.out 1; have d2 := blk_cell HZ6.out 2; have d3 := blk_cell HZ6.out 3; have d4 := blk_cell HZ6.out 4; have d5 := blk_cell HZ6.out 5; have d6 := blk_cell HZ6.out 6; have e0 := blk_frozen HZ6.out 0; have e1 := blk_frozen HZ6.out 1; have e2 := blk_frozen HZ6.out 2; have e3 := blk_frozen HZ6.out 3; have e4 := blk_frozen HZ6.out 4; have e5 := blk_frozen HZ6.out 5; have e6 := blk_frozen HZ6.out 6); (try simp only [Exit.inBlock, Exit.then]); refine bodyPost_ret (results_ctt rfl _ _ (g + 1) 82 _ (0, 0) _ _ _ rfl rfl rfl HST.out.2 Try.underlying82 rfl (by kernel_rfl)) rfl ?_; exact ⟨by rw [HDT.out]; rfl, HST.out.1⟩
theorem read_page {D : Dv} (h : D.Ok) (b p : Int) (h0 : (D.read b p).2 = 0) : isBytes (D.read b p).1 ∧ (D.read b p).1.length = 256 := by
 unfold Dv.read at h0 ⊢; by_cases h1 : D.down = true
 ·
  rw [if_pos h1] at h0; cases h0
 ·
  rw [if_neg h1] at h0 ⊢; by_cases h2 : D.here b p = false
  ·
   rw [if_pos h2] at h0; cases h0
  ·
   rw [if_neg h2]; have hh : D.here b p = true := by cases hc : D.here b p with | true => rfl | false => exact absurd hc h2
   exact ND.page_ok h (h.idx hh).2
theorem data_calls {W : World} {ok : Nat → Prop} {L : Lay} {D : Dv} (h : DV W ok L D) (b p : Int) :
  Calls Try.prog 47 #[.pointer (some ⟨L.g, 0, none⟩), .agg #[.int .i64 b, .int .i64 p]] W fun e w' => DataTo W w' e (dataR (D.read b p)) :=
 data_gen _ b p _ (fun h0 => read_page h.ok b p h0) (fun W' hW => ND.read_calls (h.below hW) b p)
end Go.Proofs.Ytnchdmidaigheaa.GS
namespace Go.Proofs.Ytnchdmidaigheaa.GS
set_option linter.unusedVariables false
set_option linter.unusedSimpArgs false
open Go.RowKit Go.Proofs.Ytnchdmidaigheaa.Hp Go.Proofs.YtnchdmidaigheaaW.PrintWords Go.Proofs.YtnchdmidaigheaaW.PrintLast Go.Proofs.YtnchdmidaigheaaW.PrintMore
open Go.Proofs.Ytnchdmidaigheaa.ND (Dv DV Lay ReadsTo)
open Go.Proofs.Ytnchdmidaigheaa.PG (getOf cls)
theorem fld0 (B P C : Int) (W : World) : (Instr.field 23 (.agg #[.int .i64 B, .int .i64 P, .int .i64 C]) 0).run Try.prog W = .ok (.int .i64 B) W := by kernel_rfl
theorem fld1 (B P C : Int) (W : World) : (Instr.field 23 (.agg #[.int .i64 B, .int .i64 P, .int .i64 C]) 1).run Try.prog W = .ok (.int .i64 P) W := by kernel_rfl
theorem inf_int : (Try.prog.info? 3).map (fun i => (i.zero, i.size, i.bytes)) = some (some (.int .i64 0), 1, 8) := by kernel_rfl
def someTo (D : Dv) (m : Bool) (i : Nat) : List Int := ((List.range i).filter fun (b : Nat) => decide (2 ≤ b) && (D.mark (b : Int) == m)).map fun (b : Nat) => (b : Int)
def someL (D : Dv) (m : Bool) : List Int := someTo D m D.B.toNat
theorem someTo_two (D : Dv) (m : Bool) : someTo D m 2 = [] := by
 unfold someTo; rw [show List.range 2 = [0, 1] from rfl]; rfl
theorem someTo_succ (D : Dv) (m : Bool) {i : Nat} (hi : 2 ≤ i) : someTo D m (i + 1) = someTo D m i ++ (if (D.mark (i : Int) == m) = true then [(i : Int)] else []) := by
 unfold someTo; rw [List.range_succ, List.filter_append, List.map_append]; by_cases h : (D.mark (i : Int) == m) = true
 ·
  rw [if_pos h]; simp [h, hi]
 ·
  rw [if_neg h]; simp [h]
theorem someTo_len (D : Dv) (m : Bool) (i : Nat) : (someTo D m i).length ≤ i := by
 unfold someTo; rw [List.length_map]; have := List.length_filter_le (fun (b : Nat) => decide (2 ≤ b) && (D.mark (b : Int) == m)) (List.range i); rw [List.length_range] at this; exact this
def RowTo (W w' : World) (e : Ending) (l : List Int) : Prop := ∃ v, e = .returned v ∧ (Kd.int .i64).R 3 w' W.heap.size (fun k => W.heap.size ≤ k) v l ∧ Below W.heap.size W w'
set_option maxHeartbeats 4000000 in
set_option maxRecDepth 100000 in
theorem some_calls {W : World} {ok : Nat → Prop} {L : Lay} {D : Dv} (h : DV W ok L D) (m : Bool) :
  Calls Try.prog 92 #[.pointer (some ⟨L.g, 0, none⟩), .bool m] W fun e w' => RowTo W w' e (someL D m) := by
 have H := aK h; obtain ⟨Bn, hBn⟩ := Int.eq_ofNat_of_zero_le (show 0 ≤ D.B by have := h.ok.b1; omega); have HBB : Aside0 (D.B = (Bn : Int) ∧ 8 ≤ Bn ∧ Bn ≤ 34) := ⟨hBn, by have := h.ok.b1; omega, by have := h.ok.b2; omega⟩; clear h hBn; go_enter Try.func92, Try.ntmps92; go_wp2_with fail
 go_loopg [5, 6] (Bn + 1) (fun kq v5 v6 w' => ∃ i : Nat, v6 = .int .i64 (i : Int) ∧ Aside0 (2 ≤ i ∧ i ≤ Bn ∧ kq + i ≤ Bn + 3 ∧ Bn < kq + i) ∧ Aside0 ((Kd.int .i64).R 3 w' W.heap.size (fun k => W.heap.size ≤ k) v5 (someTo D m i)) ∧ Aside0 (Below W.heap.size W w'))
 case atStart => exact ⟨2, rfl, ⟨by decide, by have := HBB.out.2.1; omega, by omega, by omega⟩, ⟨by rw [someTo_two]; exact Kd.R_nil _ _ _ _ _⟩, ⟨Below.refl _ _⟩⟩
 case round =>
  obtain ⟨i, rfl, HI, HO, BB⟩ := hrel; have kf := fld0 (Bn : Int) D.P D.C; have HSI := aK (ND.sides_calls (H.out.below BB.out)); rw [HBB.out.1] at HSI; by_cases hi : i < Bn
  case neg =>
   have hie : i = Bn := by have := HI.out; omega
   have t1 : decide ((i : Int) < (Bn : Int)) = false := decide_eq_false (by omega); have t2 : decide (i < Bn) = false := decide_eq_false hi; have ho : Aside0 ((Kd.int .i64).R 3 wr W.heap.size (fun k => W.heap.size ≤ k) u5 (someL D m)) := ⟨by
    have k := HO.out; rw [hie] at k; unfold someL; rw [HBB.out.1, Int.toNat_natCast]; exact k⟩
   clear HO hi hie; go_wp2_with (go_at_call 23; refine HSI.out.mono ?_; rintro e w2 ⟨rfl, hb⟩; have HB2 := aK (below_then BB.out BB.out.size hb); have ho2 := aK (Kd.R_below (Kd.R_mono (Kd.R_bound ho.out) (fun k hk => (⟨hk.1, hk.2.2.1⟩ : W.heap.size ≤ k ∧ k < wr.heap.size))) hb); clear hb); go_ret; exact ⟨_, rfl, Kd.R_mono ho2.out (fun k hk => hk.1), HB2.out⟩
  case pos =>
   have t1 : decide ((i : Int) < (Bn : Int)) = true := decide_eq_true (by omega); have t2 : decide (i < Bn) = true := decide_eq_true hi; have hth : D.there (i : Int) = true := ND.there_iff.2 ⟨by omega, by rw [HBB.out.1]; omega⟩; have HTH := aK hth; obtain ⟨mk, hmk⟩ : ∃ x, x = D.mark (i : Int) := ⟨_, rfl⟩; have HSC := aK (someTo_succ D m HI.out.1); rw [← hmk] at HSC; have HMC : Aside0 (∀ W', Below W.heap.size W W' → Calls Try.prog 30 #[.pointer (some ⟨L.g, 0, none⟩), .int .i64 (i : Int)] W' fun e w' => e = .returned (.bool mk) ∧ Below W'.heap.size W' w') := ⟨fun W' hW => by
    have k := ND.marked_calls (H.out.below hW) (i : Int); rw [HTH.out, Bool.true_and, ← hmk] at k; exact k⟩
   have HI2 := aK hi; have hw3 : IntKind.i64.wrap ((i : Int) + 1) = (i : Int) + 1 := (ND.wrap_id (by omega) (by have := HBB.out.2.2; omega)).1; have HLT := aK (Kd.R_lt HO.out); have HO1 := aK (Kd.R_mono (Kd.R_bound HO.out) (fun k hk => (⟨hk.1, hk.2.2.1⟩ : W.heap.size ≤ k ∧ k < wr.heap.size))); clear hi hth hmk HO; go_upto_region 5 with (go_at_call 23; refine HSI.out.mono ?_; rintro e w2 ⟨rfl, hb⟩; have HB2 := aK (below_then BB.out BB.out.size hb); have HO2 := aK (Kd.R_below HO1.out hb); clear hb)
   cases hmm : (mk == m) with
   | false =>
    have HN : Aside0 (someTo D m (i + 1) = someTo D m i) := ⟨by rw [HSC.out, hmm, if_neg (by decide), List.append_nil]⟩; go_wp2_with (go_at_call 30; refine (HMC.out _ HB2.out).mono ?_; rintro e w3 ⟨rfl, hb⟩; have HB3 := aK (below_then HB2.out HB2.out.size hb); have HO3 := aK (Kd.R_below HO2.out hb); clear hb); go_roundg (gk - 1)
    case measure => have := HI.out; have := HI2.out; omega
    case rel => exact ⟨i + 1, by first | rfl | go_num, ⟨by have := HI.out; omega, by have := HI2.out; omega, by have := HI.out; omega, by have := HI.out; omega⟩, ⟨by rw [HN.out]; exact Kd.R_mono HO3.out (fun k hk => hk.1)⟩, HB3⟩
   | true =>
    have HN : Aside0 (someTo D m (i + 1) = someTo D m i ++ [(i : Int)]) := ⟨by rw [HSC.out, hmm, if_pos rfl]⟩; have HLN : Aside0 ((someTo D m i).length ≤ 1000) := ⟨by have := someTo_len D m i; have := HBB.out.2.2; have := HI2.out; omega⟩; go_wp2_with (first | (go_at_call 30; refine (HMC.out _ HB2.out).mono ?_; rintro e w3 ⟨rfl, hb⟩; have HB3 := aK (below_then HB2.out HB2.out.size hb); have HO3 := aK (Kd.R_mono (Kd.R_below HO2.out hb) (fun k hk => hk.1)); clear hb) | (at_builtin; (refine Kd.R_append (Kd.int .i64) W.heap.size rfl _ _ 24 3 _ 8 rfl Try.underlying24 inf_int rfl (by decide) (by decide) u5 _ (i : Int) [.int .i64 (i : Int)] (fun k => W.heap.size ≤ k) (fun _ => False) rfl rfl rfl (fun k hk => hk.elim) (fun k hk => Nat.le_trans HB3.out.size hk) HO3.out HB3.out HB3.out.size (Nat.le_trans (Nat.mul_le_mul_right 8 (Nat.succ_le_succ HLN.out)) (by decide)) ?_); intro v1 w5 ho5 hb5 hg5 _; replace ho5 := aK ho5; replace hb5 := aK hb5; clear hg5)); go_roundg (gk - 1)
    case measure => have := HI.out; have := HI2.out; omega
    case rel => exact ⟨i + 1, by first | rfl | go_num, ⟨by have := HI.out; omega, by have := HI2.out; omega, by have := HI.out; omega, by have := HI.out; omega⟩, ⟨by rw [HN.out]; exact ho5.out⟩, hb5⟩
set_option maxHeartbeats 2000000 in
set_option maxRecDepth 100000 in
theorem blocks_calls {W : World} {ok : Nat → Prop} {L : Lay} {D : Dv} (h : DV W ok L D) : Calls Try.prog 49 #[.pointer (some ⟨L.g, 0, none⟩)] W fun e w' => RowTo W w' e (someL D false) := by
 have HS := aK (some_calls h false); clear h; go_enter Try.func49, Try.ntmps49; go_wp2_with (go_at_call 92; refine HS.out.mono ?_; rintro e w2 ⟨v, rfl, hR, hb⟩; have HR := aK hR; have HB := aK hb; clear hR hb); go_ret; exact ⟨_, rfl, HR.out, HB.out⟩
set_option maxHeartbeats 2000000 in
set_option maxRecDepth 100000 in
theorem marked_calls {W : World} {ok : Nat → Prop} {L : Lay} {D : Dv} (h : DV W ok L D) : Calls Try.prog 58 #[.pointer (some ⟨L.g, 0, none⟩)] W fun e w' => RowTo W w' e (someL D true) := by
 have HS := aK (some_calls h true); clear h; go_enter Try.func58, Try.ntmps58; go_wp2_with (go_at_call 92; refine HS.out.mono ?_; rintro e w2 ⟨v, rfl, hR, hb⟩; have HR := aK hR; have HB := aK hb; clear hR hb); go_ret; exact ⟨_, rfl, HR.out, HB.out⟩
def blankTo (D : Dv) (b : Int) (k : Nat) : Bool := (List.range k).all fun j => (D.read b (j : Int)).2 == 0 && cls (D.read b (j : Int)).1 == 0
def blankL (D : Dv) (b : Int) : Bool := blankTo D b D.P.toNat
theorem blankTo_succ (D : Dv) (b : Int) (k : Nat) : blankTo D b (k + 1) = (blankTo D b k && ((D.read b (k : Int)).2 == 0 && cls (D.read b (k : Int)).1 == 0)) := by
 unfold blankTo; rw [List.range_succ, List.all_append]; simp
theorem blankTo_no (D : Dv) (b : Int) {k n : Nat} (h : blankTo D b k = false) (hk : k ≤ n) : blankTo D b n = false := by
 induction n with
 | zero => rw [show k = 0 by omega] at h; exact h
 | succ n ih =>
  rcases Nat.lt_or_ge n k with h1 | h1
  ·
   rw [show n + 1 = k by omega]; exact h
  ·
   rw [blankTo_succ, ih h1, Bool.false_and]
set_option maxHeartbeats 4000000 in
set_option maxRecDepth 100000 in
theorem blank_calls {W : World} {ok : Nat → Prop} {L : Lay} {D : Dv} (h : DV W ok L D) (b : Int) :
  Calls Try.prog 48 #[.pointer (some ⟨L.g, 0, none⟩), .int .i64 b] W fun e w' => e = .returned (.bool (blankL D b)) ∧ Below W.heap.size W w' := by
 have H := aK h; obtain ⟨Pn, hPn⟩ := Int.eq_ofNat_of_zero_le (show 0 ≤ D.P by have := h.ok.p1; omega); have HPP : Aside0 (D.P = (Pn : Int) ∧ 4 ≤ Pn ∧ Pn ≤ 32) := ⟨hPn, by have := h.ok.p1; omega, by have := h.ok.p2; omega⟩; have HBL : Aside0 (blankL D b = blankTo D b Pn) := ⟨by unfold blankL; rw [hPn, Int.toNat_natCast]⟩; have HSI := aK (ND.sides_calls h); rw [HPP.out.1] at HSI; have kf := fld1 D.B (Pn : Int) D.C; clear h hPn; go_enter Try.func48, Try.ntmps48; go_wp2_with (go_at_call 23; refine HSI.out.mono ?_; rintro e w2 ⟨rfl, hb⟩; have HB2 := aK hb; clear hb)
 go_loopg [11] (Pn + 1) (fun kq v11 w' => ∃ i : Nat, v11 = .int .i64 (i : Int) ∧ Aside0 (i ≤ Pn ∧ kq + i = Pn + 1) ∧ Aside0 (blankTo D b i = true) ∧ Aside0 (Below W.heap.size W w'))
 case atStart => exact ⟨0, rfl, ⟨Nat.zero_le _, rfl⟩, ⟨rfl⟩, HB2⟩
 case round =>
  obtain ⟨i, rfl, HI, HT, BB⟩ := hrel; clear HB2; by_cases hi : i < Pn
  case neg =>
   have hie : i = Pn := by have := HI.out; omega
   have t1 : decide ((i : Int) < (Pn : Int)) = false := decide_eq_false (by omega); have t2 : decide (i < Pn) = false := decide_eq_false hi; have HE : Aside0 (blankL D b = true) := ⟨by rw [HBL.out, ← hie]; exact HT.out⟩; clear hi hie; go_wp2_with fail; go_ret; exact ⟨by rw [HE.out]; rfl, BB.out⟩
  case pos =>
   have t1 : decide ((i : Int) < (Pn : Int)) = true := decide_eq_true (by omega); have t2 : decide (i < Pn) = true := decide_eq_true hi; have HRC := aK (ND.read_calls (H.out.below BB.out) b (i : Int)); have HPG := aK (read_page H.out.ok b (i : Int)); have HSU := aK (blankTo_succ D b i); obtain ⟨rl, hrl⟩ : ∃ r, r = D.read b (i : Int) := ⟨_, rfl⟩; rw [← hrl] at HRC HPG HSU; obtain ⟨rl, re⟩ := rl; have HI2 := aK hi; have hw3 : IntKind.i64.wrap ((i : Int) + 1) = (i : Int) + 1 := (ND.wrap_id (by omega) (by have := HPP.out.2.2; omega)).1; clear hrl hi
   cases hz : (re == 0) with
   | false =>
    have hne : (re != 0) = true := by simp [bne, hz]
    have HE : Aside0 (blankL D b = false) := ⟨by rw [HBL.out]; exact blankTo_no D b (k := i + 1) (by rw [HSU.out]; simp [hz]) (by have := HI2.out; omega)⟩; go_wp2_with (go_at_call 21; refine HRC.out.mono ?_; rintro e w5 ⟨A5, c5, rfl, hc5, hF5, hb⟩; have HB5 := aK (below_then BB.out BB.out.size hb); clear hb hF5 hc5); go_ret; exact ⟨by rw [HE.out]; rfl, HB5.out⟩
   | true =>
    have hre : re = 0 := by simpa using hz
    subst hre; have HPO := aK (HPG.out rfl); obtain ⟨cl, hcl⟩ : ∃ c, c = cls rl := ⟨_, rfl⟩; have HCL := aK hcl; have HCC : Aside0 (∀ W' A c, rl.length ≤ c → Kd.C (Kd.int .u8) W' A rl.length rl → Calls Try.prog 91 #[.slice A rl.length c] W' fun e w' => e = .returned (.int .i64 cl) ∧ Below W'.heap.size W' w') := ⟨fun W' A c hc hC => PG.class_calls rl HPO.out.1 (by rw [show rl.length = 256 from HPO.out.2]; omega) A c hc cl hcl.symm W' hC⟩; have HRD : Aside0 (∀ w5 A5 c5, (Kd.int .u8).F w5 (fun k => wr.heap.size ≤ k) A5 rl.length rl → rl.length ≤ c5 → Calls Try.prog 91 #[.slice A5 rl.length c5] w5 fun e w' => e = .returned (.int .i64 cl) ∧ Below w5.heap.size w5 w') := ⟨fun w5 A5 c5 hF hc => HCC.out w5 A5 c5 hc (Kd.F_now hF)⟩; clear hcl hz
    cases hc0 : (cl == 0) with
    | false =>
     have hne : (cl != 0) = true := by simp [bne, hc0]
     have HE : Aside0 (blankL D b = false) := ⟨by rw [HBL.out]; exact blankTo_no D b (k := i + 1) (by rw [HSU.out]; show (_ && ((0 : Int) == 0 && cls rl == 0)) = false; rw [← HCL.out, hc0]; simp) (by have := HI2.out; omega)⟩; go_wp2_with (first | (go_at_call 21; refine HRC.out.mono ?_; rintro e w5 ⟨A5, c5, rfl, hc5, hF5, hb⟩; have HB5 := aK (below_then BB.out BB.out.size hb); have HC5 := aK (HRD.out _ _ _ hF5 hc5); clear hb hF5 hc5) | (go_at_call 91; refine HC5.out.mono ?_; rintro e w6 ⟨rfl, hb⟩; have HB6 := aK (below_then HB5.out HB5.out.size hb); clear hb)); go_ret; exact ⟨by rw [HE.out]; rfl, HB6.out⟩
    | true =>
     have hne : (cl != 0) = false := by simp [bne, hc0]
     have HN : Aside0 (blankTo D b (i + 1) = true) := ⟨by rw [HSU.out, HT.out]; show (true && ((0 : Int) == 0 && cls rl == 0)) = true; rw [← HCL.out, hc0]; rfl⟩; go_wp2_with (first | (go_at_call 21; refine HRC.out.mono ?_; rintro e w5 ⟨A5, c5, rfl, hc5, hF5, hb⟩; have HB5 := aK (below_then BB.out BB.out.size hb); have HC5 := aK (HRD.out _ _ _ hF5 hc5); clear hb hF5 hc5) | (go_at_call 91; refine HC5.out.mono ?_; rintro e w6 ⟨rfl, hb⟩; have HB6 := aK (below_then HB5.out HB5.out.size hb); clear hb)); go_roundg (Pn - i)
     case measure => have := HI.out; have := HI2.out; omega
     case rel => exact ⟨i + 1, by first | rfl | go_num, ⟨by have := HI2.out; omega, by have := HI.out; have := HI2.out; omega⟩, HN, HB6⟩
end Go.Proofs.Ytnchdmidaigheaa.GS
namespace Go.Proofs.Ytnchdmidaigheaa.GS
set_option linter.unusedVariables false
set_option linter.unusedSimpArgs false
open Go.RowKit Go.Proofs.Ytnchdmidaigheaa.Hp Go.Proofs.YtnchdmidaigheaaW.PrintWords Go.Proofs.YtnchdmidaigheaaW.PrintLast Go.Proofs.YtnchdmidaigheaaW.PrintMore
open Go.Proofs.Ytnchdmidaigheaa.ND (Dv DV Lay ReadsTo)
open Go.Proofs.Ytnchdmidaigheaa.PG (getOf cls)
abbrev Fd := S94
theorem inf_fd : (Try.prog.info? 94).map (fun i => (i.zero, i.size, i.bytes)) = some (some (.agg #[.int .i64 0, .int .i64 0, .int .i64 0, .int .i64 0, .int .i64 0, .int .u64 0, .int .u64 0, .int .i64 0, .int .i64 0]), 9, 72) := by kernel_rfl
theorem bldF (b p k0 k1 k2 k3 k4 k5 k6 : Int) (W : World) : (Instr.build 94 #[(0, .agg #[.int .i64 b, .int .i64 p]), (1, .agg #[.int .i64 k0, .int .i64 k1, .int .i64 k2, .int .u64 k3, .int .u64 k4, .int .i64 k5, .int .i64 k6])]).run Try.prog W = .ok (.agg #[.int .i64 b, .int .i64 p, .int .i64 k0, .int .i64 k1, .int .i64 k2, .int .u64 k3, .int .u64 k4, .int .i64 k5, .int .i64 k6]) W := by kernel_rfl
def foundR (b p : Int) (g : Got) : List Fd := if g.2.2 = 0 ∧ g.1.f0 ≠ 1 then [⟨⟨b, p⟩, g.1⟩] else []
def foundAt (D : Dv) (b p : Int) : List Fd := foundR b p (dataR (D.read b p))
def OutOk (W : World) (base go : Nat) (l : List Fd) : Prop := ∃ v, W.heap[go]? = some (.cells #[v] 77 (0, 0)) ∧ k94.R 94 W base (fun k => go < k) v l
def SeeTo (W w' : World) (e : Ending) (base gd go : Nat) (o : Obj) (l : List Fd) : Prop := e = .returned (.tuple #[]) ∧ OutOk w' base go l ∧ Below base W w' ∧ w'.heap[gd]? = some o
set_option maxHeartbeats 4000000 in
set_option maxRecDepth 100000 in
theorem see_calls {W : World} {ok : Nat → Prop} {L : Lay} {D : Dv} (h : DV W ok L D) {gd go base : Nat} {l : List Fd} (hgd : W.heap[gd]? = some (.cells #[.pointer (some ⟨L.g, 0, none⟩)] 31 (0, 0))) (ho : OutOk W base go l) (hlt : gd < go) (hbg : base ≤ gd) (hl : l.length ≤ 2000) (b p : Int) :
  Calls Try.prog 89 #[.agg #[.int .i64 b, .int .i64 p], .pointer (some ⟨gd, 0, none⟩), .pointer (some ⟨go, 0, none⟩)] W fun e w' => SeeTo W w' e base gd go (.cells #[.pointer (some ⟨L.g, 0, none⟩)] 31 (0, 0)) (l ++ foundAt D b p) := by
 obtain ⟨v, hgo, hR⟩ := ho; obtain ⟨Av, cv, rfl⟩ := Kd.R_slice hR; have hz3 := heap_alloc_new W (.cells #[.int .i64 b, .int .i64 p] 37); have hb3 := below_alloc (Below.refl W.heap.size W) (.cells #[.int .i64 b, .int .i64 p] 37); obtain ⟨g3, hg3⟩ : ∃ g, g = W.heap.size := ⟨_, rfl⟩; have HGO := aK hgo; have HGD := aK hgd; have HGL : Aside0 (go < W.heap.size ∧ gd < go ∧ base ≤ gd) := ⟨blk_lt hgo, hlt, hbg⟩; have HL := aK hl; have HR0 := aK (Kd.R_mono (Kd.R_bound hR) (fun k hk => (⟨hk.1, hk.2.2.1⟩ : go < k ∧ k < W.heap.size))); have HDC := aK (data_calls (h.below hb3) b p); unfold foundAt; obtain ⟨x, hx⟩ : ∃ x, x = dataR (D.read b p) := ⟨_, rfl⟩; rw [← hx] at HDC ⊢; obtain ⟨⟨k0, k1, k2, k3, k4, k5, k6⟩, xs, xe⟩ := x; have HDC : Aside0 (Calls Try.prog 47 #[.pointer (some ⟨L.g, 0, none⟩), .agg #[.int .i64 b, .int .i64 p]] (W.alloc (.cells #[.int .i64 b, .int .i64 p] 37)) fun e w' => e = .returned (.tuple #[.agg #[.int .i64 k0, .int .i64 k1, .int .i64 k2, .int .u64 k3, .int .u64 k4, .int .i64 k5, .int .i64 k6], .string xs, .int .i64 xe]) ∧ Below (W.alloc (.cells #[.int .i64 b, .int .i64 p] 37)).heap.size (W.alloc (.cells #[.int .i64 b, .int .i64 p] 37)) w') := ⟨HDC.out⟩; clear hx h hR hgo hgd hlt hbg hl; go_enter Try.func89, Try.ntmps89; go_upto_region 1 with fail; have HR1 := aK (Kd.R_below HR0.out hb3); generalize W.alloc (.cells #[.int .i64 b, .int .i64 p] 37) = W1 at hz3 hb3 HDC HR1 ⊢; rw [← hg3] at hz3 ⊢; have HZ3 := aK hz3; have HB3 := aK hb3; have c0 := blk_cell (blk_below HGD.out hb3) 0; have c1 := blk_cell hz3 0; have c2 := blk_cell hz3 1; clear hz3 hb3 hg3; go_upto_region 2 with (go_at_call 47; refine HDC.out.mono ?_; rintro e w2 ⟨rfl, hb⟩; have HB12 := aK hb; have HB2 := aK (below_then HB3.out HB3.out.size hb); have HZ32 := aK (blk_below HZ3.out hb); have HR2 := aK (Kd.R_below HR1.out hb); clear hb c0 c1 c2); have hz4 := heap_alloc_new w2 (.cells #[.int .i64 k0, .int .i64 k1, .int .i64 k2, .int .u64 k3, .int .u64 k4, .int .i64 k5, .int .i64 k6] 82); have hb4 := below_alloc (Below.refl w2.heap.size w2) (.cells #[.int .i64 k0, .int .i64 k1, .int .i64 k2, .int .u64 k3, .int .u64 k4, .int .i64 k5, .int .i64 k6] 82); obtain ⟨g4, hg4⟩ : ∃ g, g = w2.heap.size := ⟨_, rfl⟩; have HR4 := aK (Kd.R_below HR2.out hb4); generalize w2.alloc (.cells #[.int .i64 k0, .int .i64 k1, .int .i64 k2, .int .u64 k3, .int .u64 k4, .int .i64 k5, .int .i64 k6] 82) = W4 at hz4 hb4 HR4 ⊢; rw [← hg4] at hz4 ⊢; have HB4 := aK (below_then HB2.out HB2.out.size hb4); have HZ4 := aK hz4; have HZ34 := aK (blk_below HZ32.out hb4); have HGO4 := aK (blk_below HGO.out HB4.out); have HGD4 := aK (blk_below HGD.out HB4.out); have d0 := blk_cell hz4 0; clear hz4 hb4 hg4 HR0 HR1 HR2 HDC HB12; have keepO : Aside0 (SeeTo W W4 (.returned (.tuple #[])) base gd go (.cells #[.pointer (some ⟨L.g, 0, none⟩)] 31 (0, 0)) l) := ⟨rfl, ⟨_, HGO4.out, Kd.R_mono HR4.out (fun k hk => hk.1)⟩, HB4.out.mono (by have := HGL.out; omega), HGD4.out⟩
 cases hz : (xe == 0) with
 | false =>
  have HF : Aside0 (foundR b p (⟨k0, k1, k2, k3, k4, k5, k6⟩, xs, xe) = []) := ⟨by unfold foundR; rw [if_neg (fun h => by have h1 : xe = 0 := h.1; simp [h1] at hz)]⟩; go_wp2_with fail
  go_end0
  rw [HF.out, List.append_nil]; exact keepO.out
 | true =>
  cases hk : (k0 != 1) with
  | false =>
   have HF : Aside0 (foundR b p (⟨k0, k1, k2, k3, k4, k5, k6⟩, xs, xe) = []) := ⟨by unfold foundR; rw [if_neg (fun h => by have h2 : k0 ≠ 1 := h.2; simp at hk; exact h2 hk)]⟩; go_wp2_with fail
   go_end0
   rw [HF.out, List.append_nil]; exact keepO.out
  | true =>
   have HF : Aside0 (foundR b p (⟨k0, k1, k2, k3, k4, k5, k6⟩, xs, xe) = [⟨⟨b, p⟩, ⟨k0, k1, k2, k3, k4, k5, k6⟩⟩]) := ⟨by unfold foundR; rw [if_pos ⟨by simpa using hz, by simpa using hk⟩]⟩; go_upto_region 3 with fail; have c0 := blk_cell HGO4.out 0; have c1 := blk_cell HZ34.out 0; have c2 := blk_cell HZ34.out 1; have d1 := blk_cell HZ4.out 1; have d2 := blk_cell HZ4.out 2; have d3 := blk_cell HZ4.out 3; have d4 := blk_cell HZ4.out 4; have d5 := blk_cell HZ4.out 5; have d6 := blk_cell HZ4.out 6; have HLT := aK (Kd.R_lt HR4.out); have kb := bldF b p k0 k1 k2 k3 k4 k5 k6; have HMK := aK (k94_mkM W4 base (fun _ => False) ⟨⟨b, p⟩, ⟨k0, k1, k2, k3, k4, k5, k6⟩⟩); have HRM := aK (Kd.R_mono HR4.out (ok' := fun k => go < k) (fun k hk => hk.1)); have HBB := aK (HB4.out.mono (show base ≤ W.heap.size by have := HGL.out; omega)); have HBS := aK (Nat.le_trans (show base ≤ W.heap.size by have := HGL.out; omega) HB4.out.size); have HLL : Aside0 ((l.length + 1) * 72 ≤ 140737488355328) := ⟨by have := HL.out; omega⟩; have HFR : Aside0 (∀ k, W4.heap.size ≤ k → go < k) := ⟨fun k hk => Nat.lt_of_lt_of_le HGL.out.1 (Nat.le_trans HB4.out.size hk)⟩; have HNE : Aside0 ((Value.slice Av l.length cv).ownBlock ≠ some go ∧ (Value.slice Av l.length cv).ownBlock ≠ some gd) := ⟨fun he => by
    have k : go < go ∧ go < W.heap.size := HR4.out.1 go he; omega, fun he => by
    have k : go < gd ∧ gd < W.heap.size := HR4.out.1 gd he; have := HGL.out; omega⟩
   go_wp2_with (at_builtin; (refine Kd.R_append k94 base rfl _ _ 77 94 _ 72 rfl Try.underlying77 inf_fd rfl (by decide) (by decide) (.slice Av l.length cv) _ ⟨⟨b, p⟩, ⟨k0, k1, k2, k3, k4, k5, k6⟩⟩ [.int .i64 b, .int .i64 p, .int .i64 k0, .int .i64 k1, .int .i64 k2, .int .u64 k3, .int .u64 k4, .int .i64 k5, .int .i64 k6] (fun k => go < k) (fun _ => False) rfl rfl HMK.out (fun k hk => hk.elim) HFR.out HRM.out HBB.out HBS.out HLL.out ?_); intro v1 w5 ho5 hb5 hg5 hat5; obtain ⟨A1, c1, hv1⟩ := Kd.R_slice ho5; rw [List.length_append, List.length_cons, List.length_nil] at hv1; subst hv1; have HGO5 := aK ((hg5.block go (Nat.lt_of_lt_of_le HGL.out.1 HB4.out.size) (fun he => HNE.out.1 he.symm)).trans HGO4.out); have HGD5 := aK ((hg5.block gd (Nat.lt_of_lt_of_le (Nat.lt_trans HGL.out.2.1 HGL.out.1) HB4.out.size) (fun he => HNE.out.2 he.symm)).trans HGD4.out); replace ho5 := aK ho5; replace hb5 := aK hb5; clear hg5 hat5; have e0 := blk_cell HGO5.out 0; have f0 := blk_frozen HGO5.out 0); have q0 := blk_put HGO5.out 0 (.slice A1 (l.length + (0 + 1)) c1) (cs' := #[.slice A1 (l.length + (0 + 1)) c1]) rfl
   go_end0
   refine ⟨rfl, ⟨_, q0, ?_⟩, hb5.out.setCell (p := ⟨go, 0, none⟩) (by show base ≤ go; have := HGL.out; omega) _, (blk_far HGD5.out (p := ⟨go, 0, none⟩) (Nat.ne_of_lt HGL.out.2.1) _).trans rfl⟩; rw [HF.out]; exact Kd.R_far (p := ⟨go, 0, none⟩) ho5.out (fun k hk => Nat.ne_of_gt hk) _
end Go.Proofs.Ytnchdmidaigheaa.GS
namespace Go.Proofs.Ytnchdmidaigheaa.GS
set_option linter.unusedVariables false
set_option linter.unusedSimpArgs false
open Go.RowKit Go.Proofs.Ytnchdmidaigheaa.Hp Go.Proofs.YtnchdmidaigheaaW.PrintWords Go.Proofs.YtnchdmidaigheaaW.PrintLast Go.Proofs.YtnchdmidaigheaaW.PrintMore
open Go.Proofs.Ytnchdmidaigheaa.ND (Dv DV Lay ReadsTo)
def rowTo (D : Dv) (b : Int) (k : Nat) : List Fd := (List.range k).flatMap fun (j : Nat) => foundAt D b (j : Int)
def allTo (D : Dv) (i : Nat) : List Fd := (List.range i).flatMap fun (b : Nat) => if decide (2 ≤ b) && !D.mark (b : Int) then rowTo D (b : Int) D.P.toNat else []
def allL (D : Dv) : List Fd := allTo D D.B.toNat
theorem found_len (D : Dv) (b p : Int) : (foundAt D b p).length ≤ 1 := by unfold foundAt foundR; split <;> simp
theorem rowTo_succ (D : Dv) (b : Int) (k : Nat) : rowTo D b (k + 1) = rowTo D b k ++ foundAt D b (k : Int) := by
 unfold rowTo; rw [List.range_succ, List.flatMap_append, List.flatMap_cons, List.flatMap_nil, List.append_nil]
theorem rowTo_len (D : Dv) (b : Int) : ∀ k, (rowTo D b k).length ≤ k
 | 0 => by simp [rowTo]
 | k + 1 => by
  rw [rowTo_succ, List.length_append]; have := rowTo_len D b k; have := found_len D b (k : Int); omega
theorem allTo_succ (D : Dv) {i : Nat} (hi : 2 ≤ i) : allTo D (i + 1) = allTo D i ++ (if D.mark (i : Int) = true then [] else rowTo D (i : Int) D.P.toNat) := by
 unfold allTo; rw [List.range_succ, List.flatMap_append, List.flatMap_cons, List.flatMap_nil, List.append_nil]
 cases D.mark (i : Int) with
 | true => simp
 | false => simp [hi]
theorem allTo_len {D : Dv} (h : D.Ok) : ∀ i, (allTo D i).length ≤ 32 * i
 | 0 => by simp [allTo]
 | i + 1 => by
  have ih := allTo_len h i; have hp := h.p2; unfold allTo at ih ⊢; rw [List.range_succ, List.flatMap_append, List.flatMap_cons, List.flatMap_nil, List.append_nil, List.length_append]; have : (if (decide (2 ≤ i) && !D.mark (i : Int)) = true then rowTo D (i : Int) D.P.toNat else []).length ≤ 32 := by
   split
   ·
    have := rowTo_len D (i : Int) D.P.toNat; omega
   ·
    simp
  omega
theorem allTo_two (D : Dv) : allTo D 2 = [] := by unfold allTo; rw [show List.range 2 = [0, 1] from rfl]; simp
def AllTo (W w' : World) (e : Ending) (D : Dv) : Prop := Below W.heap.size W w' ∧ (D.down = true → e = .returned (.tuple #[.slice none 0 0, .int .i64 9])) ∧
 (D.down = false → ∃ v, e = .returned (.tuple #[v, .int .i64 0]) ∧ k94.R 94 w' W.heap.size (fun k => W.heap.size ≤ k) v (allL D))
set_option maxHeartbeats 4000000 in
set_option maxRecDepth 100000 in
theorem all_calls {W : World} {ok : Nat → Prop} {L : Lay} {D : Dv} (h : DV W ok L D) :
  Calls Try.prog 46 #[.pointer (some ⟨L.g, 0, none⟩)] W fun e w' => AllTo W w' e D := by
 have H := aK h; have hz1 := heap_alloc_new W (.cells #[.pointer (some ⟨L.g, 0, none⟩)] 31); have hb1 := below_alloc (Below.refl W.heap.size W) (.cells #[.pointer (some ⟨L.g, 0, none⟩)] 31); obtain ⟨gd, hgd⟩ : ∃ g, g = W.heap.size := ⟨_, rfl⟩; obtain ⟨Bn, hBn⟩ := Int.eq_ofNat_of_zero_le (show 0 ≤ D.B by have := h.ok.b1; omega); obtain ⟨Pn, hPn⟩ := Int.eq_ofNat_of_zero_le (show 0 ≤ D.P by have := h.ok.p1; omega); have HBB : Aside0 (D.B = (Bn : Int) ∧ 8 ≤ Bn ∧ Bn ≤ 34) := ⟨hBn, by have := h.ok.b1; omega, by have := h.ok.b2; omega⟩; have HPP : Aside0 (D.P = (Pn : Int) ∧ 4 ≤ Pn ∧ Pn ≤ 32) := ⟨hPn, by have := h.ok.p1; omega, by have := h.ok.p2; omega⟩; have HDN := aK (ND.down_calls (h.below hb1)); clear hBn hPn h
 cases hd : D.down with
 | true =>
  rw [hd] at HDN; have HD := aK hd; clear hd; go_enter Try.func46, Try.ntmps46; go_wp2_with fail
  go_step3
  go_upto_region 1 with fail; generalize W.alloc (.cells #[.pointer (some ⟨L.g, 0, none⟩)] 31) = W1 at hz1 hb1 HDN ⊢; rw [← hgd] at hz1 ⊢; have HB1 := aK hb1; have c0 := blk_cell hz1 0; clear hz1 hb1 hgd; go_wp2_with (go_at_call 29; refine HDN.out.mono ?_; rintro e w2 ⟨rfl, hb⟩; have HB2 := aK (below_then HB1.out HB1.out.size hb); clear hb); (try rw [Exit.noGoto_ret]); go_ret2; exact ⟨HB2.out, fun _ => rfl, fun h => by rw [HD.out] at h; cases h⟩
 | false =>
  rw [hd] at HDN; have HD := aK hd; clear hd; go_enter Try.func46, Try.ntmps46; go_wp2_with fail
  go_step3
  go_upto_region 1 with fail; generalize W.alloc (.cells #[.pointer (some ⟨L.g, 0, none⟩)] 31) = W1 at hz1 hb1 HDN ⊢; rw [← hgd] at hz1 ⊢; have HGD := aK hgd; have HB1 := aK hb1; have HZ1 := aK hz1; have c0 := blk_cell hz1 0; clear hz1 hb1 hgd; go_upto_region 5 with (go_at_call 29; refine HDN.out.mono ?_; rintro e w2 ⟨rfl, hb⟩; have HB2 := aK (below_then HB1.out HB1.out.size hb); have HZ2 := aK (blk_below HZ1.out hb); clear hb c0); have hz4 := heap_alloc_new w2 (.cells #[.slice none 0 0] 77); have hb4 := below_alloc (Below.refl w2.heap.size w2) (.cells #[.slice none 0 0] 77); obtain ⟨go, hgo⟩ : ∃ g, g = w2.heap.size := ⟨_, rfl⟩; go_upto_region 6 with fail; generalize w2.alloc (.cells #[.slice none 0 0] 77) = W4 at hz4 hb4 ⊢; rw [← hgo] at hz4 ⊢; have HGL : Aside0 (gd < go ∧ W.heap.size ≤ gd) := ⟨by have := blk_lt HZ2.out; omega, by have := HGD.out; omega⟩; have HB4 := aK (below_then HB2.out HB2.out.size hb4); have HZ4 := aK (blk_below HZ2.out hb4); have HO4 : Aside0 (OutOk W4 W.heap.size go (allTo D 2)) := ⟨⟨_, hz4, by rw [allTo_two]; exact Kd.R_nil _ _ _ _ _⟩⟩; clear hz4 hb4 hgo; go_wp2_with fail
  go_step3
  go_wp2_with fail
  go_loopg [6] (Bn + 1) (fun kq v6 w' => ∃ i : Nat, v6 = .int .i64 (i : Int) ∧ Aside0 (2 ≤ i ∧ i ≤ Bn ∧ kq + i ≤ Bn + 3 ∧ Bn < kq + i) ∧ Aside0 (OutOk w' W.heap.size go (allTo D i)) ∧ Aside0 (Below W.heap.size W w') ∧ Aside0 (w'.heap[gd]? = some (.cells #[.pointer (some ⟨L.g, 0, none⟩)] 31 (0, 0))))
  case atStart => exact ⟨2, rfl, ⟨by decide, by have := HBB.out.2.1; omega, by omega, by omega⟩, HO4, HB4, HZ4⟩
  case round =>
   obtain ⟨i, rfl, HI, HO, BB, ZG⟩ := hrel; clear HO4 HB4 HZ4; have c0 := blk_cell ZG.out 0; have kf := fld0 (Bn : Int) D.P D.C; have HSI := aK (ND.sides_calls (H.out.below BB.out)); rw [HBB.out.1] at HSI; by_cases hi : i < Bn
   case neg =>
    have hie : i = Bn := by have := HI.out; omega
    have t1 : decide ((i : Int) < (Bn : Int)) = false := decide_eq_false (by omega); have t2 : decide (i < Bn) = false := decide_eq_false hi; have HOE : Aside0 (OutOk wr W.heap.size go (allL D)) := ⟨by
     have k := HO.out; rw [hie] at k; unfold allL; rw [HBB.out.1, Int.toNat_natCast]; exact k⟩
    clear HO hi hie; obtain ⟨v, hgo, hR⟩ := HOE.out; have HR := aK (Kd.R_mono (Kd.R_bound hR) (fun k hk => (⟨hk.1, hk.2.2.1⟩ : go < k ∧ k < wr.heap.size))); have HGO := aK hgo; clear hgo hR HOE; go_upto_region 16 with (go_at_call 23; refine HSI.out.mono ?_; rintro e w5 ⟨rfl, hb⟩; have HB5 := aK (below_then BB.out BB.out.size hb); have HR5 := aK (Kd.R_below HR.out hb); have HGO5 := aK (blk_below HGO.out hb); clear hb c0); have e0 := blk_cell HGO5.out 0; go_wp2_with fail; (try rw [Exit.noGoto_ret]); go_ret2; exact ⟨HB5.out, (fun h => by rw [HD.out] at h; cases h), fun _ => ⟨_, rfl, Kd.R_mono HR5.out (fun k hk => by have h1 : go < k := hk.1; have := HGL.out; show W.heap.size ≤ k; omega)⟩⟩
   case pos =>
    have t1 : decide ((i : Int) < (Bn : Int)) = true := decide_eq_true (by omega); have t2 : decide (i < Bn) = true := decide_eq_true hi; have hth : D.there (i : Int) = true := ND.there_iff.2 ⟨by omega, by rw [HBB.out.1]; omega⟩; have HTH := aK hth; obtain ⟨mk, hmk⟩ : ∃ x, x = D.mark (i : Int) := ⟨_, rfl⟩; have HSC := aK (allTo_succ D HI.out.1); rw [← hmk] at HSC; have HMC : Aside0 (∀ W', Below W.heap.size W W' → Calls Try.prog 30 #[.pointer (some ⟨L.g, 0, none⟩), .int .i64 (i : Int)] W' fun e w' => e = .returned (.bool mk) ∧ Below W'.heap.size W' w') := ⟨fun W' hW => by
     have k := ND.marked_calls (H.out.below hW) (i : Int); rw [HTH.out, Bool.true_and, ← hmk] at k; exact k⟩
    have HI2 := aK hi; have hw3 : IntKind.i64.wrap ((i : Int) + 1) = (i : Int) + 1 := (ND.wrap_id (by omega) (by have := HBB.out.2.2; omega)).1; obtain ⟨v, hgo, hR⟩ := HO.out; have HR := aK (Kd.R_mono (Kd.R_bound hR) (fun k hk => (⟨hk.1, hk.2.2.1⟩ : go < k ∧ k < wr.heap.size))); have HGO := aK hgo; clear hi hth hmk HO hgo hR; go_upto_region 10 with (go_at_call 23; refine HSI.out.mono ?_; rintro e w5 ⟨rfl, hb⟩; have HB5 := aK (below_then BB.out BB.out.size hb); have HR5 := aK (Kd.R_below HR.out hb); have HGO5 := aK (blk_below HGO.out hb); have ZG5 := aK (blk_below ZG.out hb); clear hb c0); clear HR HGO ZG; have c0 := blk_cell ZG5.out 0
    cases mk with
    | true =>
     have HN : Aside0 (allTo D (i + 1) = allTo D i) := ⟨by rw [HSC.out, if_pos rfl, List.append_nil]⟩; go_wp2_with (go_at_call 30; refine (HMC.out _ HB5.out).mono ?_; rintro e w6 ⟨rfl, hb⟩; have HB6 := aK (below_then HB5.out HB5.out.size hb); have HR6 := aK (Kd.R_below HR5.out hb); have HGO6 := aK (blk_below HGO5.out hb); have ZG6 := aK (blk_below ZG5.out hb); clear hb c0); go_roundg (gk - 1)
     case measure => have := HI.out; have := HI2.out; omega
     case rel => exact ⟨i + 1, by first | rfl | go_num, ⟨by have := HI.out; omega, by have := HI2.out; omega, by have := HI.out; omega, by have := HI.out; omega⟩, ⟨by rw [HN.out]; exact ⟨_, HGO6.out, Kd.R_mono HR6.out (fun k hk => hk.1)⟩⟩, HB6, ZG6⟩
    | false =>
     have HN : Aside0 (allTo D (i + 1) = allTo D i ++ rowTo D (i : Int) Pn) := ⟨by rw [HSC.out, if_neg (by decide), HPP.out.1, Int.toNat_natCast]⟩; have kp := fld1 (Bn : Int) (Pn : Int) D.C; go_upto_region 11 with (go_at_call 30; refine (HMC.out _ HB5.out).mono ?_; rintro e w6 ⟨rfl, hb⟩; have HB6 := aK (below_then HB5.out HB5.out.size hb); have HR6 := aK (Kd.R_below HR5.out hb); have HGO6 := aK (blk_below HGO5.out hb); have ZG6 := aK (blk_below ZG5.out hb); clear hb c0); have c0 := blk_cell ZG6.out 0; have HSJ := aK (ND.sides_calls (H.out.below HB6.out)); rw [HBB.out.1, HPP.out.1] at HSJ; clear kf; go_wp2_with (go_at_call 23; refine HSJ.out.mono ?_; rintro e w7 ⟨rfl, hb⟩; have HB7 := aK (below_then HB6.out HB6.out.size hb); have HR7 := aK (Kd.R_below HR6.out hb); have HGO7 := aK (blk_below HGO6.out hb); have ZG7 := aK (blk_below ZG6.out hb); clear hb c0); have HO7 : Aside0 (OutOk w7 W.heap.size go (allTo D i ++ rowTo D (i : Int) 0)) := ⟨by rw [show rowTo D (i : Int) 0 = [] from rfl, List.append_nil]; exact ⟨_, HGO7.out, Kd.R_mono HR7.out (fun k hk => hk.1)⟩⟩; have hgk : ∃ k0, k0 = gk := ⟨_, rfl⟩; obtain ⟨gk0, hgk⟩ := hgk; have HGK := aK hgk; clear hgk
     go_loopg [28] (Pn + 1) (fun kq v28 w' => ∃ j : Nat, v28 = .int .i64 (j : Int) ∧ Aside0 (j ≤ Pn ∧ kq + j = Pn + 1) ∧ Aside0 (OutOk w' W.heap.size go (allTo D i ++ rowTo D (i : Int) j)) ∧ Aside0 (Below W.heap.size W w') ∧ Aside0 (w'.heap[gd]? = some (.cells #[.pointer (some ⟨L.g, 0, none⟩)] 31 (0, 0))))
     case atStart => exact ⟨0, rfl, ⟨Nat.zero_le _, rfl⟩, HO7, HB7, ZG7⟩
     case round =>
      obtain ⟨j, rfl, HJ, HOJ, BJ, ZJ⟩ := hrel; by_cases hj : j < Pn
      case neg =>
       have hje : j = Pn := by have := HJ.out; omega
       have t3 : decide ((j : Int) < (Pn : Int)) = false := decide_eq_false (by omega); have t4 : decide (j < Pn) = false := decide_eq_false hj; have HOE : Aside0 (OutOk wr W.heap.size go (allTo D (i + 1))) := ⟨by have k := HOJ.out; rw [hje, ← HN.out] at k; exact k⟩; clear hj hje; go_wp2_with fail; go_roundg (gk0 - 1)
       case measure => have := HI.out; have := HI2.out; have := HGK.out; omega
       case rel => exact ⟨i + 1, by first | rfl | go_num, ⟨by have := HI.out; omega, by have := HI2.out; omega, by have := HI.out; have := HGK.out; omega, by have := HI.out; have := HGK.out; omega⟩, HOE, BJ, ZJ⟩
      case pos =>
       have t3 : decide ((j : Int) < (Pn : Int)) = true := decide_eq_true (by omega); have t4 : decide (j < Pn) = true := decide_eq_true hj; have HJ2 := aK hj; have hw4 : IntKind.i64.wrap ((j : Int) + 1) = (j : Int) + 1 := (ND.wrap_id (by omega) (by have := HPP.out.2.2; omega)).1; have HLN : Aside0 ((allTo D i ++ rowTo D (i : Int) j).length ≤ 2000) := ⟨by
        rw [List.length_append]; have := allTo_len H.out.ok i; have := rowTo_len D (i : Int) j; have := HBB.out.2.2; have := HPP.out.2.2; have := HI2.out; omega⟩
       have HSE := aK (see_calls (H.out.below BJ.out) ZJ.out HOJ.out HGL.out.1 HGL.out.2 HLN.out (i : Int) (j : Int)); have HRS : Aside0 (allTo D i ++ rowTo D (i : Int) j ++ foundAt D (i : Int) (j : Int) = allTo D i ++ rowTo D (i : Int) (j + 1)) := ⟨by rw [rowTo_succ, List.append_assoc]⟩; clear hj; go_wp2_with (go_at_call 89; refine HSE.out.mono ?_; rintro e w8 ⟨rfl, ho, hb, hz⟩; have HO8 := aK ho; have HB8 := aK (BJ.out.trans hb); have ZG8 := aK hz; clear ho hb hz); go_roundg (Pn - j)
       case measure => have := HJ.out; have := HJ2.out; omega
       case rel => exact ⟨j + 1, by first | rfl | go_num, ⟨by have := HJ2.out; omega, by have := HJ.out; have := HJ2.out; omega⟩, ⟨by rw [← HRS.out]; exact HO8.out⟩, HB8, ZG8⟩
end Go.Proofs.Ytnchdmidaigheaa.GS
namespace Go.Proofs.Ytnchdmidaigheaa.GS
set_option linter.unusedVariables false
open Go.RowKit Go.Proofs.Ytnchdmidaigheaa.Hp Go.Proofs.YtnchdmidaigheaaW.PrintWords Go.Proofs.YtnchdmidaigheaaW.PrintLast
open Go.Proofs.Ytnchdmidaigheaa.ND (Dv)
def refAt (D : Dv) (k : Nat) : List Fd := if decide (2 * D.P.toNat ≤ k) && !D.mark ((k / D.P.toNat : Nat) : Int) then foundAt D ((k / D.P.toNat : Nat) : Int) ((k % D.P.toNat : Nat) : Int) else []
def refTo (D : Dv) (k : Nat) : List Fd := (List.range k).flatMap (refAt D)
theorem refTo_succ (D : Dv) (k : Nat) : refTo D (k + 1) = refTo D k ++ refAt D k := by
 unfold refTo; rw [List.range_succ, List.flatMap_append, List.flatMap_cons, List.flatMap_nil, List.append_nil]
theorem ref_row {D : Dv} (i : Nat) : ∀ n, n ≤ D.P.toNat → refTo D (i * D.P.toNat + n) = refTo D (i * D.P.toNat) ++ (if decide (2 ≤ i) && !D.mark (i : Int) then rowTo D (i : Int) n else [])
 | 0, _ => by simp [rowTo]
 | n + 1, h => by
  have hp : 0 < D.P.toNat := by omega
  have hd : (i * D.P.toNat + n) / D.P.toNat = i := by rw [Nat.mul_comm, Nat.mul_add_div hp, Nat.div_eq_of_lt (by omega), Nat.add_zero]
  have hm : (i * D.P.toNat + n) % D.P.toNat = n := by rw [Nat.mul_comm, Nat.mul_add_mod, Nat.mod_eq_of_lt (by omega)]
  have h2 : decide (2 * D.P.toNat ≤ i * D.P.toNat + n) = decide (2 ≤ i) := by
   apply decide_eq_decide.2
   constructor
   ·
    intro h3
    rcases Nat.lt_or_ge i 2 with h4 | h4
    ·
     have h5 : (i + 1) * D.P.toNat ≤ 2 * D.P.toNat := Nat.mul_le_mul_right _ (by omega); rw [Nat.succ_mul] at h5; omega
    ·
     exact h4
   ·
    intro h3; have h5 : 2 * D.P.toNat ≤ i * D.P.toNat := Nat.mul_le_mul_right _ h3; omega
  rw [← Nat.add_assoc, refTo_succ, ref_row i n (by omega), List.append_assoc]
  congr 1
  unfold refAt; rw [hd, hm, h2, rowTo_succ]; by_cases h3 : (decide (2 ≤ i) && !D.mark (i : Int)) = true
  ·
   rw [if_pos h3, if_pos h3, if_pos h3]
  ·
   rw [if_neg h3, if_neg h3, if_neg h3]; rfl
theorem ref_all (D : Dv) : ∀ i, refTo D (i * D.P.toNat) = allTo D i
 | 0 => by simp [refTo, allTo]
 | i + 1 => by
  rw [Nat.succ_mul, ref_row i _ (Nat.le_refl _), ref_all D i]; unfold allTo; rw [List.range_succ, List.flatMap_append, List.flatMap_cons, List.flatMap_nil, List.append_nil]
end Go.Proofs.Ytnchdmidaigheaa.GS
namespace Go.Proofs.Ytnchdmidaigheaa.GS
set_option linter.unusedVariables false
open Go.RowKit Go.Proofs.Ytnchdmidaigheaa.Hp Go.Proofs.YtnchdmidaigheaaW.PrintWords Go.Proofs.YtnchdmidaigheaaW.PrintLast
open Go.Proofs.Ytnchdmidaigheaa.ND (Dv)
open Go.Proofs.Ytnchdmidaigheaa.PG (getOf cls rightL)
set_option maxRecDepth 100000
theorem right_ones : rightL (List.replicate 256 255) = false := by decide +kernel
theorem rget_got {l : List Int} (hb : isBytes l) (hl : l.length = 256) : wagtailref15_Get.f (strOfNums l) = some ((gotT l).1.f0, (gotT l).1.f1, (gotT l).1.f2, (gotT l).1.f3, (gotT l).1.f4, (gotT l).1.f5, (gotT l).1.f6, (gotT l).2.1, (gotT l).2.2 == 0) := by
 rw [PG.rget_val l hb]; by_cases h0 : l = List.replicate 256 255
 ·
  have hc : cls l = 0 := by unfold cls; rw [if_pos hl, if_pos h0]
  have hr : rightL l = false := by rw [h0]; exact right_ones
  rw [if_neg (fun h => by rw [hr] at h; cases h.2)]; unfold gotT getOf; rw [if_pos hc]; rfl
 ·
  by_cases hr : rightL l = true
  ·
   have hc : cls l = 1 := by unfold cls; rw [if_pos hl, if_neg h0, if_pos hr]
   rw [if_pos ⟨hl, hr⟩]; unfold gotT getOf; rw [if_neg (by rw [hc]; decide), if_neg (by rw [hc]; decide)]; rfl
  ·
   have hc : cls l = 2 := by unfold cls; rw [if_pos hl, if_neg h0, if_neg hr]
   rw [if_neg (fun h => hr h.2)]; unfold gotT getOf; rw [if_neg (by rw [hc]; decide), if_pos hc]; rfl
end Go.Proofs.Ytnchdmidaigheaa.GS
namespace Go.Proofs.Ytnchdmidaigheaa.ND
set_option linter.unusedVariables false
set_option linter.unusedSimpArgs false
open Go.RowKit Go.Proofs.Ytnchdmidaigheaa.Hp Go.Proofs.YtnchdmidaigheaaW.PrintWords Go.Proofs.YtnchdmidaigheaaW.PrintLast Go.Proofs.YtnchdmidaigheaaW.PrintMore
structure XLay where
 g : Nat
 gp : Nat
 gn : Nat
 gw : Nat
 cp : Nat
 cn : Nat
 cw : Nat
 Am : Option Addr
 cm : Nat
 Af : Option Addr
 cf : Nat
def XLay.S (L : XLay) (k : Nat) : Prop := k = L.g ∨ k = L.gp ∨ k = L.gn ∨ k = L.gw
def XLay.top (L : XLay) (D : Dv) : Array Value := #[.int .i64 D.B, .int .i64 D.P, .int .i64 D.C, .slice L.Am D.bad.length L.cm, .slice (some ⟨L.gp, 0, none⟩) D.pages.length L.cp, .slice (some ⟨L.gn, 0, none⟩) D.next.length L.cn, .slice (some ⟨L.gw, 0, none⟩) D.wear.length L.cw, .slice L.Af D.faults.length L.cf, .int .i64 D.ops, .bool D.down]
def texts (l : List (List Int)) : List Value := l.map fun x => .string (strOfNums x)
structure XV (W : World) (ok : Nat → Prop) (L : XLay) (D : Dv) : Prop where
 top : W.heap[L.g]? = some (.cells (L.top D) 54 (0, 0))
 nx : Cells W L.gn 3 (D.next.map (Value.int .i64))
 we : Cells W L.gw 3 (D.wear.map (Value.int .i64))
 pg : Cells W L.gp 9 (texts D.pages)
 mb : Kd.F (Kd.int .i64) W ok L.Am D.bad.length D.bad ∧ D.bad.length ≤ L.cm
 fl : Kd.F k65 W ok L.Af D.faults.length D.faults ∧ D.faults.length ≤ L.cf
 ne : L.gp ≠ L.g ∧ L.gn ≠ L.g ∧ L.gw ≠ L.g ∧ L.gp ≠ L.gn ∧ L.gp ≠ L.gw ∧ L.gn ≠ L.gw
 no : ∀ k, ok k → k < W.heap.size → ¬ L.S k
 ok : D.Ok
section
variable {W W' : World} {ok : Nat → Prop} {L : XLay} {D : Dv}
theorem XV.lt (h : XV W ok L D) : ∀ k, L.S k → k < W.heap.size := by
 rintro k (rfl | rfl | rfl | rfl)
 ·
  exact blk_lt h.top
 ·
  exact h.pg.lt
 ·
  exact h.nx.lt
 ·
  exact h.we.lt
theorem XV.step (h : XV W ok L D) (hm : ∀ k, ok k ∨ L.S k → k < W.heap.size → W'.heap[k]? = W.heap[k]?) (hn : ∀ k, ok k → k < W'.heap.size → ¬ L.S k) : XV W' ok L D where
 top := (hm _ (.inr (.inl rfl)) (blk_lt h.top)).trans h.top
 nx := h.nx.same (hm _ (.inr (.inr (.inr (.inl rfl)))) h.nx.lt)
 we := h.we.same (hm _ (.inr (.inr (.inr (.inr rfl)))) h.we.lt)
 pg := h.pg.same (hm _ (.inr (.inr (.inl rfl))) h.pg.lt)
 mb := ⟨Kd.F_step h.mb.1 (fun k hk hl => hm k (.inl hk) hl), h.mb.2⟩
 fl := ⟨Kd.F_step h.fl.1 (fun k hk hl => hm k (.inl hk) hl), h.fl.2⟩
 ne := h.ne
 no := hn
 ok := h.ok
theorem XV.turn {S : Nat → Prop} (h : XV W ok L D) (ht : Turn W W' S) (hS : ∀ k, ok k ∨ L.S k → k < W.heap.size → ¬ S k) : XV W' ok L D :=
 h.step (fun k hk hl => ht.block k hl (hS k hk hl)) (fun k hk _ hS' => h.no k hk (h.lt k hS') hS')
theorem XV.below (h : XV W ok L D) (hb : Below W.heap.size W W') : XV W' ok L D := h.turn (Turn.of_below hb (fun _ => False)) (fun _ _ _ hf => hf)
theorem XV.bound (h : XV W ok L D) : XV W (fun k => ok k ∧ k < W.heap.size) L D where
 top := h.top
 nx := h.nx
 we := h.we
 pg := h.pg
 mb := ⟨Kd.F_bound h.mb.1, h.mb.2⟩
 fl := ⟨Kd.F_bound h.fl.1, h.fl.2⟩
 ne := h.ne
 no := fun k hk hl => h.no k hk.1 hl
 ok := h.ok
theorem xtop_cells (h : XV W ok L D) :
  W.cell? ⟨L.g, 0, none⟩ = some (.int .i64 D.B) ∧ W.cell? ⟨L.g, 1, none⟩ = some (.int .i64 D.P) ∧ W.cell? ⟨L.g, 2, none⟩ = some (.int .i64 D.C) ∧ W.cell? ⟨L.g, 3, none⟩ = some (.slice L.Am D.bad.length L.cm) ∧
  W.cell? ⟨L.g, 4, none⟩ = some (.slice (some ⟨L.gp, 0, none⟩) D.pages.length L.cp) ∧ W.cell? ⟨L.g, 5, none⟩ = some (.slice (some ⟨L.gn, 0, none⟩) D.next.length L.cn) ∧ W.cell? ⟨L.g, 6, none⟩ = some (.slice (some ⟨L.gw, 0, none⟩) D.wear.length L.cw) ∧
  W.cell? ⟨L.g, 7, none⟩ = some (.slice L.Af D.faults.length L.cf) ∧ W.cell? ⟨L.g, 8, none⟩ = some (.int .i64 D.ops) ∧ W.cell? ⟨L.g, 9, none⟩ = some (.bool D.down) :=
 ⟨blk_cell h.top 0, blk_cell h.top 1, blk_cell h.top 2, blk_cell h.top 3, blk_cell h.top 4, blk_cell h.top 5, blk_cell h.top 6, blk_cell h.top 7, blk_cell h.top 8, blk_cell h.top 9⟩
theorem XV.ro (h : XV W ok L D) {p : Addr} (hp : L.S p.block) (u : Value) : ∀ k, ok k → k < W.heap.size → (W.setCell p u).heap[k]? = W.heap[k]? := fun k hk hl => Below.heap_setCell W p u k (fun e => h.no k hk hl (e ▸ hp))
theorem XV.set_down (h : XV W ok L D) (x : Bool) : XV (W.setCell ⟨L.g, 9, none⟩ (.bool x)) ok L { D with down := x } where
 top := blk_put h.top 9 (.bool x) rfl
 nx := h.nx.far h.ne.2.1 _
 we := h.we.far h.ne.2.2.1 _
 pg := h.pg.far h.ne.1 _
 mb := ⟨Kd.F_step h.mb.1 (h.ro (.inl rfl) _), h.mb.2⟩
 fl := ⟨Kd.F_step h.fl.1 (h.ro (.inl rfl) _), h.fl.2⟩
 ne := h.ne
 no := fun k hk hl => h.no k hk (by simpa using hl)
 ok := { h.ok with }
theorem XV.set_ops (h : XV W ok L D) (x : Int) : XV (W.setCell ⟨L.g, 8, none⟩ (.int .i64 x)) ok L { D with ops := x } where
 top := blk_put h.top 8 (.int .i64 x) rfl
 nx := h.nx.far h.ne.2.1 _
 we := h.we.far h.ne.2.2.1 _
 pg := h.pg.far h.ne.1 _
 mb := ⟨Kd.F_step h.mb.1 (h.ro (.inl rfl) _), h.mb.2⟩
 fl := ⟨Kd.F_step h.fl.1 (h.ro (.inl rfl) _), h.fl.2⟩
 ne := h.ne
 no := fun k hk hl => h.no k hk (by simpa using hl)
 ok := { h.ok with }
theorem XV.set_next (h : XV W ok L D) (n : Nat) (x : Int) (hx : 0 ≤ x ∧ x ≤ D.P) : XV (W.setCell ⟨L.gn, n, none⟩ (.int .i64 x)) ok L { D with next := D.next.set n x } where
 top := by
  have := blk_far h.top (p := ⟨L.gn, n, none⟩) h.ne.2.1.symm (.int .i64 x); rw [this]; unfold XLay.top; simp only [List.length_set]
 nx := by
  have := h.nx.set n (.int .i64 x)
  rwa [← List.map_set] at this
 we := h.we.far (p := ⟨L.gn, n, none⟩) h.ne.2.2.2.2.2.symm _
 pg := h.pg.far (p := ⟨L.gn, n, none⟩) h.ne.2.2.2.1 _
 mb := ⟨Kd.F_step h.mb.1 (h.ro (.inr (.inr (.inl rfl))) _), h.mb.2⟩
 fl := ⟨Kd.F_step h.fl.1 (h.ro (.inr (.inr (.inl rfl))) _), h.fl.2⟩
 ne := h.ne
 no := fun k hk hl => h.no k hk (by simpa using hl)
 ok := { h.ok with
  nl := by show ((D.next.set _ _).length : Int) = _; rw [List.length_set]; exact h.ok.nl
  nr := fun y hy => by
   rcases List.mem_or_eq_of_mem_set hy with h' | h'
   ·
    exact h.ok.nr y h'
   ·
    rw [h']; exact hx }
theorem XV.set_wear (h : XV W ok L D) (n : Nat) (x : Int) (hx : -9223372036854775808 ≤ x ∧ x ≤ 9223372036854775807) : XV (W.setCell ⟨L.gw, n, none⟩ (.int .i64 x)) ok L { D with wear := D.wear.set n x } where
 top := by
  have := blk_far h.top (p := ⟨L.gw, n, none⟩) h.ne.2.2.1.symm (.int .i64 x); rw [this]; unfold XLay.top; simp only [List.length_set]
 nx := h.nx.far (p := ⟨L.gw, n, none⟩) h.ne.2.2.2.2.2 _
 we := by
  have := h.we.set n (.int .i64 x)
  rwa [← List.map_set] at this
 pg := h.pg.far (p := ⟨L.gw, n, none⟩) h.ne.2.2.2.2.1 _
 mb := ⟨Kd.F_step h.mb.1 (h.ro (.inr (.inr (.inr rfl))) _), h.mb.2⟩
 fl := ⟨Kd.F_step h.fl.1 (h.ro (.inr (.inr (.inr rfl))) _), h.fl.2⟩
 ne := h.ne
 no := fun k hk hl => h.no k hk (by simpa using hl)
 ok := { h.ok with
  wl := by show ((D.wear.set _ _).length : Int) = _; rw [List.length_set]; exact h.ok.wl
  wr := fun y hy => by
   rcases List.mem_or_eq_of_mem_set hy with h' | h'
   ·
    exact h.ok.wr y h'
   ·
    rw [h']; exact hx }
theorem XV.set_page (h : XV W ok L D) (n : Nat) {l : List Int} (hl : isBytes l ∧ l.length = 256) : XV (W.setCell ⟨L.gp, n, none⟩ (.string (strOfNums l))) ok L { D with pages := D.pages.set n l } where
 top := by
  have := blk_far h.top (p := ⟨L.gp, n, none⟩) h.ne.1.symm (.string (strOfNums l)); rw [this]; unfold XLay.top; simp only [List.length_set]
 nx := h.nx.far (p := ⟨L.gp, n, none⟩) h.ne.2.2.2.1.symm _
 we := h.we.far (p := ⟨L.gp, n, none⟩) h.ne.2.2.2.2.1.symm _
 pg := by
  have := h.pg.set n (.string (strOfNums l)); unfold texts at this ⊢
  rwa [← List.map_set] at this
 mb := ⟨Kd.F_step h.mb.1 (h.ro (.inr (.inl rfl)) _), h.mb.2⟩
 fl := ⟨Kd.F_step h.fl.1 (h.ro (.inr (.inl rfl)) _), h.fl.2⟩
 ne := h.ne
 no := fun k hk hl => h.no k hk (by simpa using hl)
 ok := { h.ok with
  pl := by show ((D.pages.set _ _).length : Int) = _; rw [List.length_set]; exact h.ok.pl
  pw := fun y hy => by
   rcases List.mem_or_eq_of_mem_set hy with h' | h'
   ·
    exact h.ok.pw y h'
   ·
    rw [h']; exact hl }
end
theorem texts_at {l : List (List Int)} {n : Nat} (h : n < l.length) : (texts l)[n]? = some (.string (strOfNums (l.getD n []))) := by
 unfold texts; rw [List.getElem?_map, List.getD_eq_getElem?_getD, List.getElem?_eq_getElem h]; rfl
end Go.Proofs.Ytnchdmidaigheaa.ND
