/- What records use: the walk of quota.Used by hand, and its plain numbers. -/
import Derived.Test.YtndhjjlicfoiaaaHp1
import Derived.OpenShut
namespace Go.Proofs.Ytndhjjlicfoiaaa.QU
set_option linter.unusedVariables false
set_option linter.unusedSimpArgs false
open Go.RowKit Go.Proofs.Ytndhjjlicfoiaaa.Hp Go.Proofs.YtndhjjlicfoiaaaW.PrintWords Go.Proofs.YtndhjjlicfoiaaaW.PrintLast Go.Proofs.YtndhjjlicfoiaaaW.PrintMore
attribute [local go_sem] max2_int min2_int max_two min_two max_three min_three max_four min_four

theorem results_c {P : Program} {fn : Func} {p : Tmp} {ty : TypeId} (h : fn.results = #[.cell p ty]) (tmps : Array Value) (w : World) (g : Nat) (t : TypeId) (cs : Array Value) (fr : Nat × Nat) (d : TypeDesc)
    (hp : tmps.getD p undef = .pointer (some ⟨g, 0, none⟩)) (hg : w.heap[g]? = some (.cells cs t fr))
    (hu : P.underlying ty = some d) (hd : (match d with | .struct _ | .array _ _ => true | _ => false) = true) (hi : (P.info? ty).map (·.size) = some cs.size) :
    (results fn tmps).run P w = .ok (.agg cs) w := by
  have hp' : tmps[p]?.getD undef = .pointer (some ⟨g, 0, none⟩) := by simpa using hp
  simp [results, h, hp', asAddr, run_loadVar_row w g t ty cs fr d hg hu hd hi]
/-- what a bundle of so many bytes costs -/
def cst (n : Int) : Int := if n < 1 then 2 else (n - 1) / 228 + 2
theorem cst_range (n : Int) (h : n ≤ 100000) : 2 ≤ cst n ∧ cst n ≤ 1000 := by unfold cst; split <;> omega
theorem cost_val (n : Int) (h0 : -9223372036854775808 ≤ n) (h : n ≤ 100000) : geom_Cost.f n = some (cst n) := by
  unfold geom_Cost.f geom_Pages.f cst
  by_cases h1 : n < 1
  · simp only [if_pos h1, Option.bind_some]
    rw [show wrap64 (1 + 1) = 2 by unfold wrap64; omega]
  · simp only [if_neg h1, Option.bind_some]
    have e1 : wrap64 (n - 1) = n - 1 := by unfold wrap64; omega
    rw [e1, Int.tdiv_eq_ediv_of_nonneg (by omega)]
    congr 1
    unfold wrap64
    omega
def pri (x : S38) : Int := mn (mx x.f2 0) 2
theorem pri_three (x : S38) : pri x = 0 ∨ pri x = 1 ∨ pri x = 2 := by unfold pri mn mx; (repeat' split) <;> omega
def useOf (l : List S38) (j : Int) : Int := ((l.filter (fun x => pri x == j)).map (fun x => cst x.f3)).sum
def lightL (l : List S38) : Prop := l.length ≤ 1000 ∧ ∀ x ∈ l, -9223372036854775808 ≤ x.f3 ∧ x.f3 ≤ 100000
theorem useOf_range : ∀ (l : List S38) (j : Int), (∀ x ∈ l, x.f3 ≤ 100000) → 0 ≤ useOf l j ∧ useOf l j ≤ 1000 * l.length
  | [], j, _ => by simp [useOf]
  | a :: l, j, h => by
    have ih := useOf_range l j (fun x hx => h x (by simp [hx]))
    have hc := cst_range a.f3 (h a (by simp))
    unfold useOf at ih ⊢
    by_cases hp : pri a = j
    · rw [List.filter_cons_of_pos (by simpa using hp)]
      simp only [List.map_cons, List.sum_cons, List.length_cons]
      omega
    · rw [List.filter_cons_of_neg (by simpa using hp)]
      simp only [List.length_cons]
      omega
theorem useOf_snoc (l : List S38) (i : Nat) (h : i < l.length) (j : Int) : useOf (l.take (i + 1)) j = useOf (l.take i) j + (if pri l[i] = j then cst (l[i]).f3 else 0) := by
  unfold useOf
  rw [List.take_add_one, List.getElem?_eq_getElem h, List.filter_append, List.map_append, List.sum_append]
  by_cases hc : pri l[i] = j
  · rw [if_pos hc]
    simp [hc]
  · rw [if_neg hc]
    simp [hc]
theorem store3 {g N : Nat} {W0 W : World} (x0 x1 x2 y0 y1 y2 : Int) (hz : W.heap[g]? = some (.cells #[.int .i64 y0, .int .i64 y1, .int .i64 y2] 25 (0, 0)) ∧ N ≤ g) (hB : Below N W0 W) :
    Below N W0 (((W.setCell ⟨g, 0, none⟩ (.int .i64 x0)).setCell ⟨g, 1, none⟩ (.int .i64 x1)).setCell ⟨g, 2, none⟩ (.int .i64 x2)) ∧
    (((W.setCell ⟨g, 0, none⟩ (.int .i64 x0)).setCell ⟨g, 1, none⟩ (.int .i64 x1)).setCell ⟨g, 2, none⟩ (.int .i64 x2)).heap[g]? = some (.cells #[.int .i64 x0, .int .i64 x1, .int .i64 x2] 25 (0, 0)) := by
  have h0 := blk_set hz.1 0 (.int .i64 x0)
  have h1 := blk_set h0 1 (.int .i64 x1)
  have h2 := blk_set h1 2 (.int .i64 x2)
  have hg := hz.2
  exact ⟨((hB.setCell (p := ⟨g, _, none⟩) hg _).setCell (p := ⟨g, _, none⟩) hg _).setCell (p := ⟨g, _, none⟩) hg _, by simpa using h2⟩
theorem qcost_calls (x : S38) (hx0 : -9223372036854775808 ≤ x.f3) (hx : x.f3 ≤ 100000) (Ap : Option Addr) (cpp : Nat) (hc : x.f7.length ≤ cpp) (c : Int) (hcx : cst x.f3 = c) (W : World) (hC : Kd.C (Kd.int .i64) W Ap x.f7.length x.f7) :
    Calls Try.prog 17 #[.agg #[.int .u64 x.f0, .int .u64 x.f1, .int .i64 x.f2, .int .i64 x.f3, .int .u64 x.f4, .bool x.f5, .int .i64 x.f6, .slice Ap x.f7.length cpp]] W fun e w' => e = .returned (.int .i64 c) ∧ Below W.heap.size W w' :=
  quota_cost.calls x.f0 x.f1 x.f2 x.f3 x.f4 x.f5 x.f6 Ap cpp x.f7 c W hC hc (by unfold quota_cost.f; rw [cost_val x.f3 hx0 hx, hcx]; rfl)
def used8.T5 : Bool × List (List Nat × List Nat) := (true, [([], []), ([0], [0]), ([1], [1]), ([2], [2]), ([3], [3]), ([4], [4]), ([], []), ([6], [6]), ([5, 7], [5, 7]), ([3, 0, 1, 2, 3, 4, 5, 6, 7, 8], [3]), ([9, 8, 7, 0, 1, 2, 3, 4, 5, 6, 7, 8], [8, 9])])
def used8.B5 : List Nat := [0, 1, 3, 7, 15, 31, 0, 64, 255, 511, 1023]
theorem used8.tab5 : rtab .any (opsOf Try.f8 5) = used8.T5 := by kernel_rfl
theorem used8.bits5 : waitsOk used8.T5.2 used8.B5 = true := by kernel_rfl
set_option maxHeartbeats 8000000 in
set_option maxRecDepth 100000 in
theorem used_calls (l : List S38) (hl : lightL l) (A : Option Addr) (cp : Nat) (hcp : l.length ≤ cp) (w : World) (hC : Kd.C k38 w A l.length l) :
    Calls Try.prog 8 #[.slice A l.length cp] w fun e w' => e = .returned (.agg #[.int .i64 (useOf l 0), .int .i64 (useOf l 1), .int .i64 (useOf l 2)]) ∧ Below w.heap.size w w' := by
  have HR := Aside0.mk hC
  have HL := Aside0.mk hl
  clear hC hl hcp
  go_enter Try.func8, Try.ntmps8
  go_upto_region 2 with fail
  have hB := below_alloc (below_alloc (Below.refl w.heap.size w) (Obj.cells #[Value.int IntKind.i64 0, Value.int IntKind.i64 0, Value.int IntKind.i64 0] 25)) (Obj.cells #[Value.int IntKind.i64 0, Value.int IntKind.i64 0, Value.int IntKind.i64 0] 25)
  have hz3 := heap_alloc_new (w.alloc (Obj.cells #[Value.int IntKind.i64 0, Value.int IntKind.i64 0, Value.int IntKind.i64 0] 25)) (Obj.cells #[Value.int IntKind.i64 0, Value.int IntKind.i64 0, Value.int IntKind.i64 0] 25)
  have hz2 := blk_alloc (heap_alloc_new w (Obj.cells #[Value.int IntKind.i64 0, Value.int IntKind.i64 0, Value.int IntKind.i64 0] 25)) (Obj.cells #[Value.int IntKind.i64 0, Value.int IntKind.i64 0, Value.int IntKind.i64 0] 25)
  rw [show (w.alloc (Obj.cells #[Value.int IntKind.i64 0, Value.int IntKind.i64 0, Value.int IntKind.i64 0] 25)).heap.size = w.heap.size + 1 by simp] at hz3
  generalize (w.alloc (Obj.cells #[Value.int IntKind.i64 0, Value.int IntKind.i64 0, Value.int IntKind.i64 0] 25)).alloc (Obj.cells #[Value.int IntKind.i64 0, Value.int IntKind.i64 0, Value.int IntKind.i64 0] 25) = W2 at hB hz3 hz2 ⊢
  replace hB := Aside0.mk hB
  replace hz2 := Aside0.mk (And.intro hz2 hz3)
  clear hz3
  go_wp2_with fail
  go_loopg [8] (l.length + 1) (fun kq v8 w' => ∃ i : Nat, v8 = .int .i64 i ∧ Aside0 (w'.heap[w.heap.size]? = some (.cells #[.int .i64 0, .int .i64 0, .int .i64 0] 25 (0, 0)) ∧ w'.heap[w.heap.size + 1]? = some (.cells #[.int .i64 (useOf (l.take i) 0), .int .i64 (useOf (l.take i) 1), .int .i64 (useOf (l.take i) 2)] 25 (0, 0))) ∧ Aside0 (i ≤ l.length) ∧ Aside0 (kq + i = l.length + 1) ∧ Aside0 (Below w.heap.size w w'))
  case atStart => exact ⟨0, rfl, hz2, ⟨by omega⟩, ⟨by omega⟩, hB⟩
  case round =>
    clear hz2 hB
    obtain ⟨i, rfl, HZ, HI, HQ, BB⟩ := hrel
    by_cases hi : i < l.length
    case neg =>
      have hie : i = l.length := by have := HI.out; omega
      subst hie
      have t1 : decide ((l.length : Int) < (l.length : Int)) = false := decide_eq_false (by omega)
      have hz := HZ.out
      rw [List.take_length] at hz
      have f0 := blk_cell hz.2 0
      have f1 := blk_cell hz.2 1
      have f2 := blk_cell hz.2 2
      have d0 := blk_cell hz.1 0
      have d1 := blk_cell hz.1 1
      have d2 := blk_cell hz.1 2
      have g0 := blk_frozen hz.1 0
      have g1 := blk_frozen hz.1 1
      have g2 := blk_frozen hz.1 2
      have hst := Aside0.mk (store3 (useOf l 0) (useOf l 1) (useOf l 2) 0 0 0 ⟨hz.1, Nat.le_refl _⟩ BB.out)
      clear hz hi
      go_wp2_with fail
      refine bodyPost_ret (results_c rfl _ _ w.heap.size 25 _ (0, 0) _ rfl hst.out.2 Try.underlying25 rfl (by kernel_rfl)) rfl ?_
      exact ⟨rfl, hst.out.1⟩
    case pos =>
      have t1 : decide ((i : Int) < (l.length : Int)) = true := decide_eq_true (by omega)
      have t2 : decide (i < l.length) = true := decide_eq_true hi
      obtain ⟨ad, Ap, cpp, rfl, hx0, hx1, hx2, hx3, hx4, hx5, hx6, hx7, hlp, hCp⟩ := at_T38 (Kd.C_below HR.out BB.out) (i : Int) (by omega) (by omega)
      obtain ⟨x, hxe⟩ : ∃ x, x = l[i] := ⟨_, rfl⟩
      have hrd : rd_T38 l (i : Int) = x := by
        unfold rd_T38
        rw [hxe, Int.toNat_natCast, List.getD_eq_getElem?_getD, List.getElem?_eq_getElem hi]
        rfl
      rw [hrd] at hx0 hx1 hx2 hx3 hx4 hx5 hx6 hx7 hlp hCp
      rw [Int.toNat_natCast] at hx0 hx1 hx2 hx3 hx4 hx5 hx6 hx7
      have hlx := HL.out.2 x (by rw [hxe]; exact List.getElem_mem hi)
      have p1 : (0 : Int) ≤ (i : Int) := by omega
      have q1 : (i : Int) < (l.length : Int) := by omega
      replace p1 := eq_true p1
      replace q1 := eq_true q1
      have HCP := Aside0.mk (And.intro hlp hCp)
      clear hlp hCp hrd
      have HXE := Aside0.mk hxe
      clear hxe
      go_upto_region 5 with fail
      have hb5 := below_alloc (Below.refl wr.heap.size wr) (Obj.cells #[Value.int IntKind.u64 x.f0, Value.int IntKind.u64 x.f1, Value.int IntKind.i64 x.f2, Value.int IntKind.i64 x.f3, Value.int IntKind.u64 x.f4, Value.bool x.f5, Value.int IntKind.i64 x.f6, Value.slice Ap x.f7.length cpp] 38)
      have h5 := heap_alloc_new wr (Obj.cells #[Value.int IntKind.u64 x.f0, Value.int IntKind.u64 x.f1, Value.int IntKind.i64 x.f2, Value.int IntKind.i64 x.f3, Value.int IntKind.u64 x.f4, Value.bool x.f5, Value.int IntKind.i64 x.f6, Value.slice Ap x.f7.length cpp] 38)
      generalize wr.alloc (Obj.cells #[Value.int IntKind.u64 x.f0, Value.int IntKind.u64 x.f1, Value.int IntKind.i64 x.f2, Value.int IntKind.i64 x.f3, Value.int IntKind.u64 x.f4, Value.bool x.f5, Value.int IntKind.i64 x.f6, Value.slice Ap x.f7.length cpp] 38) = W0 at hb5 h5 ⊢
      have ZA : Aside0 (W0.drew.heap[w.heap.size + 1]? = _) := Aside0.mk (blk_below HZ.out.2 (below_drew1 hb5))
      have ZB : Aside0 (W0.drew.heap[w.heap.size]? = _) := Aside0.mk (blk_below HZ.out.1 (below_drew1 hb5))
      have B1 := Aside0.mk (below_drew1 (below_then BB.out BB.out.size hb5))
      have HCQ := Aside0.mk (Kd.C_below HCP.out.2 hb5)
      generalize wr.heap.size = g5 at h5 ⊢
      have H5 := Aside0.mk h5
      have B0 := Aside0.mk (below_drew1 (Below.refl W0.heap.size W0))
      obtain ⟨cx, hcx⟩ : ∃ c, cst x.f3 = c := ⟨_, rfl⟩
      have HCO := Aside0.mk (fun (W : World) (hW : Below W0.heap.size W0 W) => qcost_calls x hlx.1 hlx.2 Ap cpp HCP.out.1 cx hcx W (Kd.C_below HCQ.out hW))
      have hcr := cst_range x.f3 hlx.2
      rw [hcx] at hcr
      have hlt : ∀ y ∈ l.take i, y.f3 ≤ 100000 := fun y hy => (HL.out.2 y (List.mem_of_mem_take hy)).2
      have r0 := useOf_range (l.take i) 0 hlt
      have r1 := useOf_range (l.take i) 1 hlt
      have r2 := useOf_range (l.take i) 2 hlt
      rw [List.length_take] at r0 r1 r2
      have s0 := useOf_snoc l i hi 0
      have s1 := useOf_snoc l i hi 1
      have s2 := useOf_snoc l i hi 2
      rw [← HXE.out, hcx] at s0 s1 s2
      generalize useOf (l.take i) 0 = n0 at ZA r0 s0
      generalize useOf (l.take i) 1 = n1 at ZA r1 s1
      generalize useOf (l.take i) 2 = n2 at ZA r2 s2
      have HL1 := HL.out.1
      have HI2 := Aside0.mk hi
      clear HZ BB hb5 h5 hcx hlt hx0 hx1 hx2 hx3 hx4 hx5 hx6 hx7 hlx t1 t2 p1 q1
      rcases pri_three x with hp | hp | hp
      · have HPR := Aside0.mk (show mn (mx x.f2 0) 2 = 0 from hp)
        have HWR := Aside0.mk (show IntKind.i64.wrap (n0 + cx) = n0 + cx by rw [i64_w]; unfold wrap64; omega)
        rw [hp] at s0 s1 s2
        have HE := Aside0.mk (show useOf (l.take (i + 1)) 0 = n0 + cx ∧ useOf (l.take (i + 1)) 1 = n1 ∧ useOf (l.take (i + 1)) 2 = n2 from ⟨by rw [s0]; simp, by rw [s1]; simp, by rw [s2]; simp⟩)
        clear hp s0 s1 s2 r0 r1 r2 hcr HL1 HXE hi
        refine start_ (n := 11) (S := fun w' => True) (ds := []) #[false, false, false, false, false, false, false, false, false, false, false] (by kernel_rfl) rfl rfl trivial (fun hHeld => ?_)
        refine with_tabW used8.tab5 used8.bits5 (fun HT_ HW_ => ?_)
        generalize W0.drew = wq at B0 ZA ZB B1 hHeld ⊢
        refine pure_ (i := 0) (N := some 12) (v := ?_) (a' := ?_) #[true, false, false, false, false, false, false, false, false, false, false] rfl rfl (any_of HT_.out (by kernel_rfl)) (fun _ _ _ h => h) (Or.inl ⟨by rfl, ?_⟩) ?_ ?_
        rotate_left
        · intro w'
          go_simp
          with_reducible rfl
        rotate_left
        · simp only [Act.put, List.setIfInBounds_toArray, List.set_cons_zero, List.set_cons_succ, i64_w, i32_w]
          rfl
        refine inv_at [1, 2, 3, 4, 5, 6, 7, 8, 9, 10] (fun a0_ b a w' => a = putSel a0_ b [(1, 13, .int .i64 x.f2), (2, 14, .int .i64 (mx x.f2 0)), (3, 15, .int .i64 0), (4, 16, .pointer (some ⟨w.heap.size + 1, 0, none⟩)), (5, 17, .int .i64 n0), (6, 18, .agg #[.int .u64 x.f0, .int .u64 x.f1, .int .i64 x.f2, .int .i64 x.f3, .int .u64 x.f4, .bool x.f5, .int .i64 x.f6, .slice Ap x.f7.length cpp]), (7, 19, .int .i64 cx), (8, 20, .int .i64 (n0 + cx)), (9, 21, .pointer (some ⟨w.heap.size + 1, 0, none⟩))] ∧ (b 10 = false → Below W0.heap.size W0 w') ∧ (b 10 = false → w'.heap[w.heap.size + 1]? = some (.cells #[.int .i64 n0, .int .i64 n1, .int .i64 n2] 25 (0, 0))) ∧ (w'.heap[w.heap.size]? = some (.cells #[.int .i64 0, .int .i64 0, .int .i64 0] 25 (0, 0))) ∧ (Below w.heap.size w w') ∧ (b 10 = true → w'.heap[w.heap.size + 1]? = some (.cells #[.int .i64 (n0 + cx), .int .i64 n1, .int .i64 n2] 25 (0, 0)))) HT_.out HW_.out (by kernel_rfl) (by kernel_rfl) ?_ ?_ ?_
        · exact ⟨by simp only [putSel, Bool.false_eq_true, if_false], fun _ => B0.out, fun _ => ZA.out, ZB.out, B1.out, fun h_ => absurd h_ (by decide)⟩
        · skip
          clear B0 B1 ZA ZB
          refine steps_cons ?_ ?_
          · rintro b a w' ⟨ha, Q_B0, Q_ZA, Q_ZB, Q_B1, Q_ZC⟩ hb_ hon hoff
            refine ⟨_, rfl, fun K hK => ?_⟩
            have e12 : a.tmps[12]? = some (.pointer (some ⟨g5, 2, none⟩)) := by rw [ha]; exact (putSel_off rfl).trans rfl
            replace ha := Aside0.mk ha
            have B0 := Aside0.mk (Q_B0 (hoff 10 (by kernel_rfl)))
            have ZA := Aside0.mk (Q_ZA (hoff 10 (by kernel_rfl)))
            have ZB := Aside0.mk Q_ZB
            have B1 := Aside0.mk Q_B1
            have hb_ := blk_below H5.out B0.out
            have c2_ := blk_cell hb_ 2
            clear hb_
            refine value_ (w1 := w') (v := .int .i64 x.f2) (by rfl) rfl ?_ ?_
            · go_simp
              (try simp only [i64_w])
              try rfl
            refine hK.out _ _ ⟨(by rw [ha.out]; exact putSel_upk 0 hb_ rfl rfl rfl), Q_B0, Q_ZA, Q_ZB, Q_B1, fun h0_ => absurd ((hoff 10 (by kernel_rfl)).symm.trans h0_) (by decide)⟩
          refine steps_cons ?_ ?_
          · rintro b a w' ⟨ha, Q_B0, Q_ZA, Q_ZB, Q_B1, Q_ZC⟩ hb_ hon hoff
            refine ⟨_, rfl, fun K hK => ?_⟩
            have e13 : a.tmps[13]? = some (.int .i64 x.f2) := by rw [ha]; exact putSel_on (e := (1, 13, .int .i64 x.f2)) 0 rfl rfl (hon 1 (by kernel_rfl)) rfl
            replace ha := Aside0.mk ha
            have B0 := Aside0.mk (Q_B0 (hoff 10 (by kernel_rfl)))
            have ZA := Aside0.mk (Q_ZA (hoff 10 (by kernel_rfl)))
            have ZB := Aside0.mk Q_ZB
            have B1 := Aside0.mk Q_B1
            refine value_ (w1 := w') (v := .int .i64 (mx x.f2 0)) (by rfl) rfl ?_ ?_
            · go_simp
              (try simp only [i64_w])
              try rfl
            refine hK.out _ _ ⟨(by rw [ha.out]; exact putSel_upk 1 hb_ rfl rfl rfl), Q_B0, Q_ZA, Q_ZB, Q_B1, fun h0_ => absurd ((hoff 10 (by kernel_rfl)).symm.trans h0_) (by decide)⟩
          refine steps_cons ?_ ?_
          · rintro b a w' ⟨ha, Q_B0, Q_ZA, Q_ZB, Q_B1, Q_ZC⟩ hb_ hon hoff
            refine ⟨_, rfl, fun K hK => ?_⟩
            have e14 : a.tmps[14]? = some (.int .i64 (mx x.f2 0)) := by rw [ha]; exact putSel_on (e := (2, 14, .int .i64 (mx x.f2 0))) 1 rfl rfl (hon 2 (by kernel_rfl)) rfl
            replace ha := Aside0.mk ha
            have B0 := Aside0.mk (Q_B0 (hoff 10 (by kernel_rfl)))
            have ZA := Aside0.mk (Q_ZA (hoff 10 (by kernel_rfl)))
            have ZB := Aside0.mk Q_ZB
            have B1 := Aside0.mk Q_B1
            refine value_ (w1 := w') (v := .int .i64 0) (by rfl) rfl ?_ ?_
            · go_simp
              first | done | (simp [HPR.out]; done) | exact HPR.out | (intro h_; have h2_ := HPR.out; unfold mn at h2_; split at h2_ <;> omega)
            refine hK.out _ _ ⟨(by rw [ha.out]; exact putSel_upk 2 hb_ rfl rfl rfl), fun _ => B0.out, fun _ => ZA.out, ZB.out, B1.out, fun h0_ => absurd ((hoff 10 (by kernel_rfl)).symm.trans h0_) (by decide)⟩
          refine steps_cons ?_ ?_
          · rintro b a w' ⟨ha, Q_B0, Q_ZA, Q_ZB, Q_B1, Q_ZC⟩ hb_ hon hoff
            refine ⟨_, rfl, fun K hK => ?_⟩
            have e3 : a.tmps[3]? = some (.pointer (some ⟨w.heap.size + 1, 0, none⟩)) := by rw [ha]; exact (putSel_off rfl).trans rfl
            have e15 : a.tmps[15]? = some (.int .i64 0) := by rw [ha]; exact putSel_on (e := (3, 15, .int .i64 0)) 2 rfl rfl (hon 3 (by kernel_rfl)) rfl
            replace ha := Aside0.mk ha
            have B0 := Aside0.mk (Q_B0 (hoff 10 (by kernel_rfl)))
            have ZA := Aside0.mk (Q_ZA (hoff 10 (by kernel_rfl)))
            have ZB := Aside0.mk Q_ZB
            have B1 := Aside0.mk Q_B1
            refine value_ (w1 := w') (v := .pointer (some ⟨w.heap.size + 1, 0, none⟩)) (by rfl) rfl ?_ ?_
            · go_simp
              (try simp only [i64_w])
              try rfl
            refine hK.out _ _ ⟨(by rw [ha.out]; exact putSel_upk 3 hb_ rfl rfl rfl), Q_B0, Q_ZA, Q_ZB, Q_B1, fun h0_ => absurd ((hoff 10 (by kernel_rfl)).symm.trans h0_) (by decide)⟩
          refine steps_cons ?_ ?_
          · rintro b a w' ⟨ha, Q_B0, Q_ZA, Q_ZB, Q_B1, Q_ZC⟩ hb_ hon hoff
            refine ⟨_, rfl, fun K hK => ?_⟩
            have e16 : a.tmps[16]? = some (.pointer (some ⟨w.heap.size + 1, 0, none⟩)) := by rw [ha]; exact putSel_on (e := (4, 16, .pointer (some ⟨w.heap.size + 1, 0, none⟩))) 3 rfl rfl (hon 4 (by kernel_rfl)) rfl
            replace ha := Aside0.mk ha
            have B0 := Aside0.mk (Q_B0 (hoff 10 (by kernel_rfl)))
            have ZA := Aside0.mk (Q_ZA (hoff 10 (by kernel_rfl)))
            have ZB := Aside0.mk Q_ZB
            have B1 := Aside0.mk Q_B1
            have c_ := blk_cell ZA.out 0
            refine value_ (w1 := w') (v := .int .i64 n0) (by rfl) rfl ?_ ?_
            · go_simp
              (try simp only [i64_w])
              try rfl
            refine hK.out _ _ ⟨(by rw [ha.out]; exact putSel_upk 4 hb_ rfl rfl rfl), Q_B0, Q_ZA, Q_ZB, Q_B1, fun h0_ => absurd ((hoff 10 (by kernel_rfl)).symm.trans h0_) (by decide)⟩
          refine steps_cons ?_ ?_
          · rintro b a w' ⟨ha, Q_B0, Q_ZA, Q_ZB, Q_B1, Q_ZC⟩ hb_ hon hoff
            refine ⟨_, rfl, fun K hK => ?_⟩
            have e5 : a.tmps[5]? = some (.pointer (some ⟨g5, 0, none⟩)) := by rw [ha]; exact (putSel_off rfl).trans rfl
            replace ha := Aside0.mk ha
            have B0 := Aside0.mk (Q_B0 (hoff 10 (by kernel_rfl)))
            have ZA := Aside0.mk (Q_ZA (hoff 10 (by kernel_rfl)))
            have ZB := Aside0.mk Q_ZB
            have B1 := Aside0.mk Q_B1
            have hb_ := blk_below H5.out B0.out
            have c0_ := blk_cell hb_ 0
            have c1_ := blk_cell hb_ 1
            have c2_ := blk_cell hb_ 2
            have c3_ := blk_cell hb_ 3
            have c4_ := blk_cell hb_ 4
            have c5_ := blk_cell hb_ 5
            have c6_ := blk_cell hb_ 6
            have c7_ := blk_cell hb_ 7
            clear hb_
            refine value_ (w1 := w') (v := .agg #[.int .u64 x.f0, .int .u64 x.f1, .int .i64 x.f2, .int .i64 x.f3, .int .u64 x.f4, .bool x.f5, .int .i64 x.f6, .slice Ap x.f7.length cpp]) (by rfl) rfl ?_ ?_
            · go_simp
              (try simp only [i64_w])
              try rfl
            refine hK.out _ _ ⟨(by rw [ha.out]; exact putSel_upk 5 hb_ rfl rfl rfl), Q_B0, Q_ZA, Q_ZB, Q_B1, fun h0_ => absurd ((hoff 10 (by kernel_rfl)).symm.trans h0_) (by decide)⟩
          refine steps_cons ?_ ?_
          · rintro b a w' ⟨ha, Q_B0, Q_ZA, Q_ZB, Q_B1, Q_ZC⟩ hb_ hon hoff
            refine ⟨_, rfl, fun K hK => ?_⟩
            have e18 : a.tmps[18]? = some (.agg #[.int .u64 x.f0, .int .u64 x.f1, .int .i64 x.f2, .int .i64 x.f3, .int .u64 x.f4, .bool x.f5, .int .i64 x.f6, .slice Ap x.f7.length cpp]) := by rw [ha]; exact putSel_on (e := (6, 18, .agg #[.int .u64 x.f0, .int .u64 x.f1, .int .i64 x.f2, .int .i64 x.f3, .int .u64 x.f4, .bool x.f5, .int .i64 x.f6, .slice Ap x.f7.length cpp])) 5 rfl rfl (hon 6 (by kernel_rfl)) rfl
            replace ha := Aside0.mk ha
            have B0 := Aside0.mk (Q_B0 (hoff 10 (by kernel_rfl)))
            have ZA := Aside0.mk (Q_ZA (hoff 10 (by kernel_rfl)))
            have ZB := Aside0.mk Q_ZB
            have B1 := Aside0.mk Q_B1
            refine goes_ Try.func17 (by kernel_rfl) rfl #[.agg #[.int .u64 x.f0, .int .u64 x.f1, .int .i64 x.f2, .int .i64 x.f3, .int .u64 x.f4, .bool x.f5, .int .i64 x.f6, .slice Ap x.f7.length cpp]] (by rfl) rfl rfl (by first | (simp only [List.map_toArray, List.map_cons, List.map_nil, Act.eval, Array.getD_eq_getD_getElem?, Option.getD_some, e18]; done) | (simp only [List.map_toArray, List.map_cons, List.map_nil, Act.eval, Array.getD_eq_getD_getElem?, Option.getD_some, e18]; rfl)) ?_
            with_reducible refine (HCO.out _ B0.out).mono ?_
            rintro e w2 ⟨rfl, hb⟩
            refine ⟨_, rfl, ?_⟩
            refine hK.out _ _ ⟨(by rw [ha.out]; exact putSel_upk 6 hb_ rfl rfl rfl), fun _ => below_then B0.out B0.out.size hb, fun _ => blk_below ZA.out hb, blk_below ZB.out hb, below_then B1.out B1.out.size hb, fun h0_ => absurd ((hoff 10 (by kernel_rfl)).symm.trans h0_) (by decide)⟩
          refine steps_cons ?_ ?_
          · rintro b a w' ⟨ha, Q_B0, Q_ZA, Q_ZB, Q_B1, Q_ZC⟩ hb_ hon hoff
            refine ⟨_, rfl, fun K hK => ?_⟩
            have e17 : a.tmps[17]? = some (.int .i64 n0) := by rw [ha]; exact putSel_on (e := (5, 17, .int .i64 n0)) 4 rfl rfl (hon 5 (by kernel_rfl)) rfl
            have e19 : a.tmps[19]? = some (.int .i64 cx) := by rw [ha]; exact putSel_on (e := (7, 19, .int .i64 cx)) 6 rfl rfl (hon 7 (by kernel_rfl)) rfl
            replace ha := Aside0.mk ha
            have B0 := Aside0.mk (Q_B0 (hoff 10 (by kernel_rfl)))
            have ZA := Aside0.mk (Q_ZA (hoff 10 (by kernel_rfl)))
            have ZB := Aside0.mk Q_ZB
            have B1 := Aside0.mk Q_B1
            have hw_ := HWR.out
            refine value_ (w1 := w') (v := .int .i64 (n0 + cx)) (by rfl) rfl ?_ ?_
            · go_simp
              (try simp only [i64_w])
              try rfl
            refine hK.out _ _ ⟨(by rw [ha.out]; exact putSel_upk 7 hb_ rfl rfl rfl), Q_B0, Q_ZA, Q_ZB, Q_B1, fun h0_ => absurd ((hoff 10 (by kernel_rfl)).symm.trans h0_) (by decide)⟩
          refine steps_cons ?_ ?_
          · rintro b a w' ⟨ha, Q_B0, Q_ZA, Q_ZB, Q_B1, Q_ZC⟩ hb_ hon hoff
            refine ⟨_, rfl, fun K hK => ?_⟩
            have e3 : a.tmps[3]? = some (.pointer (some ⟨w.heap.size + 1, 0, none⟩)) := by rw [ha]; exact (putSel_off rfl).trans rfl
            have e15 : a.tmps[15]? = some (.int .i64 0) := by rw [ha]; exact putSel_on (e := (3, 15, .int .i64 0)) 2 rfl rfl (hon 3 (by kernel_rfl)) rfl
            replace ha := Aside0.mk ha
            have B0 := Aside0.mk (Q_B0 (hoff 10 (by kernel_rfl)))
            have ZA := Aside0.mk (Q_ZA (hoff 10 (by kernel_rfl)))
            have ZB := Aside0.mk Q_ZB
            have B1 := Aside0.mk Q_B1
            refine value_ (w1 := w') (v := .pointer (some ⟨w.heap.size + 1, 0, none⟩)) (by rfl) rfl ?_ ?_
            · go_simp
              (try simp only [i64_w])
              try rfl
            refine hK.out _ _ ⟨(by rw [ha.out]; exact putSel_upk 8 hb_ rfl rfl rfl), Q_B0, Q_ZA, Q_ZB, Q_B1, fun h0_ => absurd ((hoff 10 (by kernel_rfl)).symm.trans h0_) (by decide)⟩
          refine steps_cons ?_ ?_
          · rintro b a w' ⟨ha, Q_B0, Q_ZA, Q_ZB, Q_B1, Q_ZC⟩ hb_ hon hoff
            refine ⟨_, rfl, fun K hK => ?_⟩
            have e21 : a.tmps[21]? = some (.pointer (some ⟨w.heap.size + 1, 0, none⟩)) := by rw [ha]; exact putSel_on (e := (9, 21, .pointer (some ⟨w.heap.size + 1, 0, none⟩))) 8 rfl rfl (hon 9 (by kernel_rfl)) rfl
            have e20 : a.tmps[20]? = some (.int .i64 (n0 + cx)) := by rw [ha]; exact putSel_on (e := (8, 20, .int .i64 (n0 + cx))) 7 rfl rfl (hon 8 (by kernel_rfl)) rfl
            replace ha := Aside0.mk ha
            have B0 := Aside0.mk (Q_B0 hb_)
            have ZA := Aside0.mk (Q_ZA hb_)
            have ZB := Aside0.mk Q_ZB
            have B1 := Aside0.mk Q_B1
            have d_ := blk_cell ZA.out 0
            have e_ := blk_frozen ZA.out 0
            refine skip_ (w1 := ?_) (by rfl) rfl ?_ ?_
            rotate_left
            · go_simp
              rfl
            have hz_ := blk_set ZA.out 0 (.int .i64 (n0 + cx))
            have hf_ := blk_far ZB.out (p := ⟨w.heap.size + 1, 0, none⟩) (by show w.heap.size ≠ w.heap.size + 1; omega) (.int .i64 (n0 + cx))
            refine hK.out _ _ ⟨(by rw [ha.out]; exact putSel_none (v := undef) rfl), fun h0_ => absurd ((up_self b 10).symm.trans h0_) (by decide), fun h0_ => absurd ((up_self b 10).symm.trans h0_) (by decide), hf_, (B1.out.setCell (p := ⟨w.heap.size + 1, 0, none⟩) (Nat.le_succ _) _), fun _ => (by simpa using hz_)⟩
          exact steps_nil
        rintro b a wl hall ⟨ha, Q_B0, Q_ZA, Q_ZB, Q_B1, Q_ZC⟩
        clear B0 B1 ZA ZB
        have hb1_ := hall 1 (by kernel_rfl)
        have hb2_ := hall 2 (by kernel_rfl)
        have hb3_ := hall 3 (by kernel_rfl)
        have hb4_ := hall 4 (by kernel_rfl)
        have hb5_ := hall 5 (by kernel_rfl)
        have hb6_ := hall 6 (by kernel_rfl)
        have hb7_ := hall 7 (by kernel_rfl)
        have hb8_ := hall 8 (by kernel_rfl)
        have hb9_ := hall 9 (by kernel_rfl)
        have hb10_ := hall 10 (by kernel_rfl)
        subst ha
        simp only [putSel, hb1_, hb2_, hb3_, hb4_, hb5_, hb6_, hb7_, hb8_, hb9_, hb10_, if_true, Act.put, List.setIfInBounds_toArray, List.set_cons_zero, List.set_cons_succ]
        clear Q_B0
        clear Q_ZA
        have ZB := Aside0.mk Q_ZB
        clear Q_ZB
        have B1 := Aside0.mk Q_B1
        clear Q_B1
        have ZC := Aside0.mk (Q_ZC hb10_)
        clear Q_ZC
        clear hall hb1_ hb2_ hb3_ hb4_ hb5_ hb6_ hb7_ hb8_ hb9_ hb10_
        clear HT_ HW_
        go_wp2_with fail
        go_roundg (l.length - i)
        case measure => have := HQ.out; have := HI2.out; omega
        case rel => exact ⟨i + 1, by first | rfl | (simp; unfold wrap64; have := HI2.out; have := HL.out.1; omega), ⟨ZB.out, by rw [HE.out.1, HE.out.2.1, HE.out.2.2]; exact ZC.out⟩, ⟨by have := HI2.out; omega⟩, ⟨by have := HQ.out; have := HI2.out; omega⟩, B1⟩
      · have HPR := Aside0.mk (show mn (mx x.f2 0) 2 = 1 from hp)
        have HWR := Aside0.mk (show IntKind.i64.wrap (n1 + cx) = n1 + cx by rw [i64_w]; unfold wrap64; omega)
        rw [hp] at s0 s1 s2
        have HE := Aside0.mk (show useOf (l.take (i + 1)) 0 = n0 ∧ useOf (l.take (i + 1)) 1 = n1 + cx ∧ useOf (l.take (i + 1)) 2 = n2 from ⟨by rw [s0]; simp, by rw [s1]; simp, by rw [s2]; simp⟩)
        clear hp s0 s1 s2 r0 r1 r2 hcr HL1 HXE hi
        refine start_ (n := 11) (S := fun w' => True) (ds := []) #[false, false, false, false, false, false, false, false, false, false, false] (by kernel_rfl) rfl rfl trivial (fun hHeld => ?_)
        refine with_tabW used8.tab5 used8.bits5 (fun HT_ HW_ => ?_)
        generalize W0.drew = wq at B0 ZA ZB B1 hHeld ⊢
        refine pure_ (i := 0) (N := some 12) (v := ?_) (a' := ?_) #[true, false, false, false, false, false, false, false, false, false, false] rfl rfl (any_of HT_.out (by kernel_rfl)) (fun _ _ _ h => h) (Or.inl ⟨by rfl, ?_⟩) ?_ ?_
        rotate_left
        · intro w'
          go_simp
          with_reducible rfl
        rotate_left
        · simp only [Act.put, List.setIfInBounds_toArray, List.set_cons_zero, List.set_cons_succ, i64_w, i32_w]
          rfl
        refine inv_at [1, 2, 3, 4, 5, 6, 7, 8, 9, 10] (fun a0_ b a w' => a = putSel a0_ b [(1, 13, .int .i64 x.f2), (2, 14, .int .i64 (mx x.f2 0)), (3, 15, .int .i64 1), (4, 16, .pointer (some ⟨w.heap.size + 1, 1, none⟩)), (5, 17, .int .i64 n1), (6, 18, .agg #[.int .u64 x.f0, .int .u64 x.f1, .int .i64 x.f2, .int .i64 x.f3, .int .u64 x.f4, .bool x.f5, .int .i64 x.f6, .slice Ap x.f7.length cpp]), (7, 19, .int .i64 cx), (8, 20, .int .i64 (n1 + cx)), (9, 21, .pointer (some ⟨w.heap.size + 1, 1, none⟩))] ∧ (b 10 = false → Below W0.heap.size W0 w') ∧ (b 10 = false → w'.heap[w.heap.size + 1]? = some (.cells #[.int .i64 n0, .int .i64 n1, .int .i64 n2] 25 (0, 0))) ∧ (w'.heap[w.heap.size]? = some (.cells #[.int .i64 0, .int .i64 0, .int .i64 0] 25 (0, 0))) ∧ (Below w.heap.size w w') ∧ (b 10 = true → w'.heap[w.heap.size + 1]? = some (.cells #[.int .i64 n0, .int .i64 (n1 + cx), .int .i64 n2] 25 (0, 0)))) HT_.out HW_.out (by kernel_rfl) (by kernel_rfl) ?_ ?_ ?_
        · exact ⟨by simp only [putSel, Bool.false_eq_true, if_false], fun _ => B0.out, fun _ => ZA.out, ZB.out, B1.out, fun h_ => absurd h_ (by decide)⟩
        · skip
          clear B0 B1 ZA ZB
          refine steps_cons ?_ ?_
          · rintro b a w' ⟨ha, Q_B0, Q_ZA, Q_ZB, Q_B1, Q_ZC⟩ hb_ hon hoff
            refine ⟨_, rfl, fun K hK => ?_⟩
            have e12 : a.tmps[12]? = some (.pointer (some ⟨g5, 2, none⟩)) := by rw [ha]; exact (putSel_off rfl).trans rfl
            replace ha := Aside0.mk ha
            have B0 := Aside0.mk (Q_B0 (hoff 10 (by kernel_rfl)))
            have ZA := Aside0.mk (Q_ZA (hoff 10 (by kernel_rfl)))
            have ZB := Aside0.mk Q_ZB
            have B1 := Aside0.mk Q_B1
            have hb_ := blk_below H5.out B0.out
            have c2_ := blk_cell hb_ 2
            clear hb_
            refine value_ (w1 := w') (v := .int .i64 x.f2) (by rfl) rfl ?_ ?_
            · go_simp
              (try simp only [i64_w])
              try rfl
            refine hK.out _ _ ⟨(by rw [ha.out]; exact putSel_upk 0 hb_ rfl rfl rfl), Q_B0, Q_ZA, Q_ZB, Q_B1, fun h0_ => absurd ((hoff 10 (by kernel_rfl)).symm.trans h0_) (by decide)⟩
          refine steps_cons ?_ ?_
          · rintro b a w' ⟨ha, Q_B0, Q_ZA, Q_ZB, Q_B1, Q_ZC⟩ hb_ hon hoff
            refine ⟨_, rfl, fun K hK => ?_⟩
            have e13 : a.tmps[13]? = some (.int .i64 x.f2) := by rw [ha]; exact putSel_on (e := (1, 13, .int .i64 x.f2)) 0 rfl rfl (hon 1 (by kernel_rfl)) rfl
            replace ha := Aside0.mk ha
            have B0 := Aside0.mk (Q_B0 (hoff 10 (by kernel_rfl)))
            have ZA := Aside0.mk (Q_ZA (hoff 10 (by kernel_rfl)))
            have ZB := Aside0.mk Q_ZB
            have B1 := Aside0.mk Q_B1
            refine value_ (w1 := w') (v := .int .i64 (mx x.f2 0)) (by rfl) rfl ?_ ?_
            · go_simp
              (try simp only [i64_w])
              try rfl
            refine hK.out _ _ ⟨(by rw [ha.out]; exact putSel_upk 1 hb_ rfl rfl rfl), Q_B0, Q_ZA, Q_ZB, Q_B1, fun h0_ => absurd ((hoff 10 (by kernel_rfl)).symm.trans h0_) (by decide)⟩
          refine steps_cons ?_ ?_
          · rintro b a w' ⟨ha, Q_B0, Q_ZA, Q_ZB, Q_B1, Q_ZC⟩ hb_ hon hoff
            refine ⟨_, rfl, fun K hK => ?_⟩
            have e14 : a.tmps[14]? = some (.int .i64 (mx x.f2 0)) := by rw [ha]; exact putSel_on (e := (2, 14, .int .i64 (mx x.f2 0))) 1 rfl rfl (hon 2 (by kernel_rfl)) rfl
            replace ha := Aside0.mk ha
            have B0 := Aside0.mk (Q_B0 (hoff 10 (by kernel_rfl)))
            have ZA := Aside0.mk (Q_ZA (hoff 10 (by kernel_rfl)))
            have ZB := Aside0.mk Q_ZB
            have B1 := Aside0.mk Q_B1
            refine value_ (w1 := w') (v := .int .i64 1) (by rfl) rfl ?_ ?_
            · go_simp
              first | done | (simp [HPR.out]; done) | exact HPR.out | (intro h_; have h2_ := HPR.out; unfold mn at h2_; split at h2_ <;> omega)
            refine hK.out _ _ ⟨(by rw [ha.out]; exact putSel_upk 2 hb_ rfl rfl rfl), fun _ => B0.out, fun _ => ZA.out, ZB.out, B1.out, fun h0_ => absurd ((hoff 10 (by kernel_rfl)).symm.trans h0_) (by decide)⟩
          refine steps_cons ?_ ?_
          · rintro b a w' ⟨ha, Q_B0, Q_ZA, Q_ZB, Q_B1, Q_ZC⟩ hb_ hon hoff
            refine ⟨_, rfl, fun K hK => ?_⟩
            have e3 : a.tmps[3]? = some (.pointer (some ⟨w.heap.size + 1, 0, none⟩)) := by rw [ha]; exact (putSel_off rfl).trans rfl
            have e15 : a.tmps[15]? = some (.int .i64 1) := by rw [ha]; exact putSel_on (e := (3, 15, .int .i64 1)) 2 rfl rfl (hon 3 (by kernel_rfl)) rfl
            replace ha := Aside0.mk ha
            have B0 := Aside0.mk (Q_B0 (hoff 10 (by kernel_rfl)))
            have ZA := Aside0.mk (Q_ZA (hoff 10 (by kernel_rfl)))
            have ZB := Aside0.mk Q_ZB
            have B1 := Aside0.mk Q_B1
            refine value_ (w1 := w') (v := .pointer (some ⟨w.heap.size + 1, 1, none⟩)) (by rfl) rfl ?_ ?_
            · go_simp
              (try simp only [i64_w])
              try rfl
            refine hK.out _ _ ⟨(by rw [ha.out]; exact putSel_upk 3 hb_ rfl rfl rfl), Q_B0, Q_ZA, Q_ZB, Q_B1, fun h0_ => absurd ((hoff 10 (by kernel_rfl)).symm.trans h0_) (by decide)⟩
          refine steps_cons ?_ ?_
          · rintro b a w' ⟨ha, Q_B0, Q_ZA, Q_ZB, Q_B1, Q_ZC⟩ hb_ hon hoff
            refine ⟨_, rfl, fun K hK => ?_⟩
            have e16 : a.tmps[16]? = some (.pointer (some ⟨w.heap.size + 1, 1, none⟩)) := by rw [ha]; exact putSel_on (e := (4, 16, .pointer (some ⟨w.heap.size + 1, 1, none⟩))) 3 rfl rfl (hon 4 (by kernel_rfl)) rfl
            replace ha := Aside0.mk ha
            have B0 := Aside0.mk (Q_B0 (hoff 10 (by kernel_rfl)))
            have ZA := Aside0.mk (Q_ZA (hoff 10 (by kernel_rfl)))
            have ZB := Aside0.mk Q_ZB
            have B1 := Aside0.mk Q_B1
            have c_ := blk_cell ZA.out 1
            refine value_ (w1 := w') (v := .int .i64 n1) (by rfl) rfl ?_ ?_
            · go_simp
              (try simp only [i64_w])
              try rfl
            refine hK.out _ _ ⟨(by rw [ha.out]; exact putSel_upk 4 hb_ rfl rfl rfl), Q_B0, Q_ZA, Q_ZB, Q_B1, fun h0_ => absurd ((hoff 10 (by kernel_rfl)).symm.trans h0_) (by decide)⟩
          refine steps_cons ?_ ?_
          · rintro b a w' ⟨ha, Q_B0, Q_ZA, Q_ZB, Q_B1, Q_ZC⟩ hb_ hon hoff
            refine ⟨_, rfl, fun K hK => ?_⟩
            have e5 : a.tmps[5]? = some (.pointer (some ⟨g5, 0, none⟩)) := by rw [ha]; exact (putSel_off rfl).trans rfl
            replace ha := Aside0.mk ha
            have B0 := Aside0.mk (Q_B0 (hoff 10 (by kernel_rfl)))
            have ZA := Aside0.mk (Q_ZA (hoff 10 (by kernel_rfl)))
            have ZB := Aside0.mk Q_ZB
            have B1 := Aside0.mk Q_B1
            have hb_ := blk_below H5.out B0.out
            have c0_ := blk_cell hb_ 0
            have c1_ := blk_cell hb_ 1
            have c2_ := blk_cell hb_ 2
            have c3_ := blk_cell hb_ 3
            have c4_ := blk_cell hb_ 4
            have c5_ := blk_cell hb_ 5
            have c6_ := blk_cell hb_ 6
            have c7_ := blk_cell hb_ 7
            clear hb_
            refine value_ (w1 := w') (v := .agg #[.int .u64 x.f0, .int .u64 x.f1, .int .i64 x.f2, .int .i64 x.f3, .int .u64 x.f4, .bool x.f5, .int .i64 x.f6, .slice Ap x.f7.length cpp]) (by rfl) rfl ?_ ?_
            · go_simp
              (try simp only [i64_w])
              try rfl
            refine hK.out _ _ ⟨(by rw [ha.out]; exact putSel_upk 5 hb_ rfl rfl rfl), Q_B0, Q_ZA, Q_ZB, Q_B1, fun h0_ => absurd ((hoff 10 (by kernel_rfl)).symm.trans h0_) (by decide)⟩
          refine steps_cons ?_ ?_
          · rintro b a w' ⟨ha, Q_B0, Q_ZA, Q_ZB, Q_B1, Q_ZC⟩ hb_ hon hoff
            refine ⟨_, rfl, fun K hK => ?_⟩
            have e18 : a.tmps[18]? = some (.agg #[.int .u64 x.f0, .int .u64 x.f1, .int .i64 x.f2, .int .i64 x.f3, .int .u64 x.f4, .bool x.f5, .int .i64 x.f6, .slice Ap x.f7.length cpp]) := by rw [ha]; exact putSel_on (e := (6, 18, .agg #[.int .u64 x.f0, .int .u64 x.f1, .int .i64 x.f2, .int .i64 x.f3, .int .u64 x.f4, .bool x.f5, .int .i64 x.f6, .slice Ap x.f7.length cpp])) 5 rfl rfl (hon 6 (by kernel_rfl)) rfl
            replace ha := Aside0.mk ha
            have B0 := Aside0.mk (Q_B0 (hoff 10 (by kernel_rfl)))
            have ZA := Aside0.mk (Q_ZA (hoff 10 (by kernel_rfl)))
            have ZB := Aside0.mk Q_ZB
            have B1 := Aside0.mk Q_B1
            refine goes_ Try.func17 (by kernel_rfl) rfl #[.agg #[.int .u64 x.f0, .int .u64 x.f1, .int .i64 x.f2, .int .i64 x.f3, .int .u64 x.f4, .bool x.f5, .int .i64 x.f6, .slice Ap x.f7.length cpp]] (by rfl) rfl rfl (by first | (simp only [List.map_toArray, List.map_cons, List.map_nil, Act.eval, Array.getD_eq_getD_getElem?, Option.getD_some, e18]; done) | (simp only [List.map_toArray, List.map_cons, List.map_nil, Act.eval, Array.getD_eq_getD_getElem?, Option.getD_some, e18]; rfl)) ?_
            with_reducible refine (HCO.out _ B0.out).mono ?_
            rintro e w2 ⟨rfl, hb⟩
            refine ⟨_, rfl, ?_⟩
            refine hK.out _ _ ⟨(by rw [ha.out]; exact putSel_upk 6 hb_ rfl rfl rfl), fun _ => below_then B0.out B0.out.size hb, fun _ => blk_below ZA.out hb, blk_below ZB.out hb, below_then B1.out B1.out.size hb, fun h0_ => absurd ((hoff 10 (by kernel_rfl)).symm.trans h0_) (by decide)⟩
          refine steps_cons ?_ ?_
          · rintro b a w' ⟨ha, Q_B0, Q_ZA, Q_ZB, Q_B1, Q_ZC⟩ hb_ hon hoff
            refine ⟨_, rfl, fun K hK => ?_⟩
            have e17 : a.tmps[17]? = some (.int .i64 n1) := by rw [ha]; exact putSel_on (e := (5, 17, .int .i64 n1)) 4 rfl rfl (hon 5 (by kernel_rfl)) rfl
            have e19 : a.tmps[19]? = some (.int .i64 cx) := by rw [ha]; exact putSel_on (e := (7, 19, .int .i64 cx)) 6 rfl rfl (hon 7 (by kernel_rfl)) rfl
            replace ha := Aside0.mk ha
            have B0 := Aside0.mk (Q_B0 (hoff 10 (by kernel_rfl)))
            have ZA := Aside0.mk (Q_ZA (hoff 10 (by kernel_rfl)))
            have ZB := Aside0.mk Q_ZB
            have B1 := Aside0.mk Q_B1
            have hw_ := HWR.out
            refine value_ (w1 := w') (v := .int .i64 (n1 + cx)) (by rfl) rfl ?_ ?_
            · go_simp
              (try simp only [i64_w])
              try rfl
            refine hK.out _ _ ⟨(by rw [ha.out]; exact putSel_upk 7 hb_ rfl rfl rfl), Q_B0, Q_ZA, Q_ZB, Q_B1, fun h0_ => absurd ((hoff 10 (by kernel_rfl)).symm.trans h0_) (by decide)⟩
          refine steps_cons ?_ ?_
          · rintro b a w' ⟨ha, Q_B0, Q_ZA, Q_ZB, Q_B1, Q_ZC⟩ hb_ hon hoff
            refine ⟨_, rfl, fun K hK => ?_⟩
            have e3 : a.tmps[3]? = some (.pointer (some ⟨w.heap.size + 1, 0, none⟩)) := by rw [ha]; exact (putSel_off rfl).trans rfl
            have e15 : a.tmps[15]? = some (.int .i64 1) := by rw [ha]; exact putSel_on (e := (3, 15, .int .i64 1)) 2 rfl rfl (hon 3 (by kernel_rfl)) rfl
            replace ha := Aside0.mk ha
            have B0 := Aside0.mk (Q_B0 (hoff 10 (by kernel_rfl)))
            have ZA := Aside0.mk (Q_ZA (hoff 10 (by kernel_rfl)))
            have ZB := Aside0.mk Q_ZB
            have B1 := Aside0.mk Q_B1
            refine value_ (w1 := w') (v := .pointer (some ⟨w.heap.size + 1, 1, none⟩)) (by rfl) rfl ?_ ?_
            · go_simp
              (try simp only [i64_w])
              try rfl
            refine hK.out _ _ ⟨(by rw [ha.out]; exact putSel_upk 8 hb_ rfl rfl rfl), Q_B0, Q_ZA, Q_ZB, Q_B1, fun h0_ => absurd ((hoff 10 (by kernel_rfl)).symm.trans h0_) (by decide)⟩
          refine steps_cons ?_ ?_
          · rintro b a w' ⟨ha, Q_B0, Q_ZA, Q_ZB, Q_B1, Q_ZC⟩ hb_ hon hoff
            refine ⟨_, rfl, fun K hK => ?_⟩
            have e21 : a.tmps[21]? = some (.pointer (some ⟨w.heap.size + 1, 1, none⟩)) := by rw [ha]; exact putSel_on (e := (9, 21, .pointer (some ⟨w.heap.size + 1, 1, none⟩))) 8 rfl rfl (hon 9 (by kernel_rfl)) rfl
            have e20 : a.tmps[20]? = some (.int .i64 (n1 + cx)) := by rw [ha]; exact putSel_on (e := (8, 20, .int .i64 (n1 + cx))) 7 rfl rfl (hon 8 (by kernel_rfl)) rfl
            replace ha := Aside0.mk ha
            have B0 := Aside0.mk (Q_B0 hb_)
            have ZA := Aside0.mk (Q_ZA hb_)
            have ZB := Aside0.mk Q_ZB
            have B1 := Aside0.mk Q_B1
            have d_ := blk_cell ZA.out 1
            have e_ := blk_frozen ZA.out 1
            refine skip_ (w1 := ?_) (by rfl) rfl ?_ ?_
            rotate_left
            · go_simp
              rfl
            have hz_ := blk_set ZA.out 1 (.int .i64 (n1 + cx))
            have hf_ := blk_far ZB.out (p := ⟨w.heap.size + 1, 1, none⟩) (by show w.heap.size ≠ w.heap.size + 1; omega) (.int .i64 (n1 + cx))
            refine hK.out _ _ ⟨(by rw [ha.out]; exact putSel_none (v := undef) rfl), fun h0_ => absurd ((up_self b 10).symm.trans h0_) (by decide), fun h0_ => absurd ((up_self b 10).symm.trans h0_) (by decide), hf_, (B1.out.setCell (p := ⟨w.heap.size + 1, 1, none⟩) (Nat.le_succ _) _), fun _ => (by simpa using hz_)⟩
          exact steps_nil
        rintro b a wl hall ⟨ha, Q_B0, Q_ZA, Q_ZB, Q_B1, Q_ZC⟩
        clear B0 B1 ZA ZB
        have hb1_ := hall 1 (by kernel_rfl)
        have hb2_ := hall 2 (by kernel_rfl)
        have hb3_ := hall 3 (by kernel_rfl)
        have hb4_ := hall 4 (by kernel_rfl)
        have hb5_ := hall 5 (by kernel_rfl)
        have hb6_ := hall 6 (by kernel_rfl)
        have hb7_ := hall 7 (by kernel_rfl)
        have hb8_ := hall 8 (by kernel_rfl)
        have hb9_ := hall 9 (by kernel_rfl)
        have hb10_ := hall 10 (by kernel_rfl)
        subst ha
        simp only [putSel, hb1_, hb2_, hb3_, hb4_, hb5_, hb6_, hb7_, hb8_, hb9_, hb10_, if_true, Act.put, List.setIfInBounds_toArray, List.set_cons_zero, List.set_cons_succ]
        clear Q_B0
        clear Q_ZA
        have ZB := Aside0.mk Q_ZB
        clear Q_ZB
        have B1 := Aside0.mk Q_B1
        clear Q_B1
        have ZC := Aside0.mk (Q_ZC hb10_)
        clear Q_ZC
        clear hall hb1_ hb2_ hb3_ hb4_ hb5_ hb6_ hb7_ hb8_ hb9_ hb10_
        clear HT_ HW_
        go_wp2_with fail
        go_roundg (l.length - i)
        case measure => have := HQ.out; have := HI2.out; omega
        case rel => exact ⟨i + 1, by first | rfl | (simp; unfold wrap64; have := HI2.out; have := HL.out.1; omega), ⟨ZB.out, by rw [HE.out.1, HE.out.2.1, HE.out.2.2]; exact ZC.out⟩, ⟨by have := HI2.out; omega⟩, ⟨by have := HQ.out; have := HI2.out; omega⟩, B1⟩
      · have HPR := Aside0.mk (show mn (mx x.f2 0) 2 = 2 from hp)
        have HWR := Aside0.mk (show IntKind.i64.wrap (n2 + cx) = n2 + cx by rw [i64_w]; unfold wrap64; omega)
        rw [hp] at s0 s1 s2
        have HE := Aside0.mk (show useOf (l.take (i + 1)) 0 = n0 ∧ useOf (l.take (i + 1)) 1 = n1 ∧ useOf (l.take (i + 1)) 2 = n2 + cx from ⟨by rw [s0]; simp, by rw [s1]; simp, by rw [s2]; simp⟩)
        clear hp s0 s1 s2 r0 r1 r2 hcr HL1 HXE hi
        refine start_ (n := 11) (S := fun w' => True) (ds := []) #[false, false, false, false, false, false, false, false, false, false, false] (by kernel_rfl) rfl rfl trivial (fun hHeld => ?_)
        refine with_tabW used8.tab5 used8.bits5 (fun HT_ HW_ => ?_)
        generalize W0.drew = wq at B0 ZA ZB B1 hHeld ⊢
        refine pure_ (i := 0) (N := some 12) (v := ?_) (a' := ?_) #[true, false, false, false, false, false, false, false, false, false, false] rfl rfl (any_of HT_.out (by kernel_rfl)) (fun _ _ _ h => h) (Or.inl ⟨by rfl, ?_⟩) ?_ ?_
        rotate_left
        · intro w'
          go_simp
          with_reducible rfl
        rotate_left
        · simp only [Act.put, List.setIfInBounds_toArray, List.set_cons_zero, List.set_cons_succ, i64_w, i32_w]
          rfl
        refine inv_at [1, 2, 3, 4, 5, 6, 7, 8, 9, 10] (fun a0_ b a w' => a = putSel a0_ b [(1, 13, .int .i64 x.f2), (2, 14, .int .i64 (mx x.f2 0)), (3, 15, .int .i64 2), (4, 16, .pointer (some ⟨w.heap.size + 1, 2, none⟩)), (5, 17, .int .i64 n2), (6, 18, .agg #[.int .u64 x.f0, .int .u64 x.f1, .int .i64 x.f2, .int .i64 x.f3, .int .u64 x.f4, .bool x.f5, .int .i64 x.f6, .slice Ap x.f7.length cpp]), (7, 19, .int .i64 cx), (8, 20, .int .i64 (n2 + cx)), (9, 21, .pointer (some ⟨w.heap.size + 1, 2, none⟩))] ∧ (b 10 = false → Below W0.heap.size W0 w') ∧ (b 10 = false → w'.heap[w.heap.size + 1]? = some (.cells #[.int .i64 n0, .int .i64 n1, .int .i64 n2] 25 (0, 0))) ∧ (w'.heap[w.heap.size]? = some (.cells #[.int .i64 0, .int .i64 0, .int .i64 0] 25 (0, 0))) ∧ (Below w.heap.size w w') ∧ (b 10 = true → w'.heap[w.heap.size + 1]? = some (.cells #[.int .i64 n0, .int .i64 n1, .int .i64 (n2 + cx)] 25 (0, 0)))) HT_.out HW_.out (by kernel_rfl) (by kernel_rfl) ?_ ?_ ?_
        · exact ⟨by simp only [putSel, Bool.false_eq_true, if_false], fun _ => B0.out, fun _ => ZA.out, ZB.out, B1.out, fun h_ => absurd h_ (by decide)⟩
        · skip
          clear B0 B1 ZA ZB
          refine steps_cons ?_ ?_
          · rintro b a w' ⟨ha, Q_B0, Q_ZA, Q_ZB, Q_B1, Q_ZC⟩ hb_ hon hoff
            refine ⟨_, rfl, fun K hK => ?_⟩
            have e12 : a.tmps[12]? = some (.pointer (some ⟨g5, 2, none⟩)) := by rw [ha]; exact (putSel_off rfl).trans rfl
            replace ha := Aside0.mk ha
            have B0 := Aside0.mk (Q_B0 (hoff 10 (by kernel_rfl)))
            have ZA := Aside0.mk (Q_ZA (hoff 10 (by kernel_rfl)))
            have ZB := Aside0.mk Q_ZB
            have B1 := Aside0.mk Q_B1
            have hb_ := blk_below H5.out B0.out
            have c2_ := blk_cell hb_ 2
            clear hb_
            refine value_ (w1 := w') (v := .int .i64 x.f2) (by rfl) rfl ?_ ?_
            · go_simp
              (try simp only [i64_w])
              try rfl
            refine hK.out _ _ ⟨(by rw [ha.out]; exact putSel_upk 0 hb_ rfl rfl rfl), Q_B0, Q_ZA, Q_ZB, Q_B1, fun h0_ => absurd ((hoff 10 (by kernel_rfl)).symm.trans h0_) (by decide)⟩
          refine steps_cons ?_ ?_
          · rintro b a w' ⟨ha, Q_B0, Q_ZA, Q_ZB, Q_B1, Q_ZC⟩ hb_ hon hoff
            refine ⟨_, rfl, fun K hK => ?_⟩
            have e13 : a.tmps[13]? = some (.int .i64 x.f2) := by rw [ha]; exact putSel_on (e := (1, 13, .int .i64 x.f2)) 0 rfl rfl (hon 1 (by kernel_rfl)) rfl
            replace ha := Aside0.mk ha
            have B0 := Aside0.mk (Q_B0 (hoff 10 (by kernel_rfl)))
            have ZA := Aside0.mk (Q_ZA (hoff 10 (by kernel_rfl)))
            have ZB := Aside0.mk Q_ZB
            have B1 := Aside0.mk Q_B1
            refine value_ (w1 := w') (v := .int .i64 (mx x.f2 0)) (by rfl) rfl ?_ ?_
            · go_simp
              (try simp only [i64_w])
              try rfl
            refine hK.out _ _ ⟨(by rw [ha.out]; exact putSel_upk 1 hb_ rfl rfl rfl), Q_B0, Q_ZA, Q_ZB, Q_B1, fun h0_ => absurd ((hoff 10 (by kernel_rfl)).symm.trans h0_) (by decide)⟩
          refine steps_cons ?_ ?_
          · rintro b a w' ⟨ha, Q_B0, Q_ZA, Q_ZB, Q_B1, Q_ZC⟩ hb_ hon hoff
            refine ⟨_, rfl, fun K hK => ?_⟩
            have e14 : a.tmps[14]? = some (.int .i64 (mx x.f2 0)) := by rw [ha]; exact putSel_on (e := (2, 14, .int .i64 (mx x.f2 0))) 1 rfl rfl (hon 2 (by kernel_rfl)) rfl
            replace ha := Aside0.mk ha
            have B0 := Aside0.mk (Q_B0 (hoff 10 (by kernel_rfl)))
            have ZA := Aside0.mk (Q_ZA (hoff 10 (by kernel_rfl)))
            have ZB := Aside0.mk Q_ZB
            have B1 := Aside0.mk Q_B1
            refine value_ (w1 := w') (v := .int .i64 2) (by rfl) rfl ?_ ?_
            · go_simp
              first | done | (simp [HPR.out]; done) | exact HPR.out | (intro h_; have h2_ := HPR.out; unfold mn at h2_; split at h2_ <;> omega)
            refine hK.out _ _ ⟨(by rw [ha.out]; exact putSel_upk 2 hb_ rfl rfl rfl), fun _ => B0.out, fun _ => ZA.out, ZB.out, B1.out, fun h0_ => absurd ((hoff 10 (by kernel_rfl)).symm.trans h0_) (by decide)⟩
          refine steps_cons ?_ ?_
          · rintro b a w' ⟨ha, Q_B0, Q_ZA, Q_ZB, Q_B1, Q_ZC⟩ hb_ hon hoff
            refine ⟨_, rfl, fun K hK => ?_⟩
            have e3 : a.tmps[3]? = some (.pointer (some ⟨w.heap.size + 1, 0, none⟩)) := by rw [ha]; exact (putSel_off rfl).trans rfl
            have e15 : a.tmps[15]? = some (.int .i64 2) := by rw [ha]; exact putSel_on (e := (3, 15, .int .i64 2)) 2 rfl rfl (hon 3 (by kernel_rfl)) rfl
            replace ha := Aside0.mk ha
            have B0 := Aside0.mk (Q_B0 (hoff 10 (by kernel_rfl)))
            have ZA := Aside0.mk (Q_ZA (hoff 10 (by kernel_rfl)))
            have ZB := Aside0.mk Q_ZB
            have B1 := Aside0.mk Q_B1
            refine value_ (w1 := w') (v := .pointer (some ⟨w.heap.size + 1, 2, none⟩)) (by rfl) rfl ?_ ?_
            · go_simp
              (try simp only [i64_w])
              try rfl
            refine hK.out _ _ ⟨(by rw [ha.out]; exact putSel_upk 3 hb_ rfl rfl rfl), Q_B0, Q_ZA, Q_ZB, Q_B1, fun h0_ => absurd ((hoff 10 (by kernel_rfl)).symm.trans h0_) (by decide)⟩
          refine steps_cons ?_ ?_
          · rintro b a w' ⟨ha, Q_B0, Q_ZA, Q_ZB, Q_B1, Q_ZC⟩ hb_ hon hoff
            refine ⟨_, rfl, fun K hK => ?_⟩
            have e16 : a.tmps[16]? = some (.pointer (some ⟨w.heap.size + 1, 2, none⟩)) := by rw [ha]; exact putSel_on (e := (4, 16, .pointer (some ⟨w.heap.size + 1, 2, none⟩))) 3 rfl rfl (hon 4 (by kernel_rfl)) rfl
            replace ha := Aside0.mk ha
            have B0 := Aside0.mk (Q_B0 (hoff 10 (by kernel_rfl)))
            have ZA := Aside0.mk (Q_ZA (hoff 10 (by kernel_rfl)))
            have ZB := Aside0.mk Q_ZB
            have B1 := Aside0.mk Q_B1
            have c_ := blk_cell ZA.out 2
            refine value_ (w1 := w') (v := .int .i64 n2) (by rfl) rfl ?_ ?_
            · go_simp
              (try simp only [i64_w])
              try rfl
            refine hK.out _ _ ⟨(by rw [ha.out]; exact putSel_upk 4 hb_ rfl rfl rfl), Q_B0, Q_ZA, Q_ZB, Q_B1, fun h0_ => absurd ((hoff 10 (by kernel_rfl)).symm.trans h0_) (by decide)⟩
          refine steps_cons ?_ ?_
          · rintro b a w' ⟨ha, Q_B0, Q_ZA, Q_ZB, Q_B1, Q_ZC⟩ hb_ hon hoff
            refine ⟨_, rfl, fun K hK => ?_⟩
            have e5 : a.tmps[5]? = some (.pointer (some ⟨g5, 0, none⟩)) := by rw [ha]; exact (putSel_off rfl).trans rfl
            replace ha := Aside0.mk ha
            have B0 := Aside0.mk (Q_B0 (hoff 10 (by kernel_rfl)))
            have ZA := Aside0.mk (Q_ZA (hoff 10 (by kernel_rfl)))
            have ZB := Aside0.mk Q_ZB
            have B1 := Aside0.mk Q_B1
            have hb_ := blk_below H5.out B0.out
            have c0_ := blk_cell hb_ 0
            have c1_ := blk_cell hb_ 1
            have c2_ := blk_cell hb_ 2
            have c3_ := blk_cell hb_ 3
            have c4_ := blk_cell hb_ 4
            have c5_ := blk_cell hb_ 5
            have c6_ := blk_cell hb_ 6
            have c7_ := blk_cell hb_ 7
            clear hb_
            refine value_ (w1 := w') (v := .agg #[.int .u64 x.f0, .int .u64 x.f1, .int .i64 x.f2, .int .i64 x.f3, .int .u64 x.f4, .bool x.f5, .int .i64 x.f6, .slice Ap x.f7.length cpp]) (by rfl) rfl ?_ ?_
            · go_simp
              (try simp only [i64_w])
              try rfl
            refine hK.out _ _ ⟨(by rw [ha.out]; exact putSel_upk 5 hb_ rfl rfl rfl), Q_B0, Q_ZA, Q_ZB, Q_B1, fun h0_ => absurd ((hoff 10 (by kernel_rfl)).symm.trans h0_) (by decide)⟩
          refine steps_cons ?_ ?_
          · rintro b a w' ⟨ha, Q_B0, Q_ZA, Q_ZB, Q_B1, Q_ZC⟩ hb_ hon hoff
            refine ⟨_, rfl, fun K hK => ?_⟩
            have e18 : a.tmps[18]? = some (.agg #[.int .u64 x.f0, .int .u64 x.f1, .int .i64 x.f2, .int .i64 x.f3, .int .u64 x.f4, .bool x.f5, .int .i64 x.f6, .slice Ap x.f7.length cpp]) := by rw [ha]; exact putSel_on (e := (6, 18, .agg #[.int .u64 x.f0, .int .u64 x.f1, .int .i64 x.f2, .int .i64 x.f3, .int .u64 x.f4, .bool x.f5, .int .i64 x.f6, .slice Ap x.f7.length cpp])) 5 rfl rfl (hon 6 (by kernel_rfl)) rfl
            replace ha := Aside0.mk ha
            have B0 := Aside0.mk (Q_B0 (hoff 10 (by kernel_rfl)))
            have ZA := Aside0.mk (Q_ZA (hoff 10 (by kernel_rfl)))
            have ZB := Aside0.mk Q_ZB
            have B1 := Aside0.mk Q_B1
            refine goes_ Try.func17 (by kernel_rfl) rfl #[.agg #[.int .u64 x.f0, .int .u64 x.f1, .int .i64 x.f2, .int .i64 x.f3, .int .u64 x.f4, .bool x.f5, .int .i64 x.f6, .slice Ap x.f7.length cpp]] (by rfl) rfl rfl (by first | (simp only [List.map_toArray, List.map_cons, List.map_nil, Act.eval, Array.getD_eq_getD_getElem?, Option.getD_some, e18]; done) | (simp only [List.map_toArray, List.map_cons, List.map_nil, Act.eval, Array.getD_eq_getD_getElem?, Option.getD_some, e18]; rfl)) ?_
            with_reducible refine (HCO.out _ B0.out).mono ?_
            rintro e w2 ⟨rfl, hb⟩
            refine ⟨_, rfl, ?_⟩
            refine hK.out _ _ ⟨(by rw [ha.out]; exact putSel_upk 6 hb_ rfl rfl rfl), fun _ => below_then B0.out B0.out.size hb, fun _ => blk_below ZA.out hb, blk_below ZB.out hb, below_then B1.out B1.out.size hb, fun h0_ => absurd ((hoff 10 (by kernel_rfl)).symm.trans h0_) (by decide)⟩
          refine steps_cons ?_ ?_
          · rintro b a w' ⟨ha, Q_B0, Q_ZA, Q_ZB, Q_B1, Q_ZC⟩ hb_ hon hoff
            refine ⟨_, rfl, fun K hK => ?_⟩
            have e17 : a.tmps[17]? = some (.int .i64 n2) := by rw [ha]; exact putSel_on (e := (5, 17, .int .i64 n2)) 4 rfl rfl (hon 5 (by kernel_rfl)) rfl
            have e19 : a.tmps[19]? = some (.int .i64 cx) := by rw [ha]; exact putSel_on (e := (7, 19, .int .i64 cx)) 6 rfl rfl (hon 7 (by kernel_rfl)) rfl
            replace ha := Aside0.mk ha
            have B0 := Aside0.mk (Q_B0 (hoff 10 (by kernel_rfl)))
            have ZA := Aside0.mk (Q_ZA (hoff 10 (by kernel_rfl)))
            have ZB := Aside0.mk Q_ZB
            have B1 := Aside0.mk Q_B1
            have hw_ := HWR.out
            refine value_ (w1 := w') (v := .int .i64 (n2 + cx)) (by rfl) rfl ?_ ?_
            · go_simp
              (try simp only [i64_w])
              try rfl
            refine hK.out _ _ ⟨(by rw [ha.out]; exact putSel_upk 7 hb_ rfl rfl rfl), Q_B0, Q_ZA, Q_ZB, Q_B1, fun h0_ => absurd ((hoff 10 (by kernel_rfl)).symm.trans h0_) (by decide)⟩
          refine steps_cons ?_ ?_
          · rintro b a w' ⟨ha, Q_B0, Q_ZA, Q_ZB, Q_B1, Q_ZC⟩ hb_ hon hoff
            refine ⟨_, rfl, fun K hK => ?_⟩
            have e3 : a.tmps[3]? = some (.pointer (some ⟨w.heap.size + 1, 0, none⟩)) := by rw [ha]; exact (putSel_off rfl).trans rfl
            have e15 : a.tmps[15]? = some (.int .i64 2) := by rw [ha]; exact putSel_on (e := (3, 15, .int .i64 2)) 2 rfl rfl (hon 3 (by kernel_rfl)) rfl
            replace ha := Aside0.mk ha
            have B0 := Aside0.mk (Q_B0 (hoff 10 (by kernel_rfl)))
            have ZA := Aside0.mk (Q_ZA (hoff 10 (by kernel_rfl)))
            have ZB := Aside0.mk Q_ZB
            have B1 := Aside0.mk Q_B1
            refine value_ (w1 := w') (v := .pointer (some ⟨w.heap.size + 1, 2, none⟩)) (by rfl) rfl ?_ ?_
            · go_simp
              (try simp only [i64_w])
              try rfl
            refine hK.out _ _ ⟨(by rw [ha.out]; exact putSel_upk 8 hb_ rfl rfl rfl), Q_B0, Q_ZA, Q_ZB, Q_B1, fun h0_ => absurd ((hoff 10 (by kernel_rfl)).symm.trans h0_) (by decide)⟩
          refine steps_cons ?_ ?_
          · rintro b a w' ⟨ha, Q_B0, Q_ZA, Q_ZB, Q_B1, Q_ZC⟩ hb_ hon hoff
            refine ⟨_, rfl, fun K hK => ?_⟩
            have e21 : a.tmps[21]? = some (.pointer (some ⟨w.heap.size + 1, 2, none⟩)) := by rw [ha]; exact putSel_on (e := (9, 21, .pointer (some ⟨w.heap.size + 1, 2, none⟩))) 8 rfl rfl (hon 9 (by kernel_rfl)) rfl
            have e20 : a.tmps[20]? = some (.int .i64 (n2 + cx)) := by rw [ha]; exact putSel_on (e := (8, 20, .int .i64 (n2 + cx))) 7 rfl rfl (hon 8 (by kernel_rfl)) rfl
            replace ha := Aside0.mk ha
            have B0 := Aside0.mk (Q_B0 hb_)
            have ZA := Aside0.mk (Q_ZA hb_)
            have ZB := Aside0.mk Q_ZB
            have B1 := Aside0.mk Q_B1
            have d_ := blk_cell ZA.out 2
            have e_ := blk_frozen ZA.out 2
            refine skip_ (w1 := ?_) (by rfl) rfl ?_ ?_
            rotate_left
            · go_simp
              rfl
            have hz_ := blk_set ZA.out 2 (.int .i64 (n2 + cx))
            have hf_ := blk_far ZB.out (p := ⟨w.heap.size + 1, 2, none⟩) (by show w.heap.size ≠ w.heap.size + 1; omega) (.int .i64 (n2 + cx))
            refine hK.out _ _ ⟨(by rw [ha.out]; exact putSel_none (v := undef) rfl), fun h0_ => absurd ((up_self b 10).symm.trans h0_) (by decide), fun h0_ => absurd ((up_self b 10).symm.trans h0_) (by decide), hf_, (B1.out.setCell (p := ⟨w.heap.size + 1, 2, none⟩) (Nat.le_succ _) _), fun _ => (by simpa using hz_)⟩
          exact steps_nil
        rintro b a wl hall ⟨ha, Q_B0, Q_ZA, Q_ZB, Q_B1, Q_ZC⟩
        clear B0 B1 ZA ZB
        have hb1_ := hall 1 (by kernel_rfl)
        have hb2_ := hall 2 (by kernel_rfl)
        have hb3_ := hall 3 (by kernel_rfl)
        have hb4_ := hall 4 (by kernel_rfl)
        have hb5_ := hall 5 (by kernel_rfl)
        have hb6_ := hall 6 (by kernel_rfl)
        have hb7_ := hall 7 (by kernel_rfl)
        have hb8_ := hall 8 (by kernel_rfl)
        have hb9_ := hall 9 (by kernel_rfl)
        have hb10_ := hall 10 (by kernel_rfl)
        subst ha
        simp only [putSel, hb1_, hb2_, hb3_, hb4_, hb5_, hb6_, hb7_, hb8_, hb9_, hb10_, if_true, Act.put, List.setIfInBounds_toArray, List.set_cons_zero, List.set_cons_succ]
        clear Q_B0
        clear Q_ZA
        have ZB := Aside0.mk Q_ZB
        clear Q_ZB
        have B1 := Aside0.mk Q_B1
        clear Q_B1
        have ZC := Aside0.mk (Q_ZC hb10_)
        clear Q_ZC
        clear hall hb1_ hb2_ hb3_ hb4_ hb5_ hb6_ hb7_ hb8_ hb9_ hb10_
        clear HT_ HW_
        go_wp2_with fail
        go_roundg (l.length - i)
        case measure => have := HQ.out; have := HI2.out; omega
        case rel => exact ⟨i + 1, by first | rfl | (simp; unfold wrap64; have := HI2.out; have := HL.out.1; omega), ⟨ZB.out, by rw [HE.out.1, HE.out.2.1, HE.out.2.2]; exact ZC.out⟩, ⟨by have := HI2.out; omega⟩, ⟨by have := HQ.out; have := HI2.out; omega⟩, B1⟩
end Go.Proofs.Ytndhjjlicfoiaaa.QU
