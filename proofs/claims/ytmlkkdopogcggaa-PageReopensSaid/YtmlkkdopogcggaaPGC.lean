/- How many pages are of which class: the walk of page.Classes by hand. -/
import Derived.Test.YtmlkkdopogcggaaPGW
namespace Go.Proofs.Ytmlkkdopogcggaa.PG
set_option linter.unusedVariables false
set_option linter.unusedSimpArgs false
open Go.RowKit Go.Proofs.Ytmlkkdopogcggaa.Hp Go.Proofs.YtmlkkdopogcggaaW.PrintWords Go.Proofs.YtmlkkdopogcggaaW.PrintLast

theorem results_c {P : Program} {fn : Func} {p : Tmp} {ty : TypeId} (h : fn.results = #[.cell p ty]) (tmps : Array Value) (w : World) (g : Nat) (t : TypeId) (cs : Array Value) (fr : Nat × Nat) (d : TypeDesc)
    (hp : tmps.getD p undef = .pointer (some ⟨g, 0, none⟩)) (hg : w.heap[g]? = some (.cells cs t fr))
    (hu : P.underlying ty = some d) (hd : (match d with | .struct _ | .array _ _ => true | _ => false) = true) (hi : (P.info? ty).map (·.size) = some cs.size) :
    (results fn tmps).run P w = .ok (.agg cs) w := by
  have hp' : tmps[p]?.getD undef = .pointer (some ⟨g, 0, none⟩) := by simpa using hp
  simp [results, h, hp', asAddr, run_loadVar_row w g t ty cs fr d hg hu hd hi]
/-- how many of the rows are of class j -/
def cnt (l : List (List Int)) (j : Int) : Int := ((l.filter (fun x => cls x == j)).length : Int)
theorem cnt_range (l : List (List Int)) (j : Int) : 0 ≤ cnt l j ∧ cnt l j ≤ l.length := by
  unfold cnt
  have := List.length_filter_le (fun x => cls x == j) l
  omega
theorem cnt_snoc (l : List (List Int)) (i : Nat) (h : i < l.length) (j : Int) : cnt (l.take (i + 1)) j = cnt (l.take i) j + (if cls l[i] = j then 1 else 0) := by
  unfold cnt
  rw [List.take_add_one, List.getElem?_eq_getElem h, List.filter_append, List.length_append]
  by_cases hc : cls l[i] = j
  · rw [if_pos hc]
    simp [hc]
  · rw [if_neg hc]
    simp [hc]
theorem row_at {w : World} {A : Option Addr} {l : List (List Int)} (h : Kd.C (Kd.slice 5 (Kd.int .u8)) w A l.length l) (j : Nat) (hj : j < l.length) :
    ∃ ad Am cm, A = some ad ∧ w.cell? (ad.add j) = some (.slice Am (l[j]).length cm) ∧ (l[j]).length ≤ cm ∧ Kd.C (Kd.int .u8) w Am (l[j]).length l[j] := by
  obtain ⟨ad, e, hc⟩ := h.2.2 (by omega)
  obtain ⟨cs, hl, ⟨Am, cm, rfl, hle, hC⟩, hcell⟩ := hc j _ (List.getElem?_eq_getElem hj)
  refine ⟨ad, Am, cm, e, ?_, hle, hC⟩
  have := hcell 0 _ rfl
  rwa [show j * (Kd.slice 5 (Kd.int .u8)).sz + 0 = j from by show j * 1 + 0 = j; omega] at this
theorem cls_three (l : List Int) : cls l = 0 ∨ cls l = 1 ∨ cls l = 2 := by
  unfold cls
  repeat' split
  all_goals simp
theorem store3 {g N : Nat} {W0 W : World} (x0 x1 x2 y0 y1 y2 : Int) (hz : W.heap[g]? = some (.cells #[.int .i64 y0, .int .i64 y1, .int .i64 y2] 66 (0, 0)) ∧ N ≤ g) (hB : Below N W0 W) :
    Below N W0 (((W.setCell ⟨g, 0, none⟩ (.int .i64 x0)).setCell ⟨g, 1, none⟩ (.int .i64 x1)).setCell ⟨g, 2, none⟩ (.int .i64 x2)) ∧
    (((W.setCell ⟨g, 0, none⟩ (.int .i64 x0)).setCell ⟨g, 1, none⟩ (.int .i64 x1)).setCell ⟨g, 2, none⟩ (.int .i64 x2)).heap[g]? = some (.cells #[.int .i64 x0, .int .i64 x1, .int .i64 x2] 66 (0, 0)) := by
  have h0 := blk_set hz.1 0 (.int .i64 x0)
  have h1 := blk_set h0 1 (.int .i64 x1)
  have h2 := blk_set h1 2 (.int .i64 x2)
  have hg := hz.2
  exact ⟨((hB.setCell (p := ⟨g, _, none⟩) hg _).setCell (p := ⟨g, _, none⟩) hg _).setCell (p := ⟨g, _, none⟩) hg _, by simpa using h2⟩
set_option maxHeartbeats 8000000 in
set_option maxRecDepth 100000 in
theorem classes_calls (l : List (List Int)) (hb : ∀ x ∈ l, isBytes x ∧ x.length ≤ 100000) (hl : l.length ≤ 1000) (A : Option Addr) (cp : Nat) (hcp : l.length ≤ cp) (w : World) (hC : Kd.C (Kd.slice 5 (Kd.int .u8)) w A l.length l) :
    Calls Try.prog 47 #[.slice A l.length cp] w fun e w' => e = .returned (.agg #[.int .i64 (cnt l 0), .int .i64 (cnt l 1), .int .i64 (cnt l 2)]) ∧ Below w.heap.size w w' := by
  have HR := Aside0.mk hC
  have HBY := Aside0.mk hb
  have HL := Aside0.mk hl
  clear hC hb hl hcp
  go_enter Try.func47, Try.ntmps47
  go_upto_region 2 with fail
  have hB := below_alloc (below_alloc (Below.refl w.heap.size w) (Obj.cells #[Value.int IntKind.i64 0, Value.int IntKind.i64 0, Value.int IntKind.i64 0] 66)) (Obj.cells #[Value.int IntKind.i64 0, Value.int IntKind.i64 0, Value.int IntKind.i64 0] 66)
  have hz3 := heap_alloc_new (w.alloc (Obj.cells #[Value.int IntKind.i64 0, Value.int IntKind.i64 0, Value.int IntKind.i64 0] 66)) (Obj.cells #[Value.int IntKind.i64 0, Value.int IntKind.i64 0, Value.int IntKind.i64 0] 66)
  have hz2 := blk_alloc (heap_alloc_new w (Obj.cells #[Value.int IntKind.i64 0, Value.int IntKind.i64 0, Value.int IntKind.i64 0] 66)) (Obj.cells #[Value.int IntKind.i64 0, Value.int IntKind.i64 0, Value.int IntKind.i64 0] 66)
  rw [show (w.alloc (Obj.cells #[Value.int IntKind.i64 0, Value.int IntKind.i64 0, Value.int IntKind.i64 0] 66)).heap.size = w.heap.size + 1 by simp] at hz3
  generalize (w.alloc (Obj.cells #[Value.int IntKind.i64 0, Value.int IntKind.i64 0, Value.int IntKind.i64 0] 66)).alloc (Obj.cells #[Value.int IntKind.i64 0, Value.int IntKind.i64 0, Value.int IntKind.i64 0] 66) = W2 at hB hz3 hz2 ⊢
  replace hB := Aside0.mk hB
  replace hz2 := Aside0.mk (And.intro hz2 hz3)
  clear hz3
  go_wp2_with fail
  go_loopg [8] (l.length + 1) (fun kq v8 w' => ∃ i : Nat, v8 = .int .i64 i ∧ Aside0 (w'.heap[w.heap.size]? = some (.cells #[.int .i64 0, .int .i64 0, .int .i64 0] 66 (0, 0)) ∧ w'.heap[w.heap.size + 1]? = some (.cells #[.int .i64 (cnt (l.take i) 0), .int .i64 (cnt (l.take i) 1), .int .i64 (cnt (l.take i) 2)] 66 (0, 0))) ∧ Aside0 (i ≤ l.length) ∧ Aside0 (kq + i = l.length + 1) ∧ Aside0 (Below w.heap.size w w'))
  case atStart => exact ⟨0, rfl, hz2, ⟨by omega⟩, ⟨by omega⟩, hB⟩
  case round =>
    clear hz2 hB
    obtain ⟨i, rfl, HZ, HI, HQ, BB⟩ := hrel
    by_cases hi : i < l.length
    case neg =>
      have hie : i = l.length := by have := HI.out; omega
      subst hie
      have t1 : decide ((l.length : Int) < (l.length : Int)) = false := decide_eq_false (by omega)
      have hz := HZ.out
      rw [List.take_length] at hz
      have f0 := blk_cell hz.2 0
      have f1 := blk_cell hz.2 1
      have f2 := blk_cell hz.2 2
      have d0 := blk_cell hz.1 0
      have d1 := blk_cell hz.1 1
      have d2 := blk_cell hz.1 2
      have g0 := blk_frozen hz.1 0
      have g1 := blk_frozen hz.1 1
      have g2 := blk_frozen hz.1 2
      have hst := Aside0.mk (store3 (cnt l 0) (cnt l 1) (cnt l 2) 0 0 0 ⟨hz.1, Nat.le_refl _⟩ BB.out)
      clear hz hi
      go_wp2_with fail
      refine bodyPost_ret (results_c rfl _ _ w.heap.size 66 _ (0, 0) _ rfl hst.out.2 Try.underlying66 rfl (by kernel_rfl)) rfl ?_
      exact ⟨rfl, hst.out.1⟩
    case pos =>
      have t1 : decide ((i : Int) < (l.length : Int)) = true := decide_eq_true (by omega)
      have t2 : decide (i < l.length) = true := decide_eq_true hi
      obtain ⟨ad, Am, cm, rfl, hcell, hcm, hCm⟩ := row_at (Kd.C_below HR.out BB.out) i hi
      have hmb := HBY.out _ (List.getElem_mem hi)
      obtain ⟨x, hxe⟩ : ∃ x, x = l[i] := ⟨_, rfl⟩
      rw [← hxe] at hcell hcm hCm hmb
      have HX := Aside0.mk (And.intro hcell (And.intro hcm (And.intro hCm hmb)))
      have p1 : (0 : Int) ≤ (i : Int) := by omega
      have q1 : (i : Int) < (l.length : Int) := by omega
      replace p1 := eq_true p1
      replace q1 := eq_true q1
      clear hcm hCm hmb
      rcases cls_three x with hc | hc | hc
      · have HK := Aside0.mk (fun (W : World) (hC : Kd.C (Kd.int .u8) W Am x.length x) => class_calls x HX.out.2.2.2.1 HX.out.2.2.2.2 Am cm HX.out.2.1 0 hc W hC)
        have hw : wrap64 (cnt (l.take i) 0 + 1) = cnt (l.take i) 0 + 1 := by unfold wrap64; have := cnt_range (l.take i) 0; rw [List.length_take] at this; have := HL.out; omega
        have hs : ∀ j : Int, j ≠ 0 → cnt (l.take (i + 1)) j = cnt (l.take i) j := fun j hj => by rw [cnt_snoc l i hi j, ← hxe, hc, if_neg (fun e => hj e.symm)]; omega
        have hs1 : cnt (l.take (i + 1)) 0 = cnt (l.take i) 0 + 1 := by rw [cnt_snoc l i hi 0, ← hxe, hc, if_pos rfl]
        have e0 : cnt (l.take (i + 1)) 0 = (cnt (l.take i) 0 + 1) := by first | exact hs1 | exact hs 0 (by decide)
        have e1 : cnt (l.take (i + 1)) 1 = (cnt (l.take i) 1) := by first | exact hs1 | exact hs 1 (by decide)
        have e2 : cnt (l.take (i + 1)) 2 = (cnt (l.take i) 2) := by first | exact hs1 | exact hs 2 (by decide)
        have HE := Aside0.mk (And.intro e0 (And.intro e1 e2))
        have HI2 := Aside0.mk hi
        clear hs hs1 e0 e1 e2 hxe hc hi
        generalize cnt (l.take i) 0 = n0 at HZ HE hw ⊢
        generalize cnt (l.take i) 1 = n1 at HZ HE hw ⊢
        generalize cnt (l.take i) 2 = n2 at HZ HE hw ⊢
        have b3 := Aside0.mk (fun (W : World) (hb : Below wr.heap.size wr W) => blk_below HZ.out.2 hb)
        go_wp2_with ((go_at_call 42); (with_reducible refine (HK.out _ HX.out.2.2.1).mono ?_); rintro e w5 ⟨rfl, hb⟩; have Z2 := Aside0.mk (blk_below HZ.out.1 hb); have Z3 := Aside0.mk (blk_below HZ.out.2 hb); have B5 := Aside0.mk (below_then BB.out BB.out.size hb); have f0 := blk_cell Z3.out 0; have f1 := blk_cell Z3.out 1; have f2 := blk_cell Z3.out 2; have g0 := blk_frozen Z3.out 0; have g1 := blk_frozen Z3.out 1; have g2 := blk_frozen Z3.out 2; clear hb)
        have Z4 := blk_set Z3.out 0 (.int .i64 (n0 + 1))
        have Z5 := (blk_far Z2.out (p := ⟨w.heap.size + 1, 0, none⟩) (by show w.heap.size ≠ w.heap.size + 1; omega) (.int .i64 (n0 + 1)))
        have B6 := B5.out.setCell (p := ⟨w.heap.size + 1, 0, none⟩) (Nat.le_succ _) (.int .i64 (n0 + 1))
        go_roundg (l.length - i)
        case measure => have := HQ.out; have := HI2.out; omega
        case rel => exact ⟨i + 1, by first | rfl | (simp; unfold wrap64; have := HI2.out; have := HL.out; omega), ⟨Z5, by rw [HE.out.1, HE.out.2.1, HE.out.2.2]; simpa using Z4⟩, ⟨by have := HI2.out; omega⟩, ⟨by have := HQ.out; have := HI2.out; omega⟩, ⟨B6⟩⟩
      · have HK := Aside0.mk (fun (W : World) (hC : Kd.C (Kd.int .u8) W Am x.length x) => class_calls x HX.out.2.2.2.1 HX.out.2.2.2.2 Am cm HX.out.2.1 1 hc W hC)
        have hw : wrap64 (cnt (l.take i) 1 + 1) = cnt (l.take i) 1 + 1 := by unfold wrap64; have := cnt_range (l.take i) 1; rw [List.length_take] at this; have := HL.out; omega
        have hs : ∀ j : Int, j ≠ 1 → cnt (l.take (i + 1)) j = cnt (l.take i) j := fun j hj => by rw [cnt_snoc l i hi j, ← hxe, hc, if_neg (fun e => hj e.symm)]; omega
        have hs1 : cnt (l.take (i + 1)) 1 = cnt (l.take i) 1 + 1 := by rw [cnt_snoc l i hi 1, ← hxe, hc, if_pos rfl]
        have e0 : cnt (l.take (i + 1)) 0 = (cnt (l.take i) 0) := by first | exact hs1 | exact hs 0 (by decide)
        have e1 : cnt (l.take (i + 1)) 1 = (cnt (l.take i) 1 + 1) := by first | exact hs1 | exact hs 1 (by decide)
        have e2 : cnt (l.take (i + 1)) 2 = (cnt (l.take i) 2) := by first | exact hs1 | exact hs 2 (by decide)
        have HE := Aside0.mk (And.intro e0 (And.intro e1 e2))
        have HI2 := Aside0.mk hi
        clear hs hs1 e0 e1 e2 hxe hc hi
        generalize cnt (l.take i) 0 = n0 at HZ HE hw ⊢
        generalize cnt (l.take i) 1 = n1 at HZ HE hw ⊢
        generalize cnt (l.take i) 2 = n2 at HZ HE hw ⊢
        have b3 := Aside0.mk (fun (W : World) (hb : Below wr.heap.size wr W) => blk_below HZ.out.2 hb)
        go_wp2_with ((go_at_call 42); (with_reducible refine (HK.out _ HX.out.2.2.1).mono ?_); rintro e w5 ⟨rfl, hb⟩; have Z2 := Aside0.mk (blk_below HZ.out.1 hb); have Z3 := Aside0.mk (blk_below HZ.out.2 hb); have B5 := Aside0.mk (below_then BB.out BB.out.size hb); have f0 := blk_cell Z3.out 0; have f1 := blk_cell Z3.out 1; have f2 := blk_cell Z3.out 2; have g0 := blk_frozen Z3.out 0; have g1 := blk_frozen Z3.out 1; have g2 := blk_frozen Z3.out 2; clear hb)
        have Z4 := blk_set Z3.out 1 (.int .i64 (n1 + 1))
        have Z5 := (blk_far Z2.out (p := ⟨w.heap.size + 1, 1, none⟩) (by show w.heap.size ≠ w.heap.size + 1; omega) (.int .i64 (n1 + 1)))
        have B6 := B5.out.setCell (p := ⟨w.heap.size + 1, 1, none⟩) (Nat.le_succ _) (.int .i64 (n1 + 1))
        go_roundg (l.length - i)
        case measure => have := HQ.out; have := HI2.out; omega
        case rel => exact ⟨i + 1, by first | rfl | (simp; unfold wrap64; have := HI2.out; have := HL.out; omega), ⟨Z5, by rw [HE.out.1, HE.out.2.1, HE.out.2.2]; simpa using Z4⟩, ⟨by have := HI2.out; omega⟩, ⟨by have := HQ.out; have := HI2.out; omega⟩, ⟨B6⟩⟩
      · have HK := Aside0.mk (fun (W : World) (hC : Kd.C (Kd.int .u8) W Am x.length x) => class_calls x HX.out.2.2.2.1 HX.out.2.2.2.2 Am cm HX.out.2.1 2 hc W hC)
        have hw : wrap64 (cnt (l.take i) 2 + 1) = cnt (l.take i) 2 + 1 := by unfold wrap64; have := cnt_range (l.take i) 2; rw [List.length_take] at this; have := HL.out; omega
        have hs : ∀ j : Int, j ≠ 2 → cnt (l.take (i + 1)) j = cnt (l.take i) j := fun j hj => by rw [cnt_snoc l i hi j, ← hxe, hc, if_neg (fun e => hj e.symm)]; omega
        have hs1 : cnt (l.take (i + 1)) 2 = cnt (l.take i) 2 + 1 := by rw [cnt_snoc l i hi 2, ← hxe, hc, if_pos rfl]
        have e0 : cnt (l.take (i + 1)) 0 = (cnt (l.take i) 0) := by first | exact hs1 | exact hs 0 (by decide)
        have e1 : cnt (l.take (i + 1)) 1 = (cnt (l.take i) 1) := by first | exact hs1 | exact hs 1 (by decide)
        have e2 : cnt (l.take (i + 1)) 2 = (cnt (l.take i) 2 + 1) := by first | exact hs1 | exact hs 2 (by decide)
        have HE := Aside0.mk (And.intro e0 (And.intro e1 e2))
        have HI2 := Aside0.mk hi
        clear hs hs1 e0 e1 e2 hxe hc hi
        generalize cnt (l.take i) 0 = n0 at HZ HE hw ⊢
        generalize cnt (l.take i) 1 = n1 at HZ HE hw ⊢
        generalize cnt (l.take i) 2 = n2 at HZ HE hw ⊢
        have b3 := Aside0.mk (fun (W : World) (hb : Below wr.heap.size wr W) => blk_below HZ.out.2 hb)
        go_wp2_with ((go_at_call 42); (with_reducible refine (HK.out _ HX.out.2.2.1).mono ?_); rintro e w5 ⟨rfl, hb⟩; have Z2 := Aside0.mk (blk_below HZ.out.1 hb); have Z3 := Aside0.mk (blk_below HZ.out.2 hb); have B5 := Aside0.mk (below_then BB.out BB.out.size hb); have f0 := blk_cell Z3.out 0; have f1 := blk_cell Z3.out 1; have f2 := blk_cell Z3.out 2; have g0 := blk_frozen Z3.out 0; have g1 := blk_frozen Z3.out 1; have g2 := blk_frozen Z3.out 2; clear hb)
        have Z4 := blk_set Z3.out 2 (.int .i64 (n2 + 1))
        have Z5 := (blk_far Z2.out (p := ⟨w.heap.size + 1, 2, none⟩) (by show w.heap.size ≠ w.heap.size + 1; omega) (.int .i64 (n2 + 1)))
        have B6 := B5.out.setCell (p := ⟨w.heap.size + 1, 2, none⟩) (Nat.le_succ _) (.int .i64 (n2 + 1))
        go_roundg (l.length - i)
        case measure => have := HQ.out; have := HI2.out; omega
        case rel => exact ⟨i + 1, by first | rfl | (simp; unfold wrap64; have := HI2.out; have := HL.out; omega), ⟨Z5, by rw [HE.out.1, HE.out.2.1, HE.out.2.2]; simpa using Z4⟩, ⟨by have := HI2.out; omega⟩, ⟨by have := HQ.out; have := HI2.out; omega⟩, ⟨B6⟩⟩
end Go.Proofs.Ytmlkkdopogcggaa.PG
