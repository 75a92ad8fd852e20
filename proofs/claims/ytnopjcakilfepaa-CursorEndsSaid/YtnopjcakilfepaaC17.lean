import Derived.Test.YtnopjcakilfepaaC16
namespace Go.Proofs.Ytnopjcakilfepaa.QS
set_option linter.unusedVariables false
set_option linter.unusedSimpArgs false
open Go.RowKit Go.Proofs.Ytnopjcakilfepaa.SS Go.Proofs.Ytnopjcakilfepaa.Hp Go.Proofs.YtnopjcakilfepaaW.PrintWords Go.Proofs.YtnopjcakilfepaaW.PrintLast Go.Proofs.YtnopjcakilfepaaW.PrintMore
def awake33.T7 : Bool × List (List Nat × List Nat) := (true, [([], []), ([0], [0]), ([1], [1]), ([2], [2]), ([3, 2], [2, 3]), ([2, 4], [2, 4]), ([5, 2], [5]), ([6], [6]), ([7, 6], [6, 7]), ([6, 8], [6, 8]), ([9, 6], [9]), ([10], [10]), ([10, 11], [10, 11]), ([12, 10], [12]), ([13], [13]), ([13], [13]), ([14, 15, 13], [13, 14, 15]), ([13, 16], [13, 16]), ([17, 13], [17]), ([18], [18]), ([18], [18]), ([19, 20, 18], [18, 19, 20]), ([18, 21], [18, 21]), ([22, 18], [22]), ([23], [23]), ([23], [23]), ([24, 25, 23, 23], [23, 24, 25]), ([26, 23], [23, 26]), ([23, 27], [23, 27]), ([28, 26], [28]), ([29], [29]), ([30, 29, 29], [29, 30]), ([29], [29]), ([31, 32, 29], [29, 31, 32]), ([29, 33], [29, 33]), ([34, 31], [34]), ([35], [35]), ([36, 35, 35], [35, 36]), ([37, 35], [35, 37]), ([35, 38], [35, 38]), ([39, 37, 0, 1, 2, 3, 4, 5, 6, 7, 8, 9, 10, 11, 12, 13, 14, 15, 16, 17, 18, 19, 20, 21, 22, 23, 24, 25, 26, 27, 28, 29, 30, 31, 32, 33, 34, 35, 36, 37, 38, 39], [39])])
def awake33.B7 : List Nat := [0, 1, 3, 7, 15, 31, 63, 127, 255, 511, 1023, 2047, 4095, 8191, 16383, 16383, 65535, 131071, 262143, 524287, 524287, 2097151, 4194303, 8388607, 16777215, 16777215, 67108863, 134217727, 268435455, 536870911, 1073741823, 2147483647, 1073741823, 8589934591, 17179869183, 34359738367, 68719476735, 137438953471, 274877906943, 549755813887, 1099511627775]
theorem awake33.tab7 : rtab .any (opsOf Try.f41 7) = awake33.T7 := by kernel_rfl
theorem awake33.bits7 : waitsOk awake33.T7.2 awake33.B7 = true := by kernel_rfl
theorem lit33_reads {W : World} {g : Nat} (ps : List Rp) (hn : ps.length ≤ 100000) (h : W.heap[g]? = some (.cells ((ps.map recOf).flatMap Rec.enc).toArray 29 (0, 0))) (hg : ∀ p ∈ ps, p.1.f7.length ≤ p.2.2 ∧ Kd.C (Kd.int .i64) W p.2.1 p.1.f7.length p.1.f7) : Kd.C k29 W (some ⟨g, 0, none⟩) (ps.map (·.1)).length (ps.map (·.1)) := by
  refine ⟨rfl, by rw [List.length_map]; omega, fun h0 => ⟨⟨g, 0, none⟩, rfl, fun i x hx => ?_⟩⟩
  rw [List.getElem?_map] at hx
  obtain ⟨p, hp, rfl⟩ := Option.map_eq_some_iff.1 hx
  have hgp := hg p (List.mem_of_getElem? hp)
  refine ⟨(recOf p).enc, rfl, k29_mk W p.1 hgp.1 hgp.2, fun k u hu => ?_⟩
  have hk : k < 8 := (List.getElem?_eq_some_iff.1 hu).1
  have e := encs_at (ps.map recOf) i (recOf p) (by rw [List.getElem?_map, hp]; rfl) k hk
  rw [show (k29.sz : Nat) = 8 from rfl, add_plain, blk_cell h, List.getElem?_toArray, e, hu]
def r33 : R0 := ⟨4, 0, 0, 250, 0, false, 0, []⟩
def l33 : List R0 := [r33]
theorem l33_light : lightL l33 := ⟨by decide, fun x hx => by
  have : x = r33 := by simpa [l33] using hx
  subst this; decide⟩
def AwC (W : World) (g : Nat) : Prop := W.heap[g]? = some (.cells #[.int .u64 4, .int .u64 0, .int .i64 0, .int .i64 250, .int .u64 0, .bool false, .int .i64 0, .slice none 0 0] 29 (0, 0))
theorem awc_reads {W : World} {g : Nat} (h : AwC W g) : Kd.C k29 W (some ⟨g, 0, none⟩) 1 l33 :=
  lit33_reads [(r33, none, 0)] (by decide) h (fun p hp => by
    have : p = (r33, none, 0) := by simpa using hp
    subst this
    exact ⟨Nat.le_refl _, Kd.C_nil _ _⟩)
theorem cs1 (g0 : Nat) (W : World) (h : AwC W g0) : Calls Try.prog 47 #[.agg #[.bool false, .bool false, .int .u64 0, .int .i64 0], .slice (some ⟨g0, 0, none⟩) 1 1] W fun e w' => e = .returned (.tuple #[.agg #[.bool true, .bool false, .int .u64 4, .int .i64 1], .bool false]) ∧ Below W.heap.size W w' := by
  refine (cstep_calls l33 l33_light false false 0 0 (some ⟨g0, 0, none⟩) 1 W (awc_reads h)).mono ?_
  rintro e w' ⟨b0, b1, i2, i3, b, hs, rfl, hb⟩
  rw [show stepOf false false 0 0 l33 = (true, false, 4, 1, false) from by decide +kernel] at hs
  injection hs with h0 hs
  injection hs with h1 hs
  injection hs with h2 hs
  injection hs with h3 h4
  subst h0 h1 h2 h3 h4
  exact ⟨rfl, hb⟩
theorem cs2 (g0 : Nat) (W : World) (h : AwC W g0) : Calls Try.prog 47 #[.agg #[.bool true, .bool false, .int .u64 4, .int .i64 1], .slice (some ⟨g0, 0, none⟩) 1 1] W fun e w' => e = .returned (.tuple #[.agg #[.bool true, .bool false, .int .u64 4, .int .i64 2], .bool false]) ∧ Below W.heap.size W w' := by
  refine (cstep_calls l33 l33_light true false 4 1 (some ⟨g0, 0, none⟩) 1 W (awc_reads h)).mono ?_
  rintro e w' ⟨b0, b1, i2, i3, b, hs, rfl, hb⟩
  rw [show stepOf true false 4 1 l33 = (true, false, 4, 2, false) from by decide +kernel] at hs
  injection hs with h0 hs
  injection hs with h1 hs
  injection hs with h2 hs
  injection hs with h3 h4
  subst h0 h1 h2 h3 h4
  exact ⟨rfl, hb⟩
theorem cs3 (g0 : Nat) (W : World) (h : AwC W g0) : Calls Try.prog 47 #[.agg #[.bool true, .bool false, .int .u64 4, .int .i64 2], .slice (some ⟨g0, 0, none⟩) 1 1] W fun e w' => e = .returned (.tuple #[.agg #[.bool false, .bool false, .int .u64 0, .int .i64 0], .bool true]) ∧ Below W.heap.size W w' := by
  refine (cstep_calls l33 l33_light true false 4 2 (some ⟨g0, 0, none⟩) 1 W (awc_reads h)).mono ?_
  rintro e w' ⟨b0, b1, i2, i3, b, hs, rfl, hb⟩
  rw [show stepOf true false 4 2 l33 = (false, false, 0, 0, true) from by decide +kernel] at hs
  injection hs with h0 hs
  injection hs with h1 hs
  injection hs with h2 hs
  injection hs with h3 h4
  subst h0 h1 h2 h3 h4
  exact ⟨rfl, hb⟩
theorem cl1 (g0 : Nat) (W : World) (h : AwC W g0) : Calls Try.prog 45 #[.slice (some ⟨g0, 0, none⟩) 1 1, .agg #[.bool false, .bool false, .int .u64 0, .int .i64 0]] W fun e w' => e = .returned (.int .i64 3) ∧ Below W.heap.size W w' := by
  refine (left_calls l33 l33_light false false 0 0 (some ⟨g0, 0, none⟩) 1 W (awc_reads h)).mono ?_
  rintro e w' ⟨rfl, hb⟩
  rw [show leftOf false 0 0 l33 = 3 from by decide +kernel]
  exact ⟨rfl, hb⟩
theorem cl2 (g0 : Nat) (W : World) (h : AwC W g0) : Calls Try.prog 45 #[.slice (some ⟨g0, 0, none⟩) 1 1, .agg #[.bool true, .bool false, .int .u64 4, .int .i64 2]] W fun e w' => e = .returned (.int .i64 1) ∧ Below W.heap.size W w' := by
  refine (left_calls l33 l33_light true false 4 2 (some ⟨g0, 0, none⟩) 1 W (awc_reads h)).mono ?_
  rintro e w' ⟨rfl, hb⟩
  rw [show leftOf true 4 2 l33 = 1 from by decide +kernel]
  exact ⟨rfl, hb⟩
theorem drop_calls (on pa : Bool) (id I n : Int) (W : World) : Calls Try.prog 39 #[.agg #[.bool on, .bool pa, .int .u64 id, .int .i64 I], .int .u64 n] W fun e w' => e = .returned (if (on && (id == n)) = true then .agg #[.bool false, .bool pa, .int .u64 0, .int .i64 0] else .agg #[.bool on, .bool pa, .int .u64 id, .int .i64 I]) ∧ Below W.heap.size W w' := by
  by_cases h : (on && (id == n)) = true
  · refine (cursor_Cursor_Drop.calls on pa id I n false pa 0 0 W (by unfold cursor_Cursor_Drop.f; rw [if_pos h])).mono ?_
    rintro e w' ⟨rfl, hb⟩
    rw [if_pos h]
    exact ⟨rfl, by first | exact hb | exact hb.below⟩
  · refine (cursor_Cursor_Drop.calls on pa id I n on pa id I W (by unfold cursor_Cursor_Drop.f; rw [if_neg h])).mono ?_
    rintro e w' ⟨rfl, hb⟩
    rw [if_neg h]
    exact ⟨rfl, by first | exact hb | exact hb.below⟩
theorem pause_calls (on pa : Bool) (id I : Int) (b : Bool) (W : World) : Calls Try.prog 40 #[.agg #[.bool on, .bool pa, .int .u64 id, .int .i64 I], .bool b] W fun e w' => e = .returned (.agg #[.bool on, .bool b, .int .u64 id, .int .i64 I]) ∧ Below W.heap.size W w' := by
  refine (cursor_Cursor_Pause.calls on pa id I b on b id I W rfl).mono ?_
  rintro e w' ⟨rfl, hb⟩
  exact ⟨rfl, by first | exact hb | exact hb.below⟩
theorem eqA33 (W : World) : (Op.equalIn 10000 65 (.agg #[.bool true, .bool false, .int .u64 4, .int .i64 1]) (.agg #[.bool true, .bool false, .int .u64 4, .int .i64 1])).run Try.prog W = .ok true W := by kernel_rfl
theorem eqZ33 (W : World) : (Op.equalIn 10000 65 (.agg #[.bool false, .bool false, .int .u64 0, .int .i64 0]) (.agg #[.bool false, .bool false, .int .u64 0, .int .i64 0])).run Try.prog W = .ok true W := by kernel_rfl
set_option maxHeartbeats 2000000 in
set_option maxRecDepth 100000 in
theorem awake33_calls (w : World) : Calls Try.prog 41 #[] w fun e w' => e = .returned (.bool true) ∧ Below w.heap.size w w' := by
  have hb1 := below_alloc (Below.refl w.heap.size w) (.cells #[.int .u64 4, .int .u64 0, .int .i64 0, .int .i64 250, .int .u64 0, .bool false, .int .i64 0, .slice none 0 0] 29)
  have L1 : AwC (w.alloc (.cells #[.int .u64 4, .int .u64 0, .int .i64 0, .int .i64 250, .int .u64 0, .bool false, .int .i64 0, .slice none 0 0] 29)) w.heap.size := heap_alloc_new w (.cells #[.int .u64 4, .int .u64 0, .int .i64 0, .int .i64 250, .int .u64 0, .bool false, .int .i64 0, .slice none 0 0] 29)
  obtain ⟨g0, hg0⟩ : ∃ g0, g0 = w.heap.size := ⟨_, rfl⟩
  have HS1 := Aside0.mk (fun W => cs1 g0 W)
  have HS2 := Aside0.mk (fun W => cs2 g0 W)
  have HS3 := Aside0.mk (fun W => cs3 g0 W)
  have HL1 := Aside0.mk (fun W => cl1 g0 W)
  have HL2 := Aside0.mk (fun W => cl2 g0 W)
  have HDR : Aside0 (∀ W, Calls Try.prog 39 #[.agg #[.bool true, .bool false, .int .u64 4, .int .i64 1], .int .u64 4] W fun e w' => e = .returned (.agg #[.bool false, .bool false, .int .u64 0, .int .i64 0]) ∧ Below W.heap.size W w') := ⟨fun W => drop_calls true false 4 1 4 W⟩
  have HPA := Aside0.mk (fun W => pause_calls true false 4 1 true W)
  go_enter Try.func41, Try.ntmps41
  go_upto_region 2 with fail
  rw [← hg0] at L1 ⊢
  generalize w.alloc (.cells #[.int .u64 4, .int .u64 0, .int .i64 0, .int .i64 250, .int .u64 0, .bool false, .int .i64 0, .slice none 0 0] 29) = w1 at hb1 L1 ⊢
  clear hg0
  have hb2 := below_alloc hb1 (.cells #[.bool false, .bool false, .int .u64 0, .int .i64 0] 65)
  have L2 : AwC (w1.alloc (.cells #[.bool false, .bool false, .int .u64 0, .int .i64 0] 65)) g0 := blk_alloc L1 (.cells #[.bool false, .bool false, .int .u64 0, .int .i64 0] 65)
  have K2 := heap_alloc_new w1 (.cells #[.bool false, .bool false, .int .u64 0, .int .i64 0] 65)
  clear hb1 L1
  go_upto_region 3 with fail
  generalize w1.alloc (.cells #[.bool false, .bool false, .int .u64 0, .int .i64 0] 65) = w2 at hb2 L2 K2 ⊢
  generalize w1.heap.size = b2 at K2 ⊢
  replace hb2 := Aside0.mk hb2
  replace L2 := Aside0.mk L2
  replace K2 := Aside0.mk K2
  have c0 := blk_cell K2.out 0
  have c1 := blk_cell K2.out 1
  have c2 := blk_cell K2.out 2
  have c3 := blk_cell K2.out 3
  go_upto_region 4 with (go_at_call 45; refine (HL1.out _ L2.out).mono ?_; rintro e w3 ⟨rfl, hb⟩)
  have L3 : Aside0 (AwC w3 g0) := ⟨blk_below L2.out hb⟩
  have K3 := blk_below K2.out hb
  have hb3 := Aside0.mk (below_then hb2.out hb2.out.size hb)
  clear c0 c1 c2 c3 hb K2 L2 hb2
  have c0 := blk_cell K3 0
  have c1 := blk_cell K3 1
  have c2 := blk_cell K3 2
  have c3 := blk_cell K3 3
  go_upto_region 5 with (go_at_call 47; refine (HS1.out _ L3.out).mono ?_; rintro e w4 ⟨rfl, hb⟩)
  have hb4 := below_alloc (below_then hb3.out hb3.out.size hb) (.cells #[.bool true, .bool false, .int .u64 4, .int .i64 1] 65)
  have L4 : AwC (w4.alloc (.cells #[.bool true, .bool false, .int .u64 4, .int .i64 1] 65)) g0 := blk_alloc (blk_below L3.out hb) (.cells #[.bool true, .bool false, .int .u64 4, .int .i64 1] 65)
  have K4 := heap_alloc_new w4 (.cells #[.bool true, .bool false, .int .u64 4, .int .i64 1] 65)
  generalize w4.alloc (.cells #[.bool true, .bool false, .int .u64 4, .int .i64 1] 65) = w5 at hb4 L4 K4 ⊢
  generalize w4.heap.size = b4 at K4 ⊢
  clear c0 c1 c2 c3 hb K3 L3 hb3
  replace hb4 := Aside0.mk hb4
  replace L4 := Aside0.mk L4
  replace K4 := Aside0.mk K4
  have c0 := blk_cell K4.out 0
  have c1 := blk_cell K4.out 1
  have c2 := blk_cell K4.out 2
  have c3 := blk_cell K4.out 3
  go_upto_region 6 with (go_at_call 47; refine (HS2.out _ L4.out).mono ?_; rintro e w6 ⟨rfl, hb⟩)
  have hb6 := below_alloc (below_then hb4.out hb4.out.size hb) (.cells #[.bool true, .bool false, .int .u64 4, .int .i64 2] 65)
  have L6 : AwC (w6.alloc (.cells #[.bool true, .bool false, .int .u64 4, .int .i64 2] 65)) g0 := blk_alloc (blk_below L4.out hb) (.cells #[.bool true, .bool false, .int .u64 4, .int .i64 2] 65)
  have K46 := blk_alloc (blk_below K4.out hb) (.cells #[.bool true, .bool false, .int .u64 4, .int .i64 2] 65)
  have K6 := heap_alloc_new w6 (.cells #[.bool true, .bool false, .int .u64 4, .int .i64 2] 65)
  generalize w6.alloc (.cells #[.bool true, .bool false, .int .u64 4, .int .i64 2] 65) = w7 at hb6 L6 K46 K6 ⊢
  generalize w6.heap.size = b6 at K6 ⊢
  clear c0 c1 c2 c3 hb L4 hb4 K4
  replace hb6 := Aside0.mk hb6
  replace L6 := Aside0.mk L6
  replace K46 := Aside0.mk K46
  replace K6 := Aside0.mk K6
  have c0 := blk_cell K6.out 0
  have c1 := blk_cell K6.out 1
  have c2 := blk_cell K6.out 2
  have c3 := blk_cell K6.out 3
  go_upto_region 7 with (go_at_call 47; refine (HS3.out _ L6.out).mono ?_; rintro e w8 ⟨rfl, hb⟩)
  have hb8 := below_alloc (below_then hb6.out hb6.out.size hb) (.cells #[.bool false, .bool false, .int .u64 0, .int .i64 0] 65)
  have L8 : AwC (w8.alloc (.cells #[.bool false, .bool false, .int .u64 0, .int .i64 0] 65)) g0 := blk_alloc (blk_below L6.out hb) (.cells #[.bool false, .bool false, .int .u64 0, .int .i64 0] 65)
  have K48 := blk_alloc (blk_below K46.out hb) (.cells #[.bool false, .bool false, .int .u64 0, .int .i64 0] 65)
  have K68 := blk_alloc (blk_below K6.out hb) (.cells #[.bool false, .bool false, .int .u64 0, .int .i64 0] 65)
  have K8 := heap_alloc_new w8 (.cells #[.bool false, .bool false, .int .u64 0, .int .i64 0] 65)
  generalize w8.alloc (.cells #[.bool false, .bool false, .int .u64 0, .int .i64 0] 65) = W0 at hb8 L8 K48 K68 K8 ⊢
  generalize w8.heap.size = b8 at K8 ⊢
  clear c0 c1 c2 c3 hb L6 hb6 K46 K6 HS1 HS2 HS3 HL1
  have HB8 := Aside0.mk (below_drew hb8)
  have L0 : Aside0 (AwC W0.drew g0) := ⟨blk_drew L8⟩
  have K4 := Aside0.mk (blk_drew K48)
  have K6 := Aside0.mk (blk_drew K68)
  replace K8 := Aside0.mk (blk_drew K8)
  have B0 := Aside0.mk (Below.refl W0.drew.heap.size W0.drew)
  clear hb8 L8 K48 K68
  refine start_ (n := 41) (S := fun w' => True) (ds := []) #[false, false, false, false, false, false, false, false, false, false, false, false, false, false, false, false, false, false, false, false, false, false, false, false, false, false, false, false, false, false, false, false, false, false, false, false, false, false, false, false, false] (by kernel_rfl) rfl rfl trivial (fun hHeld => ?_)
  refine with_tabW awake33.tab7 awake33.bits7 (fun HT_ HW_ => ?_)
  generalize W0.drew = wq at B0 L0 K4 K6 K8 HB8 hHeld ⊢
  refine inv_at [0, 1, 2, 3, 4, 5, 6, 7, 8, 9, 10, 11, 12, 13, 14, 15, 16, 17, 18, 19, 20, 21, 22, 23, 24, 25, 26, 27, 28, 29, 30, 31, 32, 33, 34, 35, 36, 37, 38, 39, 40] (fun a0_ b a w' => a = putSel a0_ b [(0, 34, .int .i64 3), (1, 35, .bool true), (2, 36, .bool true), (3, 37, .bool false), (4, 38, .bool true), (5, 39, .bool true), (6, 40, .bool true), (7, 41, .bool false), (8, 42, .bool true), (9, 43, .bool true), (10, 44, .bool true), (11, 45, .bool true), (12, 46, .bool true), (13, 47, .bool true), (14, 48, .agg #[.bool true, .bool false, .int .u64 4, .int .i64 1]), (15, 49, .agg #[.bool true, .bool false, .int .u64 4, .int .i64 1]), (16, 50, .bool true), (17, 51, .bool true), (18, 52, .bool true), (19, 53, .agg #[.bool false, .bool false, .int .u64 0, .int .i64 0]), (20, 54, .agg #[.bool false, .bool false, .int .u64 0, .int .i64 0]), (21, 55, .bool true), (22, 56, .bool true), (23, 57, .bool true), (24, 58, .slice (some ⟨g0, 0, none⟩) 1 1), (25, 59, .agg #[.bool true, .bool false, .int .u64 4, .int .i64 2]), (26, 60, .int .i64 1), (27, 61, .bool true), (28, 62, .bool true), (29, 63, .bool true), (30, 64, .agg #[.bool true, .bool false, .int .u64 4, .int .i64 1]), (31, 65, .agg #[.bool false, .bool false, .int .u64 0, .int .i64 0]), (32, 66, .agg #[.bool false, .bool false, .int .u64 0, .int .i64 0]), (33, 67, .bool true), (34, 68, .bool true), (35, 69, .bool true), (36, 70, .agg #[.bool true, .bool false, .int .u64 4, .int .i64 1]), (37, 71, .agg #[.bool true, .bool true, .int .u64 4, .int .i64 1]), (38, 72, .bool true), (39, 73, .bool true), (40, 0, .bool true)] ∧ (Below wq.heap.size wq w') ∧ (AwC w' g0) ∧ (w'.heap[b4]? = some (.cells #[.bool true, .bool false, .int .u64 4, .int .i64 1] 65 (0, 0))) ∧ (w'.heap[b6]? = some (.cells #[.bool true, .bool false, .int .u64 4, .int .i64 2] 65 (0, 0))) ∧ (w'.heap[b8]? = some (.cells #[.bool false, .bool false, .int .u64 0, .int .i64 0] 65 (0, 0)))) HT_.out HW_.out (by kernel_rfl) (by kernel_rfl) ?_ ?_ ?_
  · exact ⟨by simp only [putSel, Bool.false_eq_true, if_false], B0.out, L0.out, K4.out, K6.out, K8.out⟩
  · skip
    clear B0 K4 K6 K8 L0
    refine steps_cons ?_ ?_
    · rintro b a w' ⟨ha, Q_B0, Q_L0, Q_K4, Q_K6, Q_K8⟩ hb_ hon hoff
      refine ⟨_, rfl, fun K hK => ?_⟩
      have e3 : a.tmps[3]? = some (.int .i64 3) := by rw [ha]; exact (putSel_off rfl).trans rfl
      replace ha := Aside0.mk ha
      have B0 := Aside0.mk Q_B0
      have L0 := Aside0.mk Q_L0
      have K4 := Aside0.mk Q_K4
      have K6 := Aside0.mk Q_K6
      have K8 := Aside0.mk Q_K8
      refine value_ (w1 := w') (v := .int .i64 3) (by rfl) rfl ?_ ?_
      · go_simp
        (try simp only [i64_w])
        try rfl
      refine hK.out _ _ ⟨(by rw [ha.out]; exact putSel_upk 0 hb_ rfl rfl rfl), Q_B0, Q_L0, Q_K4, Q_K6, Q_K8⟩
    refine steps_cons ?_ ?_
    · rintro b a w' ⟨ha, Q_B0, Q_L0, Q_K4, Q_K6, Q_K8⟩ hb_ hon hoff
      refine ⟨_, rfl, fun K hK => ?_⟩
      have e34 : a.tmps[34]? = some (.int .i64 3) := by rw [ha]; exact putSel_on (e := (0, 34, .int .i64 3)) 0 rfl rfl (hon 0 (by kernel_rfl)) rfl
      replace ha := Aside0.mk ha
      have B0 := Aside0.mk Q_B0
      have L0 := Aside0.mk Q_L0
      have K4 := Aside0.mk Q_K4
      have K6 := Aside0.mk Q_K6
      have K8 := Aside0.mk Q_K8
      refine value_ (w1 := w') (v := .bool true) (by rfl) rfl ?_ ?_
      · go_simp
        (try simp only [i64_w])
        try rfl
      refine hK.out _ _ ⟨(by rw [ha.out]; exact putSel_upk 1 hb_ rfl rfl rfl), Q_B0, Q_L0, Q_K4, Q_K6, Q_K8⟩
    refine steps_cons ?_ ?_
    · rintro b a w' ⟨ha, Q_B0, Q_L0, Q_K4, Q_K6, Q_K8⟩ hb_ hon hoff
      refine ⟨_, rfl, fun K hK => ?_⟩
      have e35 : a.tmps[35]? = some (.bool true) := by rw [ha]; exact putSel_on (e := (1, 35, .bool true)) 1 rfl rfl (hon 1 (by kernel_rfl)) rfl
      replace ha := Aside0.mk ha
      have B0 := Aside0.mk Q_B0
      have L0 := Aside0.mk Q_L0
      have K4 := Aside0.mk Q_K4
      have K6 := Aside0.mk Q_K6
      have K8 := Aside0.mk Q_K8
      refine value_ (w1 := w') (v := .bool true) (by rfl) rfl ?_ ?_
      · go_simp
        (try simp only [i64_w])
        try rfl
      refine hK.out _ _ ⟨(by rw [ha.out]; exact putSel_upk 2 hb_ rfl rfl rfl), Q_B0, Q_L0, Q_K4, Q_K6, Q_K8⟩
    refine steps_cons ?_ ?_
    · rintro b a w' ⟨ha, Q_B0, Q_L0, Q_K4, Q_K6, Q_K8⟩ hb_ hon hoff
      refine ⟨_, rfl, fun K hK => ?_⟩
      have e5 : a.tmps[5]? = some (.bool false) := by rw [ha]; exact (putSel_off rfl).trans rfl
      have e36 : a.tmps[36]? = some (.bool true) := by rw [ha]; exact putSel_on (e := (2, 36, .bool true)) 2 rfl rfl (hon 2 (by kernel_rfl)) rfl
      replace ha := Aside0.mk ha
      have B0 := Aside0.mk Q_B0
      have L0 := Aside0.mk Q_L0
      have K4 := Aside0.mk Q_K4
      have K6 := Aside0.mk Q_K6
      have K8 := Aside0.mk Q_K8
      refine value_ (w1 := w') (v := .bool false) (wanted_on rfl rfl rfl (e36.trans (by first | rfl | (simp [*]; done)))) rfl ?_ ?_
      · go_simp
        (try simp only [i64_w])
        try rfl
      refine hK.out _ _ ⟨(by rw [ha.out]; exact putSel_upk 3 hb_ rfl rfl rfl), Q_B0, Q_L0, Q_K4, Q_K6, Q_K8⟩
    refine steps_cons ?_ ?_
    · rintro b a w' ⟨ha, Q_B0, Q_L0, Q_K4, Q_K6, Q_K8⟩ hb_ hon hoff
      refine ⟨_, rfl, fun K hK => ?_⟩
      have e37 : a.tmps[37]? = some (.bool false) := by rw [ha]; exact putSel_on (e := (3, 37, .bool false)) 3 rfl rfl (hon 3 (by kernel_rfl)) rfl
      have e36 : a.tmps[36]? = some (.bool true) := by rw [ha]; exact putSel_on (e := (2, 36, .bool true)) 2 rfl rfl (hon 2 (by kernel_rfl)) rfl
      replace ha := Aside0.mk ha
      have B0 := Aside0.mk Q_B0
      have L0 := Aside0.mk Q_L0
      have K4 := Aside0.mk Q_K4
      have K6 := Aside0.mk Q_K6
      have K8 := Aside0.mk Q_K8
      refine value_ (w1 := w') (v := .bool true) (wanted_on rfl rfl rfl (e36.trans (by first | rfl | (simp [*]; done)))) rfl ?_ ?_
      · go_simp
        (try simp only [i64_w])
        try rfl
      refine hK.out _ _ ⟨(by rw [ha.out]; exact putSel_upk 4 hb_ rfl rfl rfl), Q_B0, Q_L0, Q_K4, Q_K6, Q_K8⟩
    refine steps_cons ?_ ?_
    · rintro b a w' ⟨ha, Q_B0, Q_L0, Q_K4, Q_K6, Q_K8⟩ hb_ hon hoff
      refine ⟨_, rfl, fun K hK => ?_⟩
      have e36 : a.tmps[36]? = some (.bool true) := by rw [ha]; exact putSel_on (e := (2, 36, .bool true)) 2 rfl rfl (hon 2 (by kernel_rfl)) rfl
      have e38 : a.tmps[38]? = some (.bool true) := by rw [ha]; exact putSel_on (e := (4, 38, .bool true)) 4 rfl rfl (hon 4 (by kernel_rfl)) rfl
      replace ha := Aside0.mk ha
      have B0 := Aside0.mk Q_B0
      have L0 := Aside0.mk Q_L0
      have K4 := Aside0.mk Q_K4
      have K6 := Aside0.mk Q_K6
      have K8 := Aside0.mk Q_K8
      refine value_ (w1 := w') (v := .bool true) (by rfl) rfl ?_ ?_
      · go_simp
        (try simp only [i64_w])
        try rfl
      refine hK.out _ _ ⟨(by rw [ha.out]; exact putSel_upk 5 hb_ rfl rfl rfl), Q_B0, Q_L0, Q_K4, Q_K6, Q_K8⟩
    refine steps_cons ?_ ?_
    · rintro b a w' ⟨ha, Q_B0, Q_L0, Q_K4, Q_K6, Q_K8⟩ hb_ hon hoff
      refine ⟨_, rfl, fun K hK => ?_⟩
      have e39 : a.tmps[39]? = some (.bool true) := by rw [ha]; exact putSel_on (e := (5, 39, .bool true)) 5 rfl rfl (hon 5 (by kernel_rfl)) rfl
      replace ha := Aside0.mk ha
      have B0 := Aside0.mk Q_B0
      have L0 := Aside0.mk Q_L0
      have K4 := Aside0.mk Q_K4
      have K6 := Aside0.mk Q_K6
      have K8 := Aside0.mk Q_K8
      refine value_ (w1 := w') (v := .bool true) (by rfl) rfl ?_ ?_
      · go_simp
        (try simp only [i64_w])
        try rfl
      refine hK.out _ _ ⟨(by rw [ha.out]; exact putSel_upk 6 hb_ rfl rfl rfl), Q_B0, Q_L0, Q_K4, Q_K6, Q_K8⟩
    refine steps_cons ?_ ?_
    · rintro b a w' ⟨ha, Q_B0, Q_L0, Q_K4, Q_K6, Q_K8⟩ hb_ hon hoff
      refine ⟨_, rfl, fun K hK => ?_⟩
      have e7 : a.tmps[7]? = some (.bool false) := by rw [ha]; exact (putSel_off rfl).trans rfl
      have e40 : a.tmps[40]? = some (.bool true) := by rw [ha]; exact putSel_on (e := (6, 40, .bool true)) 6 rfl rfl (hon 6 (by kernel_rfl)) rfl
      replace ha := Aside0.mk ha
      have B0 := Aside0.mk Q_B0
      have L0 := Aside0.mk Q_L0
      have K4 := Aside0.mk Q_K4
      have K6 := Aside0.mk Q_K6
      have K8 := Aside0.mk Q_K8
      refine value_ (w1 := w') (v := .bool false) (wanted_on rfl rfl rfl (e40.trans (by first | rfl | (simp [*]; done)))) rfl ?_ ?_
      · go_simp
        (try simp only [i64_w])
        try rfl
      refine hK.out _ _ ⟨(by rw [ha.out]; exact putSel_upk 7 hb_ rfl rfl rfl), Q_B0, Q_L0, Q_K4, Q_K6, Q_K8⟩
    refine steps_cons ?_ ?_
    · rintro b a w' ⟨ha, Q_B0, Q_L0, Q_K4, Q_K6, Q_K8⟩ hb_ hon hoff
      refine ⟨_, rfl, fun K hK => ?_⟩
      have e41 : a.tmps[41]? = some (.bool false) := by rw [ha]; exact putSel_on (e := (7, 41, .bool false)) 7 rfl rfl (hon 7 (by kernel_rfl)) rfl
      have e40 : a.tmps[40]? = some (.bool true) := by rw [ha]; exact putSel_on (e := (6, 40, .bool true)) 6 rfl rfl (hon 6 (by kernel_rfl)) rfl
      replace ha := Aside0.mk ha
      have B0 := Aside0.mk Q_B0
      have L0 := Aside0.mk Q_L0
      have K4 := Aside0.mk Q_K4
      have K6 := Aside0.mk Q_K6
      have K8 := Aside0.mk Q_K8
      refine value_ (w1 := w') (v := .bool true) (wanted_on rfl rfl rfl (e40.trans (by first | rfl | (simp [*]; done)))) rfl ?_ ?_
      · go_simp
        (try simp only [i64_w])
        try rfl
      refine hK.out _ _ ⟨(by rw [ha.out]; exact putSel_upk 8 hb_ rfl rfl rfl), Q_B0, Q_L0, Q_K4, Q_K6, Q_K8⟩
    refine steps_cons ?_ ?_
    · rintro b a w' ⟨ha, Q_B0, Q_L0, Q_K4, Q_K6, Q_K8⟩ hb_ hon hoff
      refine ⟨_, rfl, fun K hK => ?_⟩
      have e40 : a.tmps[40]? = some (.bool true) := by rw [ha]; exact putSel_on (e := (6, 40, .bool true)) 6 rfl rfl (hon 6 (by kernel_rfl)) rfl
      have e42 : a.tmps[42]? = some (.bool true) := by rw [ha]; exact putSel_on (e := (8, 42, .bool true)) 8 rfl rfl (hon 8 (by kernel_rfl)) rfl
      replace ha := Aside0.mk ha
      have B0 := Aside0.mk Q_B0
      have L0 := Aside0.mk Q_L0
      have K4 := Aside0.mk Q_K4
      have K6 := Aside0.mk Q_K6
      have K8 := Aside0.mk Q_K8
      refine value_ (w1 := w') (v := .bool true) (by rfl) rfl ?_ ?_
      · go_simp
        (try simp only [i64_w])
        try rfl
      refine hK.out _ _ ⟨(by rw [ha.out]; exact putSel_upk 9 hb_ rfl rfl rfl), Q_B0, Q_L0, Q_K4, Q_K6, Q_K8⟩
    refine steps_cons ?_ ?_
    · rintro b a w' ⟨ha, Q_B0, Q_L0, Q_K4, Q_K6, Q_K8⟩ hb_ hon hoff
      refine ⟨_, rfl, fun K hK => ?_⟩
      have e43 : a.tmps[43]? = some (.bool true) := by rw [ha]; exact putSel_on (e := (9, 43, .bool true)) 9 rfl rfl (hon 9 (by kernel_rfl)) rfl
      replace ha := Aside0.mk ha
      have B0 := Aside0.mk Q_B0
      have L0 := Aside0.mk Q_L0
      have K4 := Aside0.mk Q_K4
      have K6 := Aside0.mk Q_K6
      have K8 := Aside0.mk Q_K8
      refine value_ (w1 := w') (v := .bool true) (by rfl) rfl ?_ ?_
      · go_simp
        (try simp only [i64_w])
        try rfl
      refine hK.out _ _ ⟨(by rw [ha.out]; exact putSel_upk 10 hb_ rfl rfl rfl), Q_B0, Q_L0, Q_K4, Q_K6, Q_K8⟩
    refine steps_cons ?_ ?_
    · rintro b a w' ⟨ha, Q_B0, Q_L0, Q_K4, Q_K6, Q_K8⟩ hb_ hon hoff
      refine ⟨_, rfl, fun K hK => ?_⟩
      have e9 : a.tmps[9]? = some (.bool true) := by rw [ha]; exact (putSel_off rfl).trans rfl
      have e44 : a.tmps[44]? = some (.bool true) := by rw [ha]; exact putSel_on (e := (10, 44, .bool true)) 10 rfl rfl (hon 10 (by kernel_rfl)) rfl
      replace ha := Aside0.mk ha
      have B0 := Aside0.mk Q_B0
      have L0 := Aside0.mk Q_L0
      have K4 := Aside0.mk Q_K4
      have K6 := Aside0.mk Q_K6
      have K8 := Aside0.mk Q_K8
      refine value_ (w1 := w') (v := .bool true) (wanted_on rfl rfl rfl (e44.trans (by first | rfl | (simp [*]; done)))) rfl ?_ ?_
      · go_simp
        (try simp only [i64_w])
        try rfl
      refine hK.out _ _ ⟨(by rw [ha.out]; exact putSel_upk 11 hb_ rfl rfl rfl), Q_B0, Q_L0, Q_K4, Q_K6, Q_K8⟩
    refine steps_cons ?_ ?_
    · rintro b a w' ⟨ha, Q_B0, Q_L0, Q_K4, Q_K6, Q_K8⟩ hb_ hon hoff
      refine ⟨_, rfl, fun K hK => ?_⟩
      have e44 : a.tmps[44]? = some (.bool true) := by rw [ha]; exact putSel_on (e := (10, 44, .bool true)) 10 rfl rfl (hon 10 (by kernel_rfl)) rfl
      have e45 : a.tmps[45]? = some (.bool true) := by rw [ha]; exact putSel_on (e := (11, 45, .bool true)) 11 rfl rfl (hon 11 (by kernel_rfl)) rfl
      replace ha := Aside0.mk ha
      have B0 := Aside0.mk Q_B0
      have L0 := Aside0.mk Q_L0
      have K4 := Aside0.mk Q_K4
      have K6 := Aside0.mk Q_K6
      have K8 := Aside0.mk Q_K8
      refine value_ (w1 := w') (v := .bool true) (by rfl) rfl ?_ ?_
      · go_simp
        (try simp only [i64_w])
        try rfl
      refine hK.out _ _ ⟨(by rw [ha.out]; exact putSel_upk 12 hb_ rfl rfl rfl), Q_B0, Q_L0, Q_K4, Q_K6, Q_K8⟩
    refine steps_cons ?_ ?_
    · rintro b a w' ⟨ha, Q_B0, Q_L0, Q_K4, Q_K6, Q_K8⟩ hb_ hon hoff
      refine ⟨_, rfl, fun K hK => ?_⟩
      have e46 : a.tmps[46]? = some (.bool true) := by rw [ha]; exact putSel_on (e := (12, 46, .bool true)) 12 rfl rfl (hon 12 (by kernel_rfl)) rfl
      replace ha := Aside0.mk ha
      have B0 := Aside0.mk Q_B0
      have L0 := Aside0.mk Q_L0
      have K4 := Aside0.mk Q_K4
      have K6 := Aside0.mk Q_K6
      have K8 := Aside0.mk Q_K8
      refine value_ (w1 := w') (v := .bool true) (by rfl) rfl ?_ ?_
      · go_simp
        (try simp only [i64_w])
        try rfl
      refine hK.out _ _ ⟨(by rw [ha.out]; exact putSel_upk 13 hb_ rfl rfl rfl), Q_B0, Q_L0, Q_K4, Q_K6, Q_K8⟩
    refine steps_cons ?_ ?_
    · rintro b a w' ⟨ha, Q_B0, Q_L0, Q_K4, Q_K6, Q_K8⟩ hb_ hon hoff
      refine ⟨_, rfl, fun K hK => ?_⟩
      have e4 : a.tmps[4]? = some (.pointer (some ⟨b4, 0, none⟩)) := by rw [ha]; exact (putSel_off rfl).trans rfl
      have e47 : a.tmps[47]? = some (.bool true) := by rw [ha]; exact putSel_on (e := (13, 47, .bool true)) 13 rfl rfl (hon 13 (by kernel_rfl)) rfl
      replace ha := Aside0.mk ha
      have B0 := Aside0.mk Q_B0
      have L0 := Aside0.mk Q_L0
      have K4 := Aside0.mk Q_K4
      have K6 := Aside0.mk Q_K6
      have K8 := Aside0.mk Q_K8
      have c0_ := blk_cell K4.out 0
      have c1_ := blk_cell K4.out 1
      have c2_ := blk_cell K4.out 2
      have c3_ := blk_cell K4.out 3
      refine value_ (w1 := w') (v := .agg #[.bool true, .bool false, .int .u64 4, .int .i64 1]) (wanted_on rfl rfl rfl (e47.trans (by first | rfl | (simp [*]; done)))) rfl ?_ ?_
      · go_simp
        (try simp only [i64_w])
        try rfl
      refine hK.out _ _ ⟨(by rw [ha.out]; exact putSel_upk 14 hb_ rfl rfl rfl), Q_B0, Q_L0, Q_K4, Q_K6, Q_K8⟩
    refine steps_cons ?_ ?_
    · rintro b a w' ⟨ha, Q_B0, Q_L0, Q_K4, Q_K6, Q_K8⟩ hb_ hon hoff
      refine ⟨_, rfl, fun K hK => ?_⟩
      have e47 : a.tmps[47]? = some (.bool true) := by rw [ha]; exact putSel_on (e := (13, 47, .bool true)) 13 rfl rfl (hon 13 (by kernel_rfl)) rfl
      replace ha := Aside0.mk ha
      have B0 := Aside0.mk Q_B0
      have L0 := Aside0.mk Q_L0
      have K4 := Aside0.mk Q_K4
      have K6 := Aside0.mk Q_K6
      have K8 := Aside0.mk Q_K8
      refine value_ (w1 := w') (v := .agg #[.bool true, .bool false, .int .u64 4, .int .i64 1]) (wanted_on rfl rfl rfl (e47.trans (by first | rfl | (simp [*]; done)))) rfl ?_ ?_
      · go_simp
        (try simp only [i64_w])
        try rfl
      refine hK.out _ _ ⟨(by rw [ha.out]; exact putSel_upk 15 hb_ rfl rfl rfl), Q_B0, Q_L0, Q_K4, Q_K6, Q_K8⟩
    refine steps_cons ?_ ?_
    · rintro b a w' ⟨ha, Q_B0, Q_L0, Q_K4, Q_K6, Q_K8⟩ hb_ hon hoff
      refine ⟨_, rfl, fun K hK => ?_⟩
      have e48 : a.tmps[48]? = some (.agg #[.bool true, .bool false, .int .u64 4, .int .i64 1]) := by rw [ha]; exact putSel_on (e := (14, 48, .agg #[.bool true, .bool false, .int .u64 4, .int .i64 1])) 14 rfl rfl (hon 14 (by kernel_rfl)) rfl
      have e49 : a.tmps[49]? = some (.agg #[.bool true, .bool false, .int .u64 4, .int .i64 1]) := by rw [ha]; exact putSel_on (e := (15, 49, .agg #[.bool true, .bool false, .int .u64 4, .int .i64 1])) 15 rfl rfl (hon 15 (by kernel_rfl)) rfl
      have e47 : a.tmps[47]? = some (.bool true) := by rw [ha]; exact putSel_on (e := (13, 47, .bool true)) 13 rfl rfl (hon 13 (by kernel_rfl)) rfl
      replace ha := Aside0.mk ha
      have B0 := Aside0.mk Q_B0
      have L0 := Aside0.mk Q_L0
      have K4 := Aside0.mk Q_K4
      have K6 := Aside0.mk Q_K6
      have K8 := Aside0.mk Q_K8
      have q_ := eqA33
      refine value_ (w1 := w') (v := .bool true) (wanted_on rfl rfl rfl (e47.trans (by first | rfl | (simp [*]; done)))) rfl ?_ ?_
      · go_simp
        (try simp only [i64_w])
        try rfl
      refine hK.out _ _ ⟨(by rw [ha.out]; exact putSel_upk 16 hb_ rfl rfl rfl), Q_B0, Q_L0, Q_K4, Q_K6, Q_K8⟩
    refine steps_cons ?_ ?_
    · rintro b a w' ⟨ha, Q_B0, Q_L0, Q_K4, Q_K6, Q_K8⟩ hb_ hon hoff
      refine ⟨_, rfl, fun K hK => ?_⟩
      have e47 : a.tmps[47]? = some (.bool true) := by rw [ha]; exact putSel_on (e := (13, 47, .bool true)) 13 rfl rfl (hon 13 (by kernel_rfl)) rfl
      have e50 : a.tmps[50]? = some (.bool true) := by rw [ha]; exact putSel_on (e := (16, 50, .bool true)) 16 rfl rfl (hon 16 (by kernel_rfl)) rfl
      replace ha := Aside0.mk ha
      have B0 := Aside0.mk Q_B0
      have L0 := Aside0.mk Q_L0
      have K4 := Aside0.mk Q_K4
      have K6 := Aside0.mk Q_K6
      have K8 := Aside0.mk Q_K8
      refine value_ (w1 := w') (v := .bool true) (by rfl) rfl ?_ ?_
      · go_simp
        (try simp only [i64_w])
        try rfl
      refine hK.out _ _ ⟨(by rw [ha.out]; exact putSel_upk 17 hb_ rfl rfl rfl), Q_B0, Q_L0, Q_K4, Q_K6, Q_K8⟩
    refine steps_cons ?_ ?_
    · rintro b a w' ⟨ha, Q_B0, Q_L0, Q_K4, Q_K6, Q_K8⟩ hb_ hon hoff
      refine ⟨_, rfl, fun K hK => ?_⟩
      have e51 : a.tmps[51]? = some (.bool true) := by rw [ha]; exact putSel_on (e := (17, 51, .bool true)) 17 rfl rfl (hon 17 (by kernel_rfl)) rfl
      replace ha := Aside0.mk ha
      have B0 := Aside0.mk Q_B0
      have L0 := Aside0.mk Q_L0
      have K4 := Aside0.mk Q_K4
      have K6 := Aside0.mk Q_K6
      have K8 := Aside0.mk Q_K8
      refine value_ (w1 := w') (v := .bool true) (by rfl) rfl ?_ ?_
      · go_simp
        (try simp only [i64_w])
        try rfl
      refine hK.out _ _ ⟨(by rw [ha.out]; exact putSel_upk 18 hb_ rfl rfl rfl), Q_B0, Q_L0, Q_K4, Q_K6, Q_K8⟩
    refine steps_cons ?_ ?_
    · rintro b a w' ⟨ha, Q_B0, Q_L0, Q_K4, Q_K6, Q_K8⟩ hb_ hon hoff
      refine ⟨_, rfl, fun K hK => ?_⟩
      have e8 : a.tmps[8]? = some (.pointer (some ⟨b8, 0, none⟩)) := by rw [ha]; exact (putSel_off rfl).trans rfl
      have e52 : a.tmps[52]? = some (.bool true) := by rw [ha]; exact putSel_on (e := (18, 52, .bool true)) 18 rfl rfl (hon 18 (by kernel_rfl)) rfl
      replace ha := Aside0.mk ha
      have B0 := Aside0.mk Q_B0
      have L0 := Aside0.mk Q_L0
      have K4 := Aside0.mk Q_K4
      have K6 := Aside0.mk Q_K6
      have K8 := Aside0.mk Q_K8
      have c0_ := blk_cell K8.out 0
      have c1_ := blk_cell K8.out 1
      have c2_ := blk_cell K8.out 2
      have c3_ := blk_cell K8.out 3
      refine value_ (w1 := w') (v := .agg #[.bool false, .bool false, .int .u64 0, .int .i64 0]) (wanted_on rfl rfl rfl (e52.trans (by first | rfl | (simp [*]; done)))) rfl ?_ ?_
      · go_simp
        (try simp only [i64_w])
        try rfl
      refine hK.out _ _ ⟨(by rw [ha.out]; exact putSel_upk 19 hb_ rfl rfl rfl), Q_B0, Q_L0, Q_K4, Q_K6, Q_K8⟩
    refine steps_cons ?_ ?_
    · rintro b a w' ⟨ha, Q_B0, Q_L0, Q_K4, Q_K6, Q_K8⟩ hb_ hon hoff
      refine ⟨_, rfl, fun K hK => ?_⟩
      have e52 : a.tmps[52]? = some (.bool true) := by rw [ha]; exact putSel_on (e := (18, 52, .bool true)) 18 rfl rfl (hon 18 (by kernel_rfl)) rfl
      replace ha := Aside0.mk ha
      have B0 := Aside0.mk Q_B0
      have L0 := Aside0.mk Q_L0
      have K4 := Aside0.mk Q_K4
      have K6 := Aside0.mk Q_K6
      have K8 := Aside0.mk Q_K8
      refine value_ (w1 := w') (v := .agg #[.bool false, .bool false, .int .u64 0, .int .i64 0]) (wanted_on rfl rfl rfl (e52.trans (by first | rfl | (simp [*]; done)))) rfl ?_ ?_
      · go_simp
        (try simp only [i64_w])
        try rfl
      refine hK.out _ _ ⟨(by rw [ha.out]; exact putSel_upk 20 hb_ rfl rfl rfl), Q_B0, Q_L0, Q_K4, Q_K6, Q_K8⟩
    refine steps_cons ?_ ?_
    · rintro b a w' ⟨ha, Q_B0, Q_L0, Q_K4, Q_K6, Q_K8⟩ hb_ hon hoff
      refine ⟨_, rfl, fun K hK => ?_⟩
      have e53 : a.tmps[53]? = some (.agg #[.bool false, .bool false, .int .u64 0, .int .i64 0]) := by rw [ha]; exact putSel_on (e := (19, 53, .agg #[.bool false, .bool false, .int .u64 0, .int .i64 0])) 19 rfl rfl (hon 19 (by kernel_rfl)) rfl
      have e54 : a.tmps[54]? = some (.agg #[.bool false, .bool false, .int .u64 0, .int .i64 0]) := by rw [ha]; exact putSel_on (e := (20, 54, .agg #[.bool false, .bool false, .int .u64 0, .int .i64 0])) 20 rfl rfl (hon 20 (by kernel_rfl)) rfl
      have e52 : a.tmps[52]? = some (.bool true) := by rw [ha]; exact putSel_on (e := (18, 52, .bool true)) 18 rfl rfl (hon 18 (by kernel_rfl)) rfl
      replace ha := Aside0.mk ha
      have B0 := Aside0.mk Q_B0
      have L0 := Aside0.mk Q_L0
      have K4 := Aside0.mk Q_K4
      have K6 := Aside0.mk Q_K6
      have K8 := Aside0.mk Q_K8
      have q_ := eqZ33
      refine value_ (w1 := w') (v := .bool true) (wanted_on rfl rfl rfl (e52.trans (by first | rfl | (simp [*]; done)))) rfl ?_ ?_
      · go_simp
        (try simp only [i64_w])
        try rfl
      refine hK.out _ _ ⟨(by rw [ha.out]; exact putSel_upk 21 hb_ rfl rfl rfl), Q_B0, Q_L0, Q_K4, Q_K6, Q_K8⟩
    refine steps_cons ?_ ?_
    · rintro b a w' ⟨ha, Q_B0, Q_L0, Q_K4, Q_K6, Q_K8⟩ hb_ hon hoff
      refine ⟨_, rfl, fun K hK => ?_⟩
      have e52 : a.tmps[52]? = some (.bool true) := by rw [ha]; exact putSel_on (e := (18, 52, .bool true)) 18 rfl rfl (hon 18 (by kernel_rfl)) rfl
      have e55 : a.tmps[55]? = some (.bool true) := by rw [ha]; exact putSel_on (e := (21, 55, .bool true)) 21 rfl rfl (hon 21 (by kernel_rfl)) rfl
      replace ha := Aside0.mk ha
      have B0 := Aside0.mk Q_B0
      have L0 := Aside0.mk Q_L0
      have K4 := Aside0.mk Q_K4
      have K6 := Aside0.mk Q_K6
      have K8 := Aside0.mk Q_K8
      refine value_ (w1 := w') (v := .bool true) (by rfl) rfl ?_ ?_
      · go_simp
        (try simp only [i64_w])
        try rfl
      refine hK.out _ _ ⟨(by rw [ha.out]; exact putSel_upk 22 hb_ rfl rfl rfl), Q_B0, Q_L0, Q_K4, Q_K6, Q_K8⟩
    refine steps_cons ?_ ?_
    · rintro b a w' ⟨ha, Q_B0, Q_L0, Q_K4, Q_K6, Q_K8⟩ hb_ hon hoff
      refine ⟨_, rfl, fun K hK => ?_⟩
      have e56 : a.tmps[56]? = some (.bool true) := by rw [ha]; exact putSel_on (e := (22, 56, .bool true)) 22 rfl rfl (hon 22 (by kernel_rfl)) rfl
      replace ha := Aside0.mk ha
      have B0 := Aside0.mk Q_B0
      have L0 := Aside0.mk Q_L0
      have K4 := Aside0.mk Q_K4
      have K6 := Aside0.mk Q_K6
      have K8 := Aside0.mk Q_K8
      refine value_ (w1 := w') (v := .bool true) (by rfl) rfl ?_ ?_
      · go_simp
        (try simp only [i64_w])
        try rfl
      refine hK.out _ _ ⟨(by rw [ha.out]; exact putSel_upk 23 hb_ rfl rfl rfl), Q_B0, Q_L0, Q_K4, Q_K6, Q_K8⟩
    refine steps_cons ?_ ?_
    · rintro b a w' ⟨ha, Q_B0, Q_L0, Q_K4, Q_K6, Q_K8⟩ hb_ hon hoff
      refine ⟨_, rfl, fun K hK => ?_⟩
      have e1 : a.tmps[1]? = some (.slice (some ⟨g0, 0, none⟩) 1 1) := by rw [ha]; exact (putSel_off rfl).trans rfl
      have e57 : a.tmps[57]? = some (.bool true) := by rw [ha]; exact putSel_on (e := (23, 57, .bool true)) 23 rfl rfl (hon 23 (by kernel_rfl)) rfl
      replace ha := Aside0.mk ha
      have B0 := Aside0.mk Q_B0
      have L0 := Aside0.mk Q_L0
      have K4 := Aside0.mk Q_K4
      have K6 := Aside0.mk Q_K6
      have K8 := Aside0.mk Q_K8
      refine value_ (w1 := w') (v := .slice (some ⟨g0, 0, none⟩) 1 1) (wanted_on rfl rfl rfl (e57.trans (by first | rfl | (simp [*]; done)))) rfl ?_ ?_
      · go_simp
        (try simp only [i64_w])
        try rfl
      refine hK.out _ _ ⟨(by rw [ha.out]; exact putSel_upk 24 hb_ rfl rfl rfl), Q_B0, Q_L0, Q_K4, Q_K6, Q_K8⟩
    refine steps_cons ?_ ?_
    · rintro b a w' ⟨ha, Q_B0, Q_L0, Q_K4, Q_K6, Q_K8⟩ hb_ hon hoff
      refine ⟨_, rfl, fun K hK => ?_⟩
      have e6 : a.tmps[6]? = some (.pointer (some ⟨b6, 0, none⟩)) := by rw [ha]; exact (putSel_off rfl).trans rfl
      have e57 : a.tmps[57]? = some (.bool true) := by rw [ha]; exact putSel_on (e := (23, 57, .bool true)) 23 rfl rfl (hon 23 (by kernel_rfl)) rfl
      replace ha := Aside0.mk ha
      have B0 := Aside0.mk Q_B0
      have L0 := Aside0.mk Q_L0
      have K4 := Aside0.mk Q_K4
      have K6 := Aside0.mk Q_K6
      have K8 := Aside0.mk Q_K8
      have c0_ := blk_cell K6.out 0
      have c1_ := blk_cell K6.out 1
      have c2_ := blk_cell K6.out 2
      have c3_ := blk_cell K6.out 3
      refine value_ (w1 := w') (v := .agg #[.bool true, .bool false, .int .u64 4, .int .i64 2]) (wanted_on rfl rfl rfl (e57.trans (by first | rfl | (simp [*]; done)))) rfl ?_ ?_
      · go_simp
        (try simp only [i64_w])
        try rfl
      refine hK.out _ _ ⟨(by rw [ha.out]; exact putSel_upk 25 hb_ rfl rfl rfl), Q_B0, Q_L0, Q_K4, Q_K6, Q_K8⟩
    refine steps_cons ?_ ?_
    · rintro b a w' ⟨ha, Q_B0, Q_L0, Q_K4, Q_K6, Q_K8⟩ hb_ hon hoff
      refine ⟨_, rfl, fun K hK => ?_⟩
      have e58 : a.tmps[58]? = some (.slice (some ⟨g0, 0, none⟩) 1 1) := by rw [ha]; exact putSel_on (e := (24, 58, .slice (some ⟨g0, 0, none⟩) 1 1)) 24 rfl rfl (hon 24 (by kernel_rfl)) rfl
      have e59 : a.tmps[59]? = some (.agg #[.bool true, .bool false, .int .u64 4, .int .i64 2]) := by rw [ha]; exact putSel_on (e := (25, 59, .agg #[.bool true, .bool false, .int .u64 4, .int .i64 2])) 25 rfl rfl (hon 25 (by kernel_rfl)) rfl
      have e57 : a.tmps[57]? = some (.bool true) := by rw [ha]; exact putSel_on (e := (23, 57, .bool true)) 23 rfl rfl (hon 23 (by kernel_rfl)) rfl
      replace ha := Aside0.mk ha
      have B0 := Aside0.mk Q_B0
      have L0 := Aside0.mk Q_L0
      have K4 := Aside0.mk Q_K4
      have K6 := Aside0.mk Q_K6
      have K8 := Aside0.mk Q_K8
      refine goes_ Try.func45 (by kernel_rfl) rfl #[.slice (some ⟨g0, 0, none⟩) 1 1, .agg #[.bool true, .bool false, .int .u64 4, .int .i64 2]] (wanted_on rfl rfl rfl (e57.trans rfl)) rfl rfl (by first | (simp only [List.map_toArray, List.map_cons, List.map_nil, Act.eval, Array.getD_eq_getD_getElem?, Option.getD_some, e58, e59, e57]; done) | (simp only [List.map_toArray, List.map_cons, List.map_nil, Act.eval, Array.getD_eq_getD_getElem?, Option.getD_some, e58, e59, e57]; rfl)) ?_
      with_reducible refine (HL2.out _ L0.out).mono ?_
      rintro e w2 ⟨rfl, hb⟩
      refine ⟨_, rfl, ?_⟩
      refine hK.out _ _ ⟨(by rw [ha.out]; exact putSel_upk 26 hb_ rfl rfl rfl), below_then B0.out B0.out.size hb, blk_below L0.out hb, blk_below K4.out hb, blk_below K6.out hb, blk_below K8.out hb⟩
    refine steps_cons ?_ ?_
    · rintro b a w' ⟨ha, Q_B0, Q_L0, Q_K4, Q_K6, Q_K8⟩ hb_ hon hoff
      refine ⟨_, rfl, fun K hK => ?_⟩
      have e60 : a.tmps[60]? = some (.int .i64 1) := by rw [ha]; exact putSel_on (e := (26, 60, .int .i64 1)) 26 rfl rfl (hon 26 (by kernel_rfl)) rfl
      have e57 : a.tmps[57]? = some (.bool true) := by rw [ha]; exact putSel_on (e := (23, 57, .bool true)) 23 rfl rfl (hon 23 (by kernel_rfl)) rfl
      replace ha := Aside0.mk ha
      have B0 := Aside0.mk Q_B0
      have L0 := Aside0.mk Q_L0
      have K4 := Aside0.mk Q_K4
      have K6 := Aside0.mk Q_K6
      have K8 := Aside0.mk Q_K8
      refine value_ (w1 := w') (v := .bool true) (wanted_on rfl rfl rfl (e57.trans (by first | rfl | (simp [*]; done)))) rfl ?_ ?_
      · go_simp
        (try simp only [i64_w])
        try rfl
      refine hK.out _ _ ⟨(by rw [ha.out]; exact putSel_upk 27 hb_ rfl rfl rfl), Q_B0, Q_L0, Q_K4, Q_K6, Q_K8⟩
    refine steps_cons ?_ ?_
    · rintro b a w' ⟨ha, Q_B0, Q_L0, Q_K4, Q_K6, Q_K8⟩ hb_ hon hoff
      refine ⟨_, rfl, fun K hK => ?_⟩
      have e57 : a.tmps[57]? = some (.bool true) := by rw [ha]; exact putSel_on (e := (23, 57, .bool true)) 23 rfl rfl (hon 23 (by kernel_rfl)) rfl
      have e61 : a.tmps[61]? = some (.bool true) := by rw [ha]; exact putSel_on (e := (27, 61, .bool true)) 27 rfl rfl (hon 27 (by kernel_rfl)) rfl
      replace ha := Aside0.mk ha
      have B0 := Aside0.mk Q_B0
      have L0 := Aside0.mk Q_L0
      have K4 := Aside0.mk Q_K4
      have K6 := Aside0.mk Q_K6
      have K8 := Aside0.mk Q_K8
      refine value_ (w1 := w') (v := .bool true) (by rfl) rfl ?_ ?_
      · go_simp
        (try simp only [i64_w])
        try rfl
      refine hK.out _ _ ⟨(by rw [ha.out]; exact putSel_upk 28 hb_ rfl rfl rfl), Q_B0, Q_L0, Q_K4, Q_K6, Q_K8⟩
    refine steps_cons ?_ ?_
    · rintro b a w' ⟨ha, Q_B0, Q_L0, Q_K4, Q_K6, Q_K8⟩ hb_ hon hoff
      refine ⟨_, rfl, fun K hK => ?_⟩
      have e62 : a.tmps[62]? = some (.bool true) := by rw [ha]; exact putSel_on (e := (28, 62, .bool true)) 28 rfl rfl (hon 28 (by kernel_rfl)) rfl
      replace ha := Aside0.mk ha
      have B0 := Aside0.mk Q_B0
      have L0 := Aside0.mk Q_L0
      have K4 := Aside0.mk Q_K4
      have K6 := Aside0.mk Q_K6
      have K8 := Aside0.mk Q_K8
      refine value_ (w1 := w') (v := .bool true) (by rfl) rfl ?_ ?_
      · go_simp
        (try simp only [i64_w])
        try rfl
      refine hK.out _ _ ⟨(by rw [ha.out]; exact putSel_upk 29 hb_ rfl rfl rfl), Q_B0, Q_L0, Q_K4, Q_K6, Q_K8⟩
    refine steps_cons ?_ ?_
    · rintro b a w' ⟨ha, Q_B0, Q_L0, Q_K4, Q_K6, Q_K8⟩ hb_ hon hoff
      refine ⟨_, rfl, fun K hK => ?_⟩
      have e4 : a.tmps[4]? = some (.pointer (some ⟨b4, 0, none⟩)) := by rw [ha]; exact (putSel_off rfl).trans rfl
      have e63 : a.tmps[63]? = some (.bool true) := by rw [ha]; exact putSel_on (e := (29, 63, .bool true)) 29 rfl rfl (hon 29 (by kernel_rfl)) rfl
      replace ha := Aside0.mk ha
      have B0 := Aside0.mk Q_B0
      have L0 := Aside0.mk Q_L0
      have K4 := Aside0.mk Q_K4
      have K6 := Aside0.mk Q_K6
      have K8 := Aside0.mk Q_K8
      have c0_ := blk_cell K4.out 0
      have c1_ := blk_cell K4.out 1
      have c2_ := blk_cell K4.out 2
      have c3_ := blk_cell K4.out 3
      refine value_ (w1 := w') (v := .agg #[.bool true, .bool false, .int .u64 4, .int .i64 1]) (wanted_on rfl rfl rfl (e63.trans (by first | rfl | (simp [*]; done)))) rfl ?_ ?_
      · go_simp
        (try simp only [i64_w])
        try rfl
      refine hK.out _ _ ⟨(by rw [ha.out]; exact putSel_upk 30 hb_ rfl rfl rfl), Q_B0, Q_L0, Q_K4, Q_K6, Q_K8⟩
    refine steps_cons ?_ ?_
    · rintro b a w' ⟨ha, Q_B0, Q_L0, Q_K4, Q_K6, Q_K8⟩ hb_ hon hoff
      refine ⟨_, rfl, fun K hK => ?_⟩
      have e64 : a.tmps[64]? = some (.agg #[.bool true, .bool false, .int .u64 4, .int .i64 1]) := by rw [ha]; exact putSel_on (e := (30, 64, .agg #[.bool true, .bool false, .int .u64 4, .int .i64 1])) 30 rfl rfl (hon 30 (by kernel_rfl)) rfl
      have e63 : a.tmps[63]? = some (.bool true) := by rw [ha]; exact putSel_on (e := (29, 63, .bool true)) 29 rfl rfl (hon 29 (by kernel_rfl)) rfl
      replace ha := Aside0.mk ha
      have B0 := Aside0.mk Q_B0
      have L0 := Aside0.mk Q_L0
      have K4 := Aside0.mk Q_K4
      have K6 := Aside0.mk Q_K6
      have K8 := Aside0.mk Q_K8
      refine goes_ Try.func39 (by kernel_rfl) rfl #[.agg #[.bool true, .bool false, .int .u64 4, .int .i64 1], .int .u64 4] (wanted_on rfl rfl rfl (e63.trans rfl)) rfl rfl (by first | (simp only [List.map_toArray, List.map_cons, List.map_nil, Act.eval, Array.getD_eq_getD_getElem?, Option.getD_some, e64, e63]; done) | (simp only [List.map_toArray, List.map_cons, List.map_nil, Act.eval, Array.getD_eq_getD_getElem?, Option.getD_some, e64, e63]; rfl)) ?_
      with_reducible refine (HDR.out _).mono ?_
      rintro e w2 ⟨rfl, hb⟩
      refine ⟨_, rfl, ?_⟩
      refine hK.out _ _ ⟨(by rw [ha.out]; exact putSel_upk 31 hb_ rfl rfl rfl), below_then B0.out B0.out.size hb, blk_below L0.out hb, blk_below K4.out hb, blk_below K6.out hb, blk_below K8.out hb⟩
    refine steps_cons ?_ ?_
    · rintro b a w' ⟨ha, Q_B0, Q_L0, Q_K4, Q_K6, Q_K8⟩ hb_ hon hoff
      refine ⟨_, rfl, fun K hK => ?_⟩
      have e8 : a.tmps[8]? = some (.pointer (some ⟨b8, 0, none⟩)) := by rw [ha]; exact (putSel_off rfl).trans rfl
      have e63 : a.tmps[63]? = some (.bool true) := by rw [ha]; exact putSel_on (e := (29, 63, .bool true)) 29 rfl rfl (hon 29 (by kernel_rfl)) rfl
      replace ha := Aside0.mk ha
      have B0 := Aside0.mk Q_B0
      have L0 := Aside0.mk Q_L0
      have K4 := Aside0.mk Q_K4
      have K6 := Aside0.mk Q_K6
      have K8 := Aside0.mk Q_K8
      have c0_ := blk_cell K8.out 0
      have c1_ := blk_cell K8.out 1
      have c2_ := blk_cell K8.out 2
      have c3_ := blk_cell K8.out 3
      refine value_ (w1 := w') (v := .agg #[.bool false, .bool false, .int .u64 0, .int .i64 0]) (wanted_on rfl rfl rfl (e63.trans (by first | rfl | (simp [*]; done)))) rfl ?_ ?_
      · go_simp
        (try simp only [i64_w])
        try rfl
      refine hK.out _ _ ⟨(by rw [ha.out]; exact putSel_upk 32 hb_ rfl rfl rfl), Q_B0, Q_L0, Q_K4, Q_K6, Q_K8⟩
    refine steps_cons ?_ ?_
    · rintro b a w' ⟨ha, Q_B0, Q_L0, Q_K4, Q_K6, Q_K8⟩ hb_ hon hoff
      refine ⟨_, rfl, fun K hK => ?_⟩
      have e65 : a.tmps[65]? = some (.agg #[.bool false, .bool false, .int .u64 0, .int .i64 0]) := by rw [ha]; exact putSel_on (e := (31, 65, .agg #[.bool false, .bool false, .int .u64 0, .int .i64 0])) 31 rfl rfl (hon 31 (by kernel_rfl)) rfl
      have e66 : a.tmps[66]? = some (.agg #[.bool false, .bool false, .int .u64 0, .int .i64 0]) := by rw [ha]; exact putSel_on (e := (32, 66, .agg #[.bool false, .bool false, .int .u64 0, .int .i64 0])) 32 rfl rfl (hon 32 (by kernel_rfl)) rfl
      have e63 : a.tmps[63]? = some (.bool true) := by rw [ha]; exact putSel_on (e := (29, 63, .bool true)) 29 rfl rfl (hon 29 (by kernel_rfl)) rfl
      replace ha := Aside0.mk ha
      have B0 := Aside0.mk Q_B0
      have L0 := Aside0.mk Q_L0
      have K4 := Aside0.mk Q_K4
      have K6 := Aside0.mk Q_K6
      have K8 := Aside0.mk Q_K8
      have q_ := eqZ33
      refine value_ (w1 := w') (v := .bool true) (wanted_on rfl rfl rfl (e63.trans (by first | rfl | (simp [*]; done)))) rfl ?_ ?_
      · go_simp
        (try simp only [i64_w])
        try rfl
      refine hK.out _ _ ⟨(by rw [ha.out]; exact putSel_upk 33 hb_ rfl rfl rfl), Q_B0, Q_L0, Q_K4, Q_K6, Q_K8⟩
    refine steps_cons ?_ ?_
    · rintro b a w' ⟨ha, Q_B0, Q_L0, Q_K4, Q_K6, Q_K8⟩ hb_ hon hoff
      refine ⟨_, rfl, fun K hK => ?_⟩
      have e63 : a.tmps[63]? = some (.bool true) := by rw [ha]; exact putSel_on (e := (29, 63, .bool true)) 29 rfl rfl (hon 29 (by kernel_rfl)) rfl
      have e67 : a.tmps[67]? = some (.bool true) := by rw [ha]; exact putSel_on (e := (33, 67, .bool true)) 33 rfl rfl (hon 33 (by kernel_rfl)) rfl
      replace ha := Aside0.mk ha
      have B0 := Aside0.mk Q_B0
      have L0 := Aside0.mk Q_L0
      have K4 := Aside0.mk Q_K4
      have K6 := Aside0.mk Q_K6
      have K8 := Aside0.mk Q_K8
      refine value_ (w1 := w') (v := .bool true) (by rfl) rfl ?_ ?_
      · go_simp
        (try simp only [i64_w])
        try rfl
      refine hK.out _ _ ⟨(by rw [ha.out]; exact putSel_upk 34 hb_ rfl rfl rfl), Q_B0, Q_L0, Q_K4, Q_K6, Q_K8⟩
    refine steps_cons ?_ ?_
    · rintro b a w' ⟨ha, Q_B0, Q_L0, Q_K4, Q_K6, Q_K8⟩ hb_ hon hoff
      refine ⟨_, rfl, fun K hK => ?_⟩
      have e68 : a.tmps[68]? = some (.bool true) := by rw [ha]; exact putSel_on (e := (34, 68, .bool true)) 34 rfl rfl (hon 34 (by kernel_rfl)) rfl
      replace ha := Aside0.mk ha
      have B0 := Aside0.mk Q_B0
      have L0 := Aside0.mk Q_L0
      have K4 := Aside0.mk Q_K4
      have K6 := Aside0.mk Q_K6
      have K8 := Aside0.mk Q_K8
      refine value_ (w1 := w') (v := .bool true) (by rfl) rfl ?_ ?_
      · go_simp
        (try simp only [i64_w])
        try rfl
      refine hK.out _ _ ⟨(by rw [ha.out]; exact putSel_upk 35 hb_ rfl rfl rfl), Q_B0, Q_L0, Q_K4, Q_K6, Q_K8⟩
    refine steps_cons ?_ ?_
    · rintro b a w' ⟨ha, Q_B0, Q_L0, Q_K4, Q_K6, Q_K8⟩ hb_ hon hoff
      refine ⟨_, rfl, fun K hK => ?_⟩
      have e4 : a.tmps[4]? = some (.pointer (some ⟨b4, 0, none⟩)) := by rw [ha]; exact (putSel_off rfl).trans rfl
      have e69 : a.tmps[69]? = some (.bool true) := by rw [ha]; exact putSel_on (e := (35, 69, .bool true)) 35 rfl rfl (hon 35 (by kernel_rfl)) rfl
      replace ha := Aside0.mk ha
      have B0 := Aside0.mk Q_B0
      have L0 := Aside0.mk Q_L0
      have K4 := Aside0.mk Q_K4
      have K6 := Aside0.mk Q_K6
      have K8 := Aside0.mk Q_K8
      have c0_ := blk_cell K4.out 0
      have c1_ := blk_cell K4.out 1
      have c2_ := blk_cell K4.out 2
      have c3_ := blk_cell K4.out 3
      refine value_ (w1 := w') (v := .agg #[.bool true, .bool false, .int .u64 4, .int .i64 1]) (wanted_on rfl rfl rfl (e69.trans (by first | rfl | (simp [*]; done)))) rfl ?_ ?_
      · go_simp
        (try simp only [i64_w])
        try rfl
      refine hK.out _ _ ⟨(by rw [ha.out]; exact putSel_upk 36 hb_ rfl rfl rfl), Q_B0, Q_L0, Q_K4, Q_K6, Q_K8⟩
    refine steps_cons ?_ ?_
    · rintro b a w' ⟨ha, Q_B0, Q_L0, Q_K4, Q_K6, Q_K8⟩ hb_ hon hoff
      refine ⟨_, rfl, fun K hK => ?_⟩
      have e70 : a.tmps[70]? = some (.agg #[.bool true, .bool false, .int .u64 4, .int .i64 1]) := by rw [ha]; exact putSel_on (e := (36, 70, .agg #[.bool true, .bool false, .int .u64 4, .int .i64 1])) 36 rfl rfl (hon 36 (by kernel_rfl)) rfl
      have e69 : a.tmps[69]? = some (.bool true) := by rw [ha]; exact putSel_on (e := (35, 69, .bool true)) 35 rfl rfl (hon 35 (by kernel_rfl)) rfl
      replace ha := Aside0.mk ha
      have B0 := Aside0.mk Q_B0
      have L0 := Aside0.mk Q_L0
      have K4 := Aside0.mk Q_K4
      have K6 := Aside0.mk Q_K6
      have K8 := Aside0.mk Q_K8
      refine goes_ Try.func40 (by kernel_rfl) rfl #[.agg #[.bool true, .bool false, .int .u64 4, .int .i64 1], .bool true] (wanted_on rfl rfl rfl (e69.trans rfl)) rfl rfl (by first | (simp only [List.map_toArray, List.map_cons, List.map_nil, Act.eval, Array.getD_eq_getD_getElem?, Option.getD_some, e70, e69]; done) | (simp only [List.map_toArray, List.map_cons, List.map_nil, Act.eval, Array.getD_eq_getD_getElem?, Option.getD_some, e70, e69]; rfl)) ?_
      with_reducible refine (HPA.out _).mono ?_
      rintro e w2 ⟨rfl, hb⟩
      refine ⟨_, rfl, ?_⟩
      refine hK.out _ _ ⟨(by rw [ha.out]; exact putSel_upk 37 hb_ rfl rfl rfl), below_then B0.out B0.out.size hb, blk_below L0.out hb, blk_below K4.out hb, blk_below K6.out hb, blk_below K8.out hb⟩
    refine steps_cons ?_ ?_
    · rintro b a w' ⟨ha, Q_B0, Q_L0, Q_K4, Q_K6, Q_K8⟩ hb_ hon hoff
      refine ⟨_, rfl, fun K hK => ?_⟩
      have e71 : a.tmps[71]? = some (.agg #[.bool true, .bool true, .int .u64 4, .int .i64 1]) := by rw [ha]; exact putSel_on (e := (37, 71, .agg #[.bool true, .bool true, .int .u64 4, .int .i64 1])) 37 rfl rfl (hon 37 (by kernel_rfl)) rfl
      have e69 : a.tmps[69]? = some (.bool true) := by rw [ha]; exact putSel_on (e := (35, 69, .bool true)) 35 rfl rfl (hon 35 (by kernel_rfl)) rfl
      replace ha := Aside0.mk ha
      have B0 := Aside0.mk Q_B0
      have L0 := Aside0.mk Q_L0
      have K4 := Aside0.mk Q_K4
      have K6 := Aside0.mk Q_K6
      have K8 := Aside0.mk Q_K8
      refine value_ (w1 := w') (v := .bool true) (wanted_on rfl rfl rfl (e69.trans (by first | rfl | (simp [*]; done)))) rfl ?_ ?_
      · go_simp
        (try simp only [i64_w])
        try rfl
      refine hK.out _ _ ⟨(by rw [ha.out]; exact putSel_upk 38 hb_ rfl rfl rfl), Q_B0, Q_L0, Q_K4, Q_K6, Q_K8⟩
    refine steps_cons ?_ ?_
    · rintro b a w' ⟨ha, Q_B0, Q_L0, Q_K4, Q_K6, Q_K8⟩ hb_ hon hoff
      refine ⟨_, rfl, fun K hK => ?_⟩
      have e69 : a.tmps[69]? = some (.bool true) := by rw [ha]; exact putSel_on (e := (35, 69, .bool true)) 35 rfl rfl (hon 35 (by kernel_rfl)) rfl
      have e72 : a.tmps[72]? = some (.bool true) := by rw [ha]; exact putSel_on (e := (38, 72, .bool true)) 38 rfl rfl (hon 38 (by kernel_rfl)) rfl
      replace ha := Aside0.mk ha
      have B0 := Aside0.mk Q_B0
      have L0 := Aside0.mk Q_L0
      have K4 := Aside0.mk Q_K4
      have K6 := Aside0.mk Q_K6
      have K8 := Aside0.mk Q_K8
      refine value_ (w1 := w') (v := .bool true) (by rfl) rfl ?_ ?_
      · go_simp
        (try simp only [i64_w])
        try rfl
      refine hK.out _ _ ⟨(by rw [ha.out]; exact putSel_upk 39 hb_ rfl rfl rfl), Q_B0, Q_L0, Q_K4, Q_K6, Q_K8⟩
    refine steps_cons ?_ ?_
    · rintro b a w' ⟨ha, Q_B0, Q_L0, Q_K4, Q_K6, Q_K8⟩ hb_ hon hoff
      refine ⟨_, rfl, fun K hK => ?_⟩
      have e73 : a.tmps[73]? = some (.bool true) := by rw [ha]; exact putSel_on (e := (39, 73, .bool true)) 39 rfl rfl (hon 39 (by kernel_rfl)) rfl
      replace ha := Aside0.mk ha
      have B0 := Aside0.mk Q_B0
      have L0 := Aside0.mk Q_L0
      have K4 := Aside0.mk Q_K4
      have K6 := Aside0.mk Q_K6
      have K8 := Aside0.mk Q_K8
      refine value_ (w1 := w') (v := .bool true) (by rfl) rfl ?_ ?_
      · go_simp
        (try simp only [i64_w])
        try rfl
      refine hK.out _ _ ⟨(by rw [ha.out]; exact putSel_upk 40 hb_ rfl rfl rfl), Q_B0, Q_L0, Q_K4, Q_K6, Q_K8⟩
    exact steps_nil
  rintro b a wl hall ⟨ha, Q_B0, Q_L0, Q_K4, Q_K6, Q_K8⟩
  clear B0 K4 K6 K8 L0
  have hb0_ := hall 0 (by kernel_rfl)
  have hb1_ := hall 1 (by kernel_rfl)
  have hb2_ := hall 2 (by kernel_rfl)
  have hb3_ := hall 3 (by kernel_rfl)
  have hb4_ := hall 4 (by kernel_rfl)
  have hb5_ := hall 5 (by kernel_rfl)
  have hb6_ := hall 6 (by kernel_rfl)
  have hb7_ := hall 7 (by kernel_rfl)
  have hb8_ := hall 8 (by kernel_rfl)
  have hb9_ := hall 9 (by kernel_rfl)
  have hb10_ := hall 10 (by kernel_rfl)
  have hb11_ := hall 11 (by kernel_rfl)
  have hb12_ := hall 12 (by kernel_rfl)
  have hb13_ := hall 13 (by kernel_rfl)
  have hb14_ := hall 14 (by kernel_rfl)
  have hb15_ := hall 15 (by kernel_rfl)
  have hb16_ := hall 16 (by kernel_rfl)
  have hb17_ := hall 17 (by kernel_rfl)
  have hb18_ := hall 18 (by kernel_rfl)
  have hb19_ := hall 19 (by kernel_rfl)
  have hb20_ := hall 20 (by kernel_rfl)
  have hb21_ := hall 21 (by kernel_rfl)
  have hb22_ := hall 22 (by kernel_rfl)
  have hb23_ := hall 23 (by kernel_rfl)
  have hb24_ := hall 24 (by kernel_rfl)
  have hb25_ := hall 25 (by kernel_rfl)
  have hb26_ := hall 26 (by kernel_rfl)
  have hb27_ := hall 27 (by kernel_rfl)
  have hb28_ := hall 28 (by kernel_rfl)
  have hb29_ := hall 29 (by kernel_rfl)
  have hb30_ := hall 30 (by kernel_rfl)
  have hb31_ := hall 31 (by kernel_rfl)
  have hb32_ := hall 32 (by kernel_rfl)
  have hb33_ := hall 33 (by kernel_rfl)
  have hb34_ := hall 34 (by kernel_rfl)
  have hb35_ := hall 35 (by kernel_rfl)
  have hb36_ := hall 36 (by kernel_rfl)
  have hb37_ := hall 37 (by kernel_rfl)
  have hb38_ := hall 38 (by kernel_rfl)
  have hb39_ := hall 39 (by kernel_rfl)
  have hb40_ := hall 40 (by kernel_rfl)
  subst ha
  simp only [putSel, hb0_, hb1_, hb2_, hb3_, hb4_, hb5_, hb6_, hb7_, hb8_, hb9_, hb10_, hb11_, hb12_, hb13_, hb14_, hb15_, hb16_, hb17_, hb18_, hb19_, hb20_, hb21_, hb22_, hb23_, hb24_, hb25_, hb26_, hb27_, hb28_, hb29_, hb30_, hb31_, hb32_, hb33_, hb34_, hb35_, hb36_, hb37_, hb38_, hb39_, hb40_, if_true, Act.put, List.setIfInBounds_toArray, List.set_cons_zero, List.set_cons_succ]
  have B0 := Aside0.mk Q_B0
  clear Q_B0
  have L0 := Aside0.mk Q_L0
  clear Q_L0
  have K4 := Aside0.mk Q_K4
  clear Q_K4
  have K6 := Aside0.mk Q_K6
  clear Q_K6
  have K8 := Aside0.mk Q_K8
  clear Q_K8
  clear hall hb0_ hb1_ hb2_ hb3_ hb4_ hb5_ hb6_ hb7_ hb8_ hb9_ hb10_ hb11_ hb12_ hb13_ hb14_ hb15_ hb16_ hb17_ hb18_ hb19_ hb20_ hb21_ hb22_ hb23_ hb24_ hb25_ hb26_ hb27_ hb28_ hb29_ hb30_ hb31_ hb32_ hb33_ hb34_ hb35_ hb36_ hb37_ hb38_ hb39_ hb40_
  go_wp2_with fail
  go_ret
  exact ⟨rfl, below_then HB8.out HB8.out.size B0.out⟩
end Go.Proofs.Ytnopjcakilfepaa.QS
