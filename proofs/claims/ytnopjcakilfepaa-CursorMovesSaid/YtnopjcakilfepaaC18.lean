/- The law CursorMoves: the walk by hand. -/
import Derived.Test.YtnopjcakilfepaaC17
namespace Go.Proofs.Ytnopjcakilfepaa.QS
set_option linter.unusedVariables false
set_option linter.unusedSimpArgs false
open Go.RowKit Go.Proofs.Ytnopjcakilfepaa.SS Go.Proofs.Ytnopjcakilfepaa.Hp Go.Proofs.YtnopjcakilfepaaW.PrintWords Go.Proofs.YtnopjcakilfepaaW.PrintLast Go.Proofs.YtnopjcakilfepaaW.PrintMore
set_option maxHeartbeats 2000000 in
set_option maxRecDepth 100000 in
theorem moves_calls (on pa : Bool) (id I n : Int) (is : Bool) (w : World) : Calls Try.prog 9 #[.agg #[.bool on, .bool pa, .int .u64 id, .int .i64 I], .int .u64 n, .bool is] w fun e w' => e = .returned (.bool true) ∧ Below w.heap.size w w' := by
  have hz0 := heap_alloc_new w (.cells #[.bool on, .bool pa, .int .u64 id, .int .i64 I] 65)
  have hb0 := below_alloc (Below.refl w.heap.size w) (.cells #[.bool on, .bool pa, .int .u64 id, .int .i64 I] 65)
  obtain ⟨g0, hg0⟩ : ∃ g0, g0 = w.heap.size := ⟨_, rfl⟩
  have HPA := Aside0.mk (fun W => pause_calls on pa id I is W)
  have HAW := Aside0.mk (fun W => awake33_calls W)
  have HDR := Aside0.mk (fun W => drop_calls on pa id I n W)
  go_enter Try.func9, Try.ntmps9
  go_upto_region 1 with fail
  rw [← hg0] at hz0 ⊢
  generalize w.alloc (.cells #[.bool on, .bool pa, .int .u64 id, .int .i64 I] 65) = W1 at hz0 hb0 ⊢
  replace hz0 := Aside0.mk hz0
  replace hb0 := Aside0.mk hb0
  clear hg0
  cases on with
  | false =>
    replace HDR : Aside0 (∀ W, Calls Try.prog 39 #[.agg #[.bool false, .bool pa, .int .u64 id, .int .i64 I], .int .u64 n] W fun e w' => e = .returned (.agg #[.bool false, .bool pa, .int .u64 id, .int .i64 I]) ∧ Below W.heap.size W w') := ⟨fun W => by have := HDR.out W; rwa [if_neg (by simp)] at this⟩
    have p0 := blk_cell hz0.out 0
    have p1 := blk_cell hz0.out 1
    have p2 := blk_cell hz0.out 2
    have p3 := blk_cell hz0.out 3
    go_upto_region 2 with (go_at_call 39; refine (HDR.out _).mono ?_; rintro e w2 ⟨rfl, hb⟩)
    have hb2 := below_alloc (below_then hb0.out hb0.out.size hb) (.cells #[.bool false, .bool pa, .int .u64 id, .int .i64 I] 65)
    have hz2 := blk_alloc (blk_below hz0.out hb) (.cells #[.bool false, .bool pa, .int .u64 id, .int .i64 I] 65)
    have K7 := heap_alloc_new w2 (.cells #[.bool false, .bool pa, .int .u64 id, .int .i64 I] 65)
    generalize w2.alloc (.cells #[.bool false, .bool pa, .int .u64 id, .int .i64 I] 65) = W2 at hb2 hz2 K7 ⊢
    generalize w2.heap.size = h7 at K7 ⊢
    clear p0 p1 p2 p3 hb hz0 hb0
    have p0 := blk_cell hz2 0
    have p1 := blk_cell hz2 1
    have p2 := blk_cell hz2 2
    have p3 := blk_cell hz2 3
    have HS2 := Aside0.mk hb2.size
    have HH7 := Aside0.mk (blk_lt K7)
    have hb3 := below_alloc hb2 (.cells #[.bool false, .bool pa, .int .u64 id, .int .i64 I] 65)
    have hz3 := blk_alloc hz2 (.cells #[.bool false, .bool pa, .int .u64 id, .int .i64 I] 65)
    have K73 := blk_alloc K7 (.cells #[.bool false, .bool pa, .int .u64 id, .int .i64 I] 65)
    have K8 := heap_alloc_new W2 (.cells #[.bool false, .bool pa, .int .u64 id, .int .i64 I] 65)
    have HG8 : Aside0 (w.heap.size ≤ W2.heap.size ∧ h7 ≠ W2.heap.size ∧ g0 ≠ W2.heap.size) := ⟨HS2.out, Nat.ne_of_lt HH7.out, Nat.ne_of_lt (blk_lt hz2)⟩
    go_upto_region 3 with fail
    generalize W2.alloc (.cells #[.bool false, .bool pa, .int .u64 id, .int .i64 I] 65) = W3 at hb3 hz3 K73 K8 ⊢
    generalize W2.heap.size = h8 at K8 HG8 ⊢
    clear p0 p1 p2 p3 hb2 hz2 K7 HS2 HH7
    have p0 := blk_cell hz3 0
    have p1 := blk_cell hz3 1
    have p2 := blk_cell hz3 2
    have p3 := blk_cell hz3 3
    go_upto_region 5 with fail
    have K84 := K8
    have hb4 := hb3
    have hz4 := hz3
    have K74 := K73
    clear p0 p1 p2 p3 hb3 hz3 K8 K73
    replace K84 := Aside0.mk K84
    replace hb4 := Aside0.mk hb4
    replace hz4 := Aside0.mk hz4
    replace K74 := Aside0.mk K74
    have p0 := blk_cell hz4.out 0
    have p1 := blk_cell hz4.out 1
    have p2 := blk_cell hz4.out 2
    have p3 := blk_cell hz4.out 3
    go_upto_region 6 with (go_at_call 40; refine (HPA.out _).mono ?_; rintro e w5 ⟨rfl, hb⟩)
    have hb6 := Aside0.mk (below_alloc (below_then hb4.out hb4.out.size hb) (.cells #[.bool false, .bool is, .int .u64 id, .int .i64 I] 65))
    have hz6 := Aside0.mk (blk_alloc (blk_below hz4.out hb) (.cells #[.bool false, .bool is, .int .u64 id, .int .i64 I] 65))
    have K76 := Aside0.mk (blk_alloc (blk_below K74.out hb) (.cells #[.bool false, .bool is, .int .u64 id, .int .i64 I] 65))
    have K86 := Aside0.mk (blk_alloc (blk_below K84.out hb) (.cells #[.bool false, .bool is, .int .u64 id, .int .i64 I] 65))
    have K96 := Aside0.mk (heap_alloc_new w5 (.cells #[.bool false, .bool is, .int .u64 id, .int .i64 I] 65))
    generalize w5.alloc (.cells #[.bool false, .bool is, .int .u64 id, .int .i64 I] 65) = W6 at hb6 hz6 K76 K86 K96 ⊢
    generalize w5.heap.size = h9 at K96 ⊢
    clear p0 p1 p2 p3 hb hz4 hb4 K74 K84
    go_wp2_with (go_at_call 41; refine (HAW.out _).mono ?_; rintro e w7 ⟨rfl, hb⟩; have hz7 := blk_below hz6.out hb; have K77 := blk_below K76.out hb; have K87 := blk_below K86.out hb; have K97 := blk_below K96.out hb; have p0 := blk_cell hz7 0; have p1 := blk_cell hz7 1; have p2 := blk_cell hz7 2; have p3 := blk_cell hz7 3; have u0 := blk_cell K77 0; have u1 := blk_cell K77 1; have u2 := blk_cell K77 2; have u3 := blk_cell K77 3; have v0 := blk_cell K87 0; have v1 := blk_cell K87 1; have v2 := blk_cell K87 2; have v3 := blk_cell K87 3; have x0 := blk_cell K97 0; have x1 := blk_cell K97 1; have x2 := blk_cell K97 2; have x3 := blk_cell K97 3; have HB7 := Aside0.mk (below_then hb6.out hb6.out.size hb); clear hb hz7 K77 K87 K97)
    go_ret
    exact ⟨by first | rfl | simp, HB7.out⟩
  | true =>
    cases hq : (id == n) with
    | false =>
      replace HDR : Aside0 (∀ W, Calls Try.prog 39 #[.agg #[.bool true, .bool pa, .int .u64 id, .int .i64 I], .int .u64 n] W fun e w' => e = .returned (.agg #[.bool true, .bool pa, .int .u64 id, .int .i64 I]) ∧ Below W.heap.size W w') := ⟨fun W => by have := HDR.out W; rwa [if_neg (by simp [hq])] at this⟩
      have p0 := blk_cell hz0.out 0
      have p1 := blk_cell hz0.out 1
      have p2 := blk_cell hz0.out 2
      have p3 := blk_cell hz0.out 3
      go_upto_region 2 with (go_at_call 39; refine (HDR.out _).mono ?_; rintro e w2 ⟨rfl, hb⟩)
      have hb2 := below_alloc (below_then hb0.out hb0.out.size hb) (.cells #[.bool true, .bool pa, .int .u64 id, .int .i64 I] 65)
      have hz2 := blk_alloc (blk_below hz0.out hb) (.cells #[.bool true, .bool pa, .int .u64 id, .int .i64 I] 65)
      have K7 := heap_alloc_new w2 (.cells #[.bool true, .bool pa, .int .u64 id, .int .i64 I] 65)
      generalize w2.alloc (.cells #[.bool true, .bool pa, .int .u64 id, .int .i64 I] 65) = W2 at hb2 hz2 K7 ⊢
      generalize w2.heap.size = h7 at K7 ⊢
      clear p0 p1 p2 p3 hb hz0 hb0
      have p0 := blk_cell hz2 0
      have p1 := blk_cell hz2 1
      have p2 := blk_cell hz2 2
      have p3 := blk_cell hz2 3
      have HS2 := Aside0.mk hb2.size
      have HH7 := Aside0.mk (blk_lt K7)
      have hb3 := below_alloc hb2 (.cells #[.bool true, .bool pa, .int .u64 id, .int .i64 I] 65)
      have hz3 := blk_alloc hz2 (.cells #[.bool true, .bool pa, .int .u64 id, .int .i64 I] 65)
      have K73 := blk_alloc K7 (.cells #[.bool true, .bool pa, .int .u64 id, .int .i64 I] 65)
      have K8 := heap_alloc_new W2 (.cells #[.bool true, .bool pa, .int .u64 id, .int .i64 I] 65)
      have HG8 : Aside0 (w.heap.size ≤ W2.heap.size ∧ h7 ≠ W2.heap.size ∧ g0 ≠ W2.heap.size) := ⟨HS2.out, Nat.ne_of_lt HH7.out, Nat.ne_of_lt (blk_lt hz2)⟩
      go_upto_region 3 with fail
      generalize W2.alloc (.cells #[.bool true, .bool pa, .int .u64 id, .int .i64 I] 65) = W3 at hb3 hz3 K73 K8 ⊢
      generalize W2.heap.size = h8 at K8 HG8 ⊢
      clear p0 p1 p2 p3 hb2 hz2 K7 HS2 HH7
      have p0 := blk_cell hz3 0
      have p1 := blk_cell hz3 1
      have p2 := blk_cell hz3 2
      have p3 := blk_cell hz3 3
      go_upto_region 5 with fail
      have K84 := K8
      have hb4 := hb3
      have hz4 := hz3
      have K74 := K73
      clear p0 p1 p2 p3 hb3 hz3 K8 K73
      replace K84 := Aside0.mk K84
      replace hb4 := Aside0.mk hb4
      replace hz4 := Aside0.mk hz4
      replace K74 := Aside0.mk K74
      have p0 := blk_cell hz4.out 0
      have p1 := blk_cell hz4.out 1
      have p2 := blk_cell hz4.out 2
      have p3 := blk_cell hz4.out 3
      go_upto_region 6 with (go_at_call 40; refine (HPA.out _).mono ?_; rintro e w5 ⟨rfl, hb⟩)
      have hb6 := Aside0.mk (below_alloc (below_then hb4.out hb4.out.size hb) (.cells #[.bool true, .bool is, .int .u64 id, .int .i64 I] 65))
      have hz6 := Aside0.mk (blk_alloc (blk_below hz4.out hb) (.cells #[.bool true, .bool is, .int .u64 id, .int .i64 I] 65))
      have K76 := Aside0.mk (blk_alloc (blk_below K74.out hb) (.cells #[.bool true, .bool is, .int .u64 id, .int .i64 I] 65))
      have K86 := Aside0.mk (blk_alloc (blk_below K84.out hb) (.cells #[.bool true, .bool is, .int .u64 id, .int .i64 I] 65))
      have K96 := Aside0.mk (heap_alloc_new w5 (.cells #[.bool true, .bool is, .int .u64 id, .int .i64 I] 65))
      generalize w5.alloc (.cells #[.bool true, .bool is, .int .u64 id, .int .i64 I] 65) = W6 at hb6 hz6 K76 K86 K96 ⊢
      generalize w5.heap.size = h9 at K96 ⊢
      clear p0 p1 p2 p3 hb hz4 hb4 K74 K84
      go_wp2_with (go_at_call 41; refine (HAW.out _).mono ?_; rintro e w7 ⟨rfl, hb⟩; have hz7 := blk_below hz6.out hb; have K77 := blk_below K76.out hb; have K87 := blk_below K86.out hb; have K97 := blk_below K96.out hb; have p0 := blk_cell hz7 0; have p1 := blk_cell hz7 1; have p2 := blk_cell hz7 2; have p3 := blk_cell hz7 3; have u0 := blk_cell K77 0; have u1 := blk_cell K77 1; have u2 := blk_cell K77 2; have u3 := blk_cell K77 3; have v0 := blk_cell K87 0; have v1 := blk_cell K87 1; have v2 := blk_cell K87 2; have v3 := blk_cell K87 3; have x0 := blk_cell K97 0; have x1 := blk_cell K97 1; have x2 := blk_cell K97 2; have x3 := blk_cell K97 3; have HB7 := Aside0.mk (below_then hb6.out hb6.out.size hb); clear hb hz7 K77 K87 K97)
      go_ret
      exact ⟨by first | rfl | simp, HB7.out⟩
    | true =>
      replace HDR : Aside0 (∀ W, Calls Try.prog 39 #[.agg #[.bool true, .bool pa, .int .u64 id, .int .i64 I], .int .u64 n] W fun e w' => e = .returned (.agg #[.bool false, .bool pa, .int .u64 0, .int .i64 0]) ∧ Below W.heap.size W w') := ⟨fun W => by have := HDR.out W; rwa [if_pos (by simp [hq])] at this⟩
      have p0 := blk_cell hz0.out 0
      have p1 := blk_cell hz0.out 1
      have p2 := blk_cell hz0.out 2
      have p3 := blk_cell hz0.out 3
      go_upto_region 2 with (go_at_call 39; refine (HDR.out _).mono ?_; rintro e w2 ⟨rfl, hb⟩)
      have hb2 := below_alloc (below_then hb0.out hb0.out.size hb) (.cells #[.bool false, .bool pa, .int .u64 0, .int .i64 0] 65)
      have hz2 := blk_alloc (blk_below hz0.out hb) (.cells #[.bool false, .bool pa, .int .u64 0, .int .i64 0] 65)
      have K7 := heap_alloc_new w2 (.cells #[.bool false, .bool pa, .int .u64 0, .int .i64 0] 65)
      generalize w2.alloc (.cells #[.bool false, .bool pa, .int .u64 0, .int .i64 0] 65) = W2 at hb2 hz2 K7 ⊢
      generalize w2.heap.size = h7 at K7 ⊢
      clear p0 p1 p2 p3 hb hz0 hb0
      have p0 := blk_cell hz2 0
      have p1 := blk_cell hz2 1
      have p2 := blk_cell hz2 2
      have p3 := blk_cell hz2 3
      have HS2 := Aside0.mk hb2.size
      have HH7 := Aside0.mk (blk_lt K7)
      have hb3 := below_alloc hb2 (.cells #[.bool true, .bool pa, .int .u64 id, .int .i64 I] 65)
      have hz3 := blk_alloc hz2 (.cells #[.bool true, .bool pa, .int .u64 id, .int .i64 I] 65)
      have K73 := blk_alloc K7 (.cells #[.bool true, .bool pa, .int .u64 id, .int .i64 I] 65)
      have K8 := heap_alloc_new W2 (.cells #[.bool true, .bool pa, .int .u64 id, .int .i64 I] 65)
      have HG8 : Aside0 (w.heap.size ≤ W2.heap.size ∧ h7 ≠ W2.heap.size ∧ g0 ≠ W2.heap.size) := ⟨HS2.out, Nat.ne_of_lt HH7.out, Nat.ne_of_lt (blk_lt hz2)⟩
      go_upto_region 3 with fail
      generalize W2.alloc (.cells #[.bool true, .bool pa, .int .u64 id, .int .i64 I] 65) = W3 at hb3 hz3 K73 K8 ⊢
      generalize W2.heap.size = h8 at K8 HG8 ⊢
      clear p0 p1 p2 p3 hb2 hz2 K7 HS2 HH7
      have p0 := blk_cell hz3 0
      have p1 := blk_cell hz3 1
      have p2 := blk_cell hz3 2
      have p3 := blk_cell hz3 3
      have d0 := blk_cell K8 0
      have e0 := blk_frozen K8 0
      have d1 := blk_cell K8 1
      have e1 := blk_frozen K8 1
      have d2 := blk_cell K8 2
      have e2 := blk_frozen K8 2
      have d3 := blk_cell K8 3
      have e3 := blk_frozen K8 3
      have K84 := put4_blk K8 false pa 0 0
      have hb4 := put4_below hb3 HG8.out.1 false pa 0 0
      have hz4 := blk_far (blk_far (blk_far (blk_far hz3 (p := ⟨h8, 0, none⟩) HG8.out.2.2 (.bool false)) (p := ⟨h8, 1, none⟩) HG8.out.2.2 (.bool pa)) (p := ⟨h8, 2, none⟩) HG8.out.2.2 (.int .u64 0)) (p := ⟨h8, 3, none⟩) HG8.out.2.2 (.int .i64 0)
      have K74 := blk_far (blk_far (blk_far (blk_far K73 (p := ⟨h8, 0, none⟩) HG8.out.2.1 (.bool false)) (p := ⟨h8, 1, none⟩) HG8.out.2.1 (.bool pa)) (p := ⟨h8, 2, none⟩) HG8.out.2.1 (.int .u64 0)) (p := ⟨h8, 3, none⟩) HG8.out.2.1 (.int .i64 0)
      go_upto_region 5 with fail
      generalize ((((W3.setCell ⟨h8, 0, none⟩ (.bool false)).setCell ⟨h8, 1, none⟩ (.bool pa)).setCell ⟨h8, 2, none⟩ (.int .u64 0)).setCell ⟨h8, 3, none⟩ (.int .i64 0)) = W4 at K84 hb4 hz4 K74 ⊢
      clear d0 d1 d2 d3 e0 e1 e2 e3 p0 p1 p2 p3 hb3 hz3 K8 K73
      replace K84 := Aside0.mk K84
      replace hb4 := Aside0.mk hb4
      replace hz4 := Aside0.mk hz4
      replace K74 := Aside0.mk K74
      have p0 := blk_cell hz4.out 0
      have p1 := blk_cell hz4.out 1
      have p2 := blk_cell hz4.out 2
      have p3 := blk_cell hz4.out 3
      go_upto_region 6 with (go_at_call 40; refine (HPA.out _).mono ?_; rintro e w5 ⟨rfl, hb⟩)
      have hb6 := Aside0.mk (below_alloc (below_then hb4.out hb4.out.size hb) (.cells #[.bool true, .bool is, .int .u64 id, .int .i64 I] 65))
      have hz6 := Aside0.mk (blk_alloc (blk_below hz4.out hb) (.cells #[.bool true, .bool is, .int .u64 id, .int .i64 I] 65))
      have K76 := Aside0.mk (blk_alloc (blk_below K74.out hb) (.cells #[.bool true, .bool is, .int .u64 id, .int .i64 I] 65))
      have K86 := Aside0.mk (blk_alloc (blk_below K84.out hb) (.cells #[.bool true, .bool is, .int .u64 id, .int .i64 I] 65))
      have K96 := Aside0.mk (heap_alloc_new w5 (.cells #[.bool true, .bool is, .int .u64 id, .int .i64 I] 65))
      generalize w5.alloc (.cells #[.bool true, .bool is, .int .u64 id, .int .i64 I] 65) = W6 at hb6 hz6 K76 K86 K96 ⊢
      generalize w5.heap.size = h9 at K96 ⊢
      clear p0 p1 p2 p3 hb hz4 hb4 K74 K84
      go_wp2_with (go_at_call 41; refine (HAW.out _).mono ?_; rintro e w7 ⟨rfl, hb⟩; have hz7 := blk_below hz6.out hb; have K77 := blk_below K76.out hb; have K87 := blk_below K86.out hb; have K97 := blk_below K96.out hb; have p0 := blk_cell hz7 0; have p1 := blk_cell hz7 1; have p2 := blk_cell hz7 2; have p3 := blk_cell hz7 3; have u0 := blk_cell K77 0; have u1 := blk_cell K77 1; have u2 := blk_cell K77 2; have u3 := blk_cell K77 3; have v0 := blk_cell K87 0; have v1 := blk_cell K87 1; have v2 := blk_cell K87 2; have v3 := blk_cell K87 3; have x0 := blk_cell K97 0; have x1 := blk_cell K97 1; have x2 := blk_cell K97 2; have x3 := blk_cell K97 3; have HB7 := Aside0.mk (below_then hb6.out hb6.out.size hb); clear hb hz7 K77 K87 K97)
      go_ret
      exact ⟨by first | rfl | simp, HB7.out⟩
end Go.Proofs.Ytnopjcakilfepaa.QS
