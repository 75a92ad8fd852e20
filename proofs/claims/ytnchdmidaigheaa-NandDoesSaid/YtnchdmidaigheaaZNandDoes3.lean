/- Parts of the proof of the statement NandDoes, laid together (4 of 7). -/
import Derived.Test.YtnchdmidaigheaaZNandDoes2
namespace Go.Proofs.Ytnchdmidaigheaa.Hp
open Go.RowKit Go.Proofs.YtnchdmidaigheaaW.PrintWords Go.Proofs.YtnchdmidaigheaaW.PrintLast Go.Proofs.YtnchdmidaigheaaW.PrintMore
attribute [local go_sem] max2_int min2_int max_two min_two max_three min_three max_four min_four   -- for this text's walks alone
set_option linter.unusedVariables false
set_option linter.unusedSimpArgs false
def geom_Place.f (a0_0 : Int) (a0_1 : Int) (a0_2 : Int) (a1_0 : Int) (a1_1 : Int) : Option (Int) := (geom_Check.f a0_0 a0_1 a0_2).bind fun t115 => (if t115 = 0 then (if a1_0 < 0 then (some (-1)) else (if a1_0 ≥ a0_0 then (some (-1)) else (if a1_1 < 0 then (some (-1)) else (if a1_1 ≥ a0_1 then (some (-1)) else (some (wrap64 ((wrap64 (a1_0 * a0_1)) + a1_1))))))) else (some (-1)))
set_option maxHeartbeats 8000000 in
set_option maxRecDepth 100000 in
theorem geom_Place.calls (a0_0 : Int) (a0_1 : Int) (a0_2 : Int) (a1_0 : Int) (a1_1 : Int) (r : Int) (w : World) (h : geom_Place.f a0_0 a0_1 a0_2 a1_0 a1_1 = some r) :
    Calls Try.prog 69 #[.agg #[.int .i64 a0_0, .int .i64 a0_1, .int .i64 a0_2], .agg #[.int .i64 a1_0, .int .i64 a1_1]] w fun e w' => e = .returned (.int .i64 r) ∧ Below w.heap.size w w' := by
  have hu23 := Try.underlying23
  have hu37 := Try.underlying37
  have HB := Aside0.mk (Below.refl w.heap.size w)
  have H : ((geom_Check.f a0_0 a0_1 a0_2).bind fun t115 => (if t115 = 0 then (if a1_0 < 0 then (some (-1)) else (if a1_0 ≥ a0_0 then (some (-1)) else (if a1_1 < 0 then (some (-1)) else (if a1_1 ≥ a0_1 then (some (-1)) else (some (wrap64 ((wrap64 (a1_0 * a0_1)) + a1_1))))))) else (some (-1)))) = some r := h
  clear h
  replace H := Option.bind_eq_some_iff.mp H
  obtain ⟨t115, A30, H⟩ := H
  replace H : (if t115 = 0 then (if a1_0 < 0 then (some (-1)) else (if a1_0 ≥ a0_0 then (some (-1)) else (if a1_1 < 0 then (some (-1)) else (if a1_1 ≥ a0_1 then (some (-1)) else (some (wrap64 ((wrap64 (a1_0 * a0_1)) + a1_1))))))) else (some (-1))) = some r := H
  have A3 := Aside0.mk A30
  clear A30
  by_cases c4 : t115 = 0
  · rw [if_pos c4] at H
    have c4b0 : (t115 == 0) = true := beq_iff_eq.mpr c4
    have c4b1 : (t115 != 0) = false := bne_eq_false_iff_eq.mpr c4
    clear c4
    by_cases c5 : a1_0 < 0
    · rw [if_pos c5] at H
      have c5b0 : decide (a1_0 < 0) = true := decide_eq_true c5
      clear c5
      obtain rfl := Option.some.inj H
      go_enter Try.func69, Try.ntmps69
      go_wp2_with (first | ((with_reducible refine gate_dst (N := 2) rfl ?_); refine box_event ?hg (N := 2) ?hd (cs := #[.int .i64 a0_0, .int .i64 a0_1, .int .i64 a0_2]) (t := 23) ?hr ?_; (case hd => rfl); (case hg => rfl); (case hr => first | (go_simp; done) | (go_simp; rfl)); intro gb113 hg w6 hbox hb; have n0_ := Aside0.mk (below_step (by repeat (first | (with_reducible first | exact HB.out | apply below_alloc | apply pw_below_drewN | apply below_drew1) | exact HB.out)) hb); have n1_ := Aside0.mk (hbox); have n2_ := Aside0.mk ((by rw [hg]; exact (below_size (by repeat (first | (with_reducible first | exact HB.out | apply below_alloc | apply pw_below_drewN | apply below_drew1) | exact HB.out))) : w.heap.size ≤ gb113)); have n3_ := Aside0.mk ((by rw [hg]; exact (below_size (by repeat (first | (with_reducible first | exact HB.out | apply below_alloc | apply pw_below_drewN | apply below_drew1) | exact HB.out))) : w.heap.size ≤ gb113)); clear HB; have HB := n0_; have BK113 := n1_; have GW113 := n2_; have GE113 := n3_; clear n0_ n1_ n2_ n3_; clear hb hbox hg) | ((with_reducible refine gate_dst (N := 3) rfl ?_); refine box_event ?hg (N := 3) ?hd (cs := #[.int .i64 a1_0, .int .i64 a1_1]) (t := 37) ?hr ?_; (case hd => rfl); (case hg => rfl); (case hr => first | (go_simp; done) | (go_simp; rfl)); intro gb114 hg w7 hbox hb; have n0_ := Aside0.mk (blk_below (g := gb113) (o := .cells #[.int .i64 a0_0, .int .i64 a0_1, .int .i64 a0_2] 23 (0, 0)) (by (with_reducible repeat (first | refine blk_drewN ?_ _ | refine blk_drew ?_ | refine blk_alloc ?_ _)); exact BK113.out) hb); have n1_ := Aside0.mk (below_step (by repeat (first | (with_reducible first | exact HB.out | apply below_alloc | apply pw_below_drewN | apply below_drew1 | refine below_set ?_ GE113.out) | exact HB.out)) hb); have n2_ := Aside0.mk (hbox); have n3_ := Aside0.mk ((by rw [hg]; exact (below_size (by repeat (first | (with_reducible first | exact HB.out | apply below_alloc | apply pw_below_drewN | apply below_drew1 | refine below_set ?_ GE113.out) | exact HB.out))) : w.heap.size ≤ gb114)); have n4_ := Aside0.mk ((by rw [hg]; exact (below_size (by repeat (first | (with_reducible first | exact HB.out | apply below_alloc | apply pw_below_drewN | apply below_drew1 | refine below_set ?_ GE113.out) | exact HB.out))) : w.heap.size ≤ gb114)); have n5_ := Aside0.mk ((by rw [hg]; exact Nat.ne_of_lt (blk_lt (g := gb113) (o := .cells #[.int .i64 a0_0, .int .i64 a0_1, .int .i64 a0_2] 23 (0, 0)) (by (with_reducible repeat (first | refine blk_drewN ?_ _ | refine blk_drew ?_ | refine blk_alloc ?_ _)); exact BK113.out)) : gb113 ≠ gb114)); have n6_ := Aside0.mk ((by rw [hg]; exact Nat.ne_of_gt (blk_lt (g := gb113) (o := .cells #[.int .i64 a0_0, .int .i64 a0_1, .int .i64 a0_2] 23 (0, 0)) (by (with_reducible repeat (first | refine blk_drewN ?_ _ | refine blk_drew ?_ | refine blk_alloc ?_ _)); exact BK113.out)) : gb114 ≠ gb113)); clear BK113; clear HB; have BK113 := n0_; have HB := n1_; have BK114 := n2_; have GW114 := n3_; have GE114 := n4_; have NB113_114 := n5_; have NB114_113 := n6_; clear n0_ n1_ n2_ n3_ n4_ n5_ n6_; clear hb hbox hg; have hnb8 := NB113_114.out; have hnc8 := NB114_113.out; have hcz9_0 : w7.cell? ⟨gb113, 0, none⟩ = some (.int .i64 a0_0) := (blk_cell BK113.out 0).trans rfl; have hcz9_1 : w7.cell? ⟨gb113, 1, none⟩ = some (.int .i64 a0_1) := (blk_cell BK113.out 1).trans rfl; have hcz9_2 : w7.cell? ⟨gb113, 2, none⟩ = some (.int .i64 a0_2) := (blk_cell BK113.out 2).trans rfl; have hfz9_0 := blk_frozen BK113.out 0; have hfz9_1 := blk_frozen BK113.out 1; have hfz9_2 := blk_frozen BK113.out 2) | ((with_reducible refine gate_callee (f := 60) rfl ?_); refine goesL_ (some 6) rfl rfl Try.func60 (by kernel_rfl) rfl #[.agg #[.int .i64 a0_0, .int .i64 a0_1, .int .i64 a0_2]] rfl (by (try simp only [List.map_toArray, List.map_cons, List.map_nil]); first | done | rfl | (simp only [List.length_drop, List.length_take]; rfl)) ?_; (with_reducible refine (geom_Check.calls a0_0 a0_1 a0_2 t115 _ A3.out).mono ?_); rintro e w10 ⟨rfl, hb⟩; refine ⟨_, rfl, ?_⟩; have n0_ := Aside0.mk (blk_below (g := gb113) (o := .cells #[.int .i64 a0_0, .int .i64 a0_1, .int .i64 a0_2] 23 (0, 0)) (by (with_reducible repeat (first | refine blk_drewN ?_ _ | refine blk_drew ?_ | refine blk_alloc ?_ _)); exact BK113.out) hb); have n1_ := Aside0.mk (blk_below (g := gb114) (o := .cells #[.int .i64 a1_0, .int .i64 a1_1] 37 (0, 0)) (by (with_reducible repeat (first | refine blk_drewN ?_ _ | refine blk_drew ?_ | refine blk_alloc ?_ _)); exact BK114.out) hb); have n2_ := Aside0.mk (below_step (by repeat (first | (with_reducible first | exact HB.out | apply below_alloc | apply pw_below_drewN | apply below_drew1 | refine below_set ?_ GE113.out | refine below_set ?_ GE114.out) | exact HB.out)) hb); clear BK113; clear BK114; clear HB; have BK113 := n0_; have BK114 := n1_; have HB := n2_; clear n0_ n1_ n2_; (try clear hb); (try clear hb2); (try clear hk); (try clear hi); have hcz11_0 : w10.cell? ⟨gb114, 0, none⟩ = some (.int .i64 a1_0) := (blk_cell BK114.out 0).trans rfl; have hcz11_1 : w10.cell? ⟨gb114, 1, none⟩ = some (.int .i64 a1_1) := (blk_cell BK114.out 1).trans rfl; have hfz11_0 := blk_frozen BK114.out 0; have hfz11_1 := blk_frozen BK114.out 1))
      go_ret
      exact ⟨by first | rfl | (simp [errW_none, errW_some] <;> rfl) | (simp [*, errW_none, errW_some] <;> rfl), by repeat (first | (with_reducible first | exact HB.out | apply below_alloc | apply pw_below_drewN | apply below_drew1 | refine below_set ?_ GE113.out | refine below_set ?_ GE114.out) | exact HB.out)⟩
    · rw [if_neg c5] at H
      have c5b0 : decide (a1_0 < 0) = false := decide_eq_false c5
      clear c5
      by_cases c12 : a1_0 ≥ a0_0
      · rw [if_pos c12] at H
        have c12b0 : decide (a0_0 ≤ a1_0) = true := decide_eq_true c12
        clear c12
        obtain rfl := Option.some.inj H
        go_enter Try.func69, Try.ntmps69
        go_wp2_with (first | ((with_reducible refine gate_dst (N := 2) rfl ?_); refine box_event ?hg (N := 2) ?hd (cs := #[.int .i64 a0_0, .int .i64 a0_1, .int .i64 a0_2]) (t := 23) ?hr ?_; (case hd => rfl); (case hg => rfl); (case hr => first | (go_simp; done) | (go_simp; rfl)); intro gb113 hg w13 hbox hb; have n0_ := Aside0.mk (below_step (by repeat (first | (with_reducible first | exact HB.out | apply below_alloc | apply pw_below_drewN | apply below_drew1) | exact HB.out)) hb); have n1_ := Aside0.mk (hbox); have n2_ := Aside0.mk ((by rw [hg]; exact (below_size (by repeat (first | (with_reducible first | exact HB.out | apply below_alloc | apply pw_below_drewN | apply below_drew1) | exact HB.out))) : w.heap.size ≤ gb113)); have n3_ := Aside0.mk ((by rw [hg]; exact (below_size (by repeat (first | (with_reducible first | exact HB.out | apply below_alloc | apply pw_below_drewN | apply below_drew1) | exact HB.out))) : w.heap.size ≤ gb113)); clear HB; have HB := n0_; have BK113 := n1_; have GW113 := n2_; have GE113 := n3_; clear n0_ n1_ n2_ n3_; clear hb hbox hg) | ((with_reducible refine gate_dst (N := 3) rfl ?_); refine box_event ?hg (N := 3) ?hd (cs := #[.int .i64 a1_0, .int .i64 a1_1]) (t := 37) ?hr ?_; (case hd => rfl); (case hg => rfl); (case hr => first | (go_simp; done) | (go_simp; rfl)); intro gb114 hg w14 hbox hb; have n0_ := Aside0.mk (blk_below (g := gb113) (o := .cells #[.int .i64 a0_0, .int .i64 a0_1, .int .i64 a0_2] 23 (0, 0)) (by (with_reducible repeat (first | refine blk_drewN ?_ _ | refine blk_drew ?_ | refine blk_alloc ?_ _)); exact BK113.out) hb); have n1_ := Aside0.mk (below_step (by repeat (first | (with_reducible first | exact HB.out | apply below_alloc | apply pw_below_drewN | apply below_drew1 | refine below_set ?_ GE113.out) | exact HB.out)) hb); have n2_ := Aside0.mk (hbox); have n3_ := Aside0.mk ((by rw [hg]; exact (below_size (by repeat (first | (with_reducible first | exact HB.out | apply below_alloc | apply pw_below_drewN | apply below_drew1 | refine below_set ?_ GE113.out) | exact HB.out))) : w.heap.size ≤ gb114)); have n4_ := Aside0.mk ((by rw [hg]; exact (below_size (by repeat (first | (with_reducible first | exact HB.out | apply below_alloc | apply pw_below_drewN | apply below_drew1 | refine below_set ?_ GE113.out) | exact HB.out))) : w.heap.size ≤ gb114)); have n5_ := Aside0.mk ((by rw [hg]; exact Nat.ne_of_lt (blk_lt (g := gb113) (o := .cells #[.int .i64 a0_0, .int .i64 a0_1, .int .i64 a0_2] 23 (0, 0)) (by (with_reducible repeat (first | refine blk_drewN ?_ _ | refine blk_drew ?_ | refine blk_alloc ?_ _)); exact BK113.out)) : gb113 ≠ gb114)); have n6_ := Aside0.mk ((by rw [hg]; exact Nat.ne_of_gt (blk_lt (g := gb113) (o := .cells #[.int .i64 a0_0, .int .i64 a0_1, .int .i64 a0_2] 23 (0, 0)) (by (with_reducible repeat (first | refine blk_drewN ?_ _ | refine blk_drew ?_ | refine blk_alloc ?_ _)); exact BK113.out)) : gb114 ≠ gb113)); clear BK113; clear HB; have BK113 := n0_; have HB := n1_; have BK114 := n2_; have GW114 := n3_; have GE114 := n4_; have NB113_114 := n5_; have NB114_113 := n6_; clear n0_ n1_ n2_ n3_ n4_ n5_ n6_; clear hb hbox hg; have hnb15 := NB113_114.out; have hnc15 := NB114_113.out; have hcz16_0 : w14.cell? ⟨gb113, 0, none⟩ = some (.int .i64 a0_0) := (blk_cell BK113.out 0).trans rfl; have hcz16_1 : w14.cell? ⟨gb113, 1, none⟩ = some (.int .i64 a0_1) := (blk_cell BK113.out 1).trans rfl; have hcz16_2 : w14.cell? ⟨gb113, 2, none⟩ = some (.int .i64 a0_2) := (blk_cell BK113.out 2).trans rfl; have hfz16_0 := blk_frozen BK113.out 0; have hfz16_1 := blk_frozen BK113.out 1; have hfz16_2 := blk_frozen BK113.out 2) | ((with_reducible refine gate_callee (f := 60) rfl ?_); refine goesL_ (some 6) rfl rfl Try.func60 (by kernel_rfl) rfl #[.agg #[.int .i64 a0_0, .int .i64 a0_1, .int .i64 a0_2]] rfl (by (try simp only [List.map_toArray, List.map_cons, List.map_nil]); first | done | rfl | (simp only [List.length_drop, List.length_take]; rfl)) ?_; (with_reducible refine (geom_Check.calls a0_0 a0_1 a0_2 t115 _ A3.out).mono ?_); rintro e w17 ⟨rfl, hb⟩; refine ⟨_, rfl, ?_⟩; have n0_ := Aside0.mk (blk_below (g := gb113) (o := .cells #[.int .i64 a0_0, .int .i64 a0_1, .int .i64 a0_2] 23 (0, 0)) (by (with_reducible repeat (first | refine blk_drewN ?_ _ | refine blk_drew ?_ | refine blk_alloc ?_ _)); exact BK113.out) hb); have n1_ := Aside0.mk (blk_below (g := gb114) (o := .cells #[.int .i64 a1_0, .int .i64 a1_1] 37 (0, 0)) (by (with_reducible repeat (first | refine blk_drewN ?_ _ | refine blk_drew ?_ | refine blk_alloc ?_ _)); exact BK114.out) hb); have n2_ := Aside0.mk (below_step (by repeat (first | (with_reducible first | exact HB.out | apply below_alloc | apply pw_below_drewN | apply below_drew1 | refine below_set ?_ GE113.out | refine below_set ?_ GE114.out) | exact HB.out)) hb); clear BK113; clear BK114; clear HB; have BK113 := n0_; have BK114 := n1_; have HB := n2_; clear n0_ n1_ n2_; (try clear hb); (try clear hb2); (try clear hk); (try clear hi); have hcz18_0 : w17.cell? ⟨gb114, 0, none⟩ = some (.int .i64 a1_0) := (blk_cell BK114.out 0).trans rfl; have hcz18_1 : w17.cell? ⟨gb114, 1, none⟩ = some (.int .i64 a1_1) := (blk_cell BK114.out 1).trans rfl; have hfz18_0 := blk_frozen BK114.out 0; have hfz18_1 := blk_frozen BK114.out 1; have hcz19_0 : w17.cell? ⟨gb113, 0, none⟩ = some (.int .i64 a0_0) := (blk_cell BK113.out 0).trans rfl; have hcz19_1 : w17.cell? ⟨gb113, 1, none⟩ = some (.int .i64 a0_1) := (blk_cell BK113.out 1).trans rfl; have hcz19_2 : w17.cell? ⟨gb113, 2, none⟩ = some (.int .i64 a0_2) := (blk_cell BK113.out 2).trans rfl; have hfz19_0 := blk_frozen BK113.out 0; have hfz19_1 := blk_frozen BK113.out 1; have hfz19_2 := blk_frozen BK113.out 2))
        go_ret
        exact ⟨by first | rfl | (simp [errW_none, errW_some] <;> rfl) | (simp [*, errW_none, errW_some] <;> rfl), by repeat (first | (with_reducible first | exact HB.out | apply below_alloc | apply pw_below_drewN | apply below_drew1 | refine below_set ?_ GE113.out | refine below_set ?_ GE114.out) | exact HB.out)⟩
      · rw [if_neg c12] at H
        have c12b0 : decide (a0_0 ≤ a1_0) = false := decide_eq_false c12
        clear c12
        by_cases c20 : a1_1 < 0
        · rw [if_pos c20] at H
          have c20b0 : decide (a1_1 < 0) = true := decide_eq_true c20
          clear c20
          obtain rfl := Option.some.inj H
          go_enter Try.func69, Try.ntmps69
          go_wp2_with (first | ((with_reducible refine gate_dst (N := 2) rfl ?_); refine box_event ?hg (N := 2) ?hd (cs := #[.int .i64 a0_0, .int .i64 a0_1, .int .i64 a0_2]) (t := 23) ?hr ?_; (case hd => rfl); (case hg => rfl); (case hr => first | (go_simp; done) | (go_simp; rfl)); intro gb113 hg w21 hbox hb; have n0_ := Aside0.mk (below_step (by repeat (first | (with_reducible first | exact HB.out | apply below_alloc | apply pw_below_drewN | apply below_drew1) | exact HB.out)) hb); have n1_ := Aside0.mk (hbox); have n2_ := Aside0.mk ((by rw [hg]; exact (below_size (by repeat (first | (with_reducible first | exact HB.out | apply below_alloc | apply pw_below_drewN | apply below_drew1) | exact HB.out))) : w.heap.size ≤ gb113)); have n3_ := Aside0.mk ((by rw [hg]; exact (below_size (by repeat (first | (with_reducible first | exact HB.out | apply below_alloc | apply pw_below_drewN | apply below_drew1) | exact HB.out))) : w.heap.size ≤ gb113)); clear HB; have HB := n0_; have BK113 := n1_; have GW113 := n2_; have GE113 := n3_; clear n0_ n1_ n2_ n3_; clear hb hbox hg) | ((with_reducible refine gate_dst (N := 3) rfl ?_); refine box_event ?hg (N := 3) ?hd (cs := #[.int .i64 a1_0, .int .i64 a1_1]) (t := 37) ?hr ?_; (case hd => rfl); (case hg => rfl); (case hr => first | (go_simp; done) | (go_simp; rfl)); intro gb114 hg w22 hbox hb; have n0_ := Aside0.mk (blk_below (g := gb113) (o := .cells #[.int .i64 a0_0, .int .i64 a0_1, .int .i64 a0_2] 23 (0, 0)) (by (with_reducible repeat (first | refine blk_drewN ?_ _ | refine blk_drew ?_ | refine blk_alloc ?_ _)); exact BK113.out) hb); have n1_ := Aside0.mk (below_step (by repeat (first | (with_reducible first | exact HB.out | apply below_alloc | apply pw_below_drewN | apply below_drew1 | refine below_set ?_ GE113.out) | exact HB.out)) hb); have n2_ := Aside0.mk (hbox); have n3_ := Aside0.mk ((by rw [hg]; exact (below_size (by repeat (first | (with_reducible first | exact HB.out | apply below_alloc | apply pw_below_drewN | apply below_drew1 | refine below_set ?_ GE113.out) | exact HB.out))) : w.heap.size ≤ gb114)); have n4_ := Aside0.mk ((by rw [hg]; exact (below_size (by repeat (first | (with_reducible first | exact HB.out | apply below_alloc | apply pw_below_drewN | apply below_drew1 | refine below_set ?_ GE113.out) | exact HB.out))) : w.heap.size ≤ gb114)); have n5_ := Aside0.mk ((by rw [hg]; exact Nat.ne_of_lt (blk_lt (g := gb113) (o := .cells #[.int .i64 a0_0, .int .i64 a0_1, .int .i64 a0_2] 23 (0, 0)) (by (with_reducible repeat (first | refine blk_drewN ?_ _ | refine blk_drew ?_ | refine blk_alloc ?_ _)); exact BK113.out)) : gb113 ≠ gb114)); have n6_ := Aside0.mk ((by rw [hg]; exact Nat.ne_of_gt (blk_lt (g := gb113) (o := .cells #[.int .i64 a0_0, .int .i64 a0_1, .int .i64 a0_2] 23 (0, 0)) (by (with_reducible repeat (first | refine blk_drewN ?_ _ | refine blk_drew ?_ | refine blk_alloc ?_ _)); exact BK113.out)) : gb114 ≠ gb113)); clear BK113; clear HB; have BK113 := n0_; have HB := n1_; have BK114 := n2_; have GW114 := n3_; have GE114 := n4_; have NB113_114 := n5_; have NB114_113 := n6_; clear n0_ n1_ n2_ n3_ n4_ n5_ n6_; clear hb hbox hg; have hnb23 := NB113_114.out; have hnc23 := NB114_113.out; have hcz24_0 : w22.cell? ⟨gb113, 0, none⟩ = some (.int .i64 a0_0) := (blk_cell BK113.out 0).trans rfl; have hcz24_1 : w22.cell? ⟨gb113, 1, none⟩ = some (.int .i64 a0_1) := (blk_cell BK113.out 1).trans rfl; have hcz24_2 : w22.cell? ⟨gb113, 2, none⟩ = some (.int .i64 a0_2) := (blk_cell BK113.out 2).trans rfl; have hfz24_0 := blk_frozen BK113.out 0; have hfz24_1 := blk_frozen BK113.out 1; have hfz24_2 := blk_frozen BK113.out 2) | ((with_reducible refine gate_callee (f := 60) rfl ?_); refine goesL_ (some 6) rfl rfl Try.func60 (by kernel_rfl) rfl #[.agg #[.int .i64 a0_0, .int .i64 a0_1, .int .i64 a0_2]] rfl (by (try simp only [List.map_toArray, List.map_cons, List.map_nil]); first | done | rfl | (simp only [List.length_drop, List.length_take]; rfl)) ?_; (with_reducible refine (geom_Check.calls a0_0 a0_1 a0_2 t115 _ A3.out).mono ?_); rintro e w25 ⟨rfl, hb⟩; refine ⟨_, rfl, ?_⟩; have n0_ := Aside0.mk (blk_below (g := gb113) (o := .cells #[.int .i64 a0_0, .int .i64 a0_1, .int .i64 a0_2] 23 (0, 0)) (by (with_reducible repeat (first | refine blk_drewN ?_ _ | refine blk_drew ?_ | refine blk_alloc ?_ _)); exact BK113.out) hb); have n1_ := Aside0.mk (blk_below (g := gb114) (o := .cells #[.int .i64 a1_0, .int .i64 a1_1] 37 (0, 0)) (by (with_reducible repeat (first | refine blk_drewN ?_ _ | refine blk_drew ?_ | refine blk_alloc ?_ _)); exact BK114.out) hb); have n2_ := Aside0.mk (below_step (by repeat (first | (with_reducible first | exact HB.out | apply below_alloc | apply pw_below_drewN | apply below_drew1 | refine below_set ?_ GE113.out | refine below_set ?_ GE114.out) | exact HB.out)) hb); clear BK113; clear BK114; clear HB; have BK113 := n0_; have BK114 := n1_; have HB := n2_; clear n0_ n1_ n2_; (try clear hb); (try clear hb2); (try clear hk); (try clear hi); have hcz26_0 : w25.cell? ⟨gb114, 0, none⟩ = some (.int .i64 a1_0) := (blk_cell BK114.out 0).trans rfl; have hcz26_1 : w25.cell? ⟨gb114, 1, none⟩ = some (.int .i64 a1_1) := (blk_cell BK114.out 1).trans rfl; have hfz26_0 := blk_frozen BK114.out 0; have hfz26_1 := blk_frozen BK114.out 1; have hcz27_0 : w25.cell? ⟨gb113, 0, none⟩ = some (.int .i64 a0_0) := (blk_cell BK113.out 0).trans rfl; have hcz27_1 : w25.cell? ⟨gb113, 1, none⟩ = some (.int .i64 a0_1) := (blk_cell BK113.out 1).trans rfl; have hcz27_2 : w25.cell? ⟨gb113, 2, none⟩ = some (.int .i64 a0_2) := (blk_cell BK113.out 2).trans rfl; have hfz27_0 := blk_frozen BK113.out 0; have hfz27_1 := blk_frozen BK113.out 1; have hfz27_2 := blk_frozen BK113.out 2))
          go_ret
          exact ⟨by first | rfl | (simp [errW_none, errW_some] <;> rfl) | (simp [*, errW_none, errW_some] <;> rfl), by repeat (first | (with_reducible first | exact HB.out | apply below_alloc | apply pw_below_drewN | apply below_drew1 | refine below_set ?_ GE113.out | refine below_set ?_ GE114.out) | exact HB.out)⟩
        · rw [if_neg c20] at H
          have c20b0 : decide (a1_1 < 0) = false := decide_eq_false c20
          clear c20
          by_cases c28 : a1_1 ≥ a0_1
          · rw [if_pos c28] at H
            have c28b0 : decide (a0_1 ≤ a1_1) = true := decide_eq_true c28
            clear c28
            obtain rfl := Option.some.inj H
            go_enter Try.func69, Try.ntmps69
            go_wp2_with (first | ((with_reducible refine gate_dst (N := 2) rfl ?_); refine box_event ?hg (N := 2) ?hd (cs := #[.int .i64 a0_0, .int .i64 a0_1, .int .i64 a0_2]) (t := 23) ?hr ?_; (case hd => rfl); (case hg => rfl); (case hr => first | (go_simp; done) | (go_simp; rfl)); intro gb113 hg w29 hbox hb; have n0_ := Aside0.mk (below_step (by repeat (first | (with_reducible first | exact HB.out | apply below_alloc | apply pw_below_drewN | apply below_drew1) | exact HB.out)) hb); have n1_ := Aside0.mk (hbox); have n2_ := Aside0.mk ((by rw [hg]; exact (below_size (by repeat (first | (with_reducible first | exact HB.out | apply below_alloc | apply pw_below_drewN | apply below_drew1) | exact HB.out))) : w.heap.size ≤ gb113)); have n3_ := Aside0.mk ((by rw [hg]; exact (below_size (by repeat (first | (with_reducible first | exact HB.out | apply below_alloc | apply pw_below_drewN | apply below_drew1) | exact HB.out))) : w.heap.size ≤ gb113)); clear HB; have HB := n0_; have BK113 := n1_; have GW113 := n2_; have GE113 := n3_; clear n0_ n1_ n2_ n3_; clear hb hbox hg) | ((with_reducible refine gate_dst (N := 3) rfl ?_); refine box_event ?hg (N := 3) ?hd (cs := #[.int .i64 a1_0, .int .i64 a1_1]) (t := 37) ?hr ?_; (case hd => rfl); (case hg => rfl); (case hr => first | (go_simp; done) | (go_simp; rfl)); intro gb114 hg w30 hbox hb; have n0_ := Aside0.mk (blk_below (g := gb113) (o := .cells #[.int .i64 a0_0, .int .i64 a0_1, .int .i64 a0_2] 23 (0, 0)) (by (with_reducible repeat (first | refine blk_drewN ?_ _ | refine blk_drew ?_ | refine blk_alloc ?_ _)); exact BK113.out) hb); have n1_ := Aside0.mk (below_step (by repeat (first | (with_reducible first | exact HB.out | apply below_alloc | apply pw_below_drewN | apply below_drew1 | refine below_set ?_ GE113.out) | exact HB.out)) hb); have n2_ := Aside0.mk (hbox); have n3_ := Aside0.mk ((by rw [hg]; exact (below_size (by repeat (first | (with_reducible first | exact HB.out | apply below_alloc | apply pw_below_drewN | apply below_drew1 | refine below_set ?_ GE113.out) | exact HB.out))) : w.heap.size ≤ gb114)); have n4_ := Aside0.mk ((by rw [hg]; exact (below_size (by repeat (first | (with_reducible first | exact HB.out | apply below_alloc | apply pw_below_drewN | apply below_drew1 | refine below_set ?_ GE113.out) | exact HB.out))) : w.heap.size ≤ gb114)); have n5_ := Aside0.mk ((by rw [hg]; exact Nat.ne_of_lt (blk_lt (g := gb113) (o := .cells #[.int .i64 a0_0, .int .i64 a0_1, .int .i64 a0_2] 23 (0, 0)) (by (with_reducible repeat (first | refine blk_drewN ?_ _ | refine blk_drew ?_ | refine blk_alloc ?_ _)); exact BK113.out)) : gb113 ≠ gb114)); have n6_ := Aside0.mk ((by rw [hg]; exact Nat.ne_of_gt (blk_lt (g := gb113) (o := .cells #[.int .i64 a0_0, .int .i64 a0_1, .int .i64 a0_2] 23 (0, 0)) (by (with_reducible repeat (first | refine blk_drewN ?_ _ | refine blk_drew ?_ | refine blk_alloc ?_ _)); exact BK113.out)) : gb114 ≠ gb113)); clear BK113; clear HB; have BK113 := n0_; have HB := n1_; have BK114 := n2_; have GW114 := n3_; have GE114 := n4_; have NB113_114 := n5_; have NB114_113 := n6_; clear n0_ n1_ n2_ n3_ n4_ n5_ n6_; clear hb hbox hg; have hnb31 := NB113_114.out; have hnc31 := NB114_113.out; have hcz32_0 : w30.cell? ⟨gb113, 0, none⟩ = some (.int .i64 a0_0) := (blk_cell BK113.out 0).trans rfl; have hcz32_1 : w30.cell? ⟨gb113, 1, none⟩ = some (.int .i64 a0_1) := (blk_cell BK113.out 1).trans rfl; have hcz32_2 : w30.cell? ⟨gb113, 2, none⟩ = some (.int .i64 a0_2) := (blk_cell BK113.out 2).trans rfl; have hfz32_0 := blk_frozen BK113.out 0; have hfz32_1 := blk_frozen BK113.out 1; have hfz32_2 := blk_frozen BK113.out 2) | ((with_reducible refine gate_callee (f := 60) rfl ?_); refine goesL_ (some 6) rfl rfl Try.func60 (by kernel_rfl) rfl #[.agg #[.int .i64 a0_0, .int .i64 a0_1, .int .i64 a0_2]] rfl (by (try simp only [List.map_toArray, List.map_cons, List.map_nil]); first | done | rfl | (simp only [List.length_drop, List.length_take]; rfl)) ?_; (with_reducible refine (geom_Check.calls a0_0 a0_1 a0_2 t115 _ A3.out).mono ?_); rintro e w33 ⟨rfl, hb⟩; refine ⟨_, rfl, ?_⟩; have n0_ := Aside0.mk (blk_below (g := gb113) (o := .cells #[.int .i64 a0_0, .int .i64 a0_1, .int .i64 a0_2] 23 (0, 0)) (by (with_reducible repeat (first | refine blk_drewN ?_ _ | refine blk_drew ?_ | refine blk_alloc ?_ _)); exact BK113.out) hb); have n1_ := Aside0.mk (blk_below (g := gb114) (o := .cells #[.int .i64 a1_0, .int .i64 a1_1] 37 (0, 0)) (by (with_reducible repeat (first | refine blk_drewN ?_ _ | refine blk_drew ?_ | refine blk_alloc ?_ _)); exact BK114.out) hb); have n2_ := Aside0.mk (below_step (by repeat (first | (with_reducible first | exact HB.out | apply below_alloc | apply pw_below_drewN | apply below_drew1 | refine below_set ?_ GE113.out | refine below_set ?_ GE114.out) | exact HB.out)) hb); clear BK113; clear BK114; clear HB; have BK113 := n0_; have BK114 := n1_; have HB := n2_; clear n0_ n1_ n2_; (try clear hb); (try clear hb2); (try clear hk); (try clear hi); have hcz34_0 : w33.cell? ⟨gb114, 0, none⟩ = some (.int .i64 a1_0) := (blk_cell BK114.out 0).trans rfl; have hcz34_1 : w33.cell? ⟨gb114, 1, none⟩ = some (.int .i64 a1_1) := (blk_cell BK114.out 1).trans rfl; have hfz34_0 := blk_frozen BK114.out 0; have hfz34_1 := blk_frozen BK114.out 1; have hcz35_0 : w33.cell? ⟨gb113, 0, none⟩ = some (.int .i64 a0_0) := (blk_cell BK113.out 0).trans rfl; have hcz35_1 : w33.cell? ⟨gb113, 1, none⟩ = some (.int .i64 a0_1) := (blk_cell BK113.out 1).trans rfl; have hcz35_2 : w33.cell? ⟨gb113, 2, none⟩ = some (.int .i64 a0_2) := (blk_cell BK113.out 2).trans rfl; have hfz35_0 := blk_frozen BK113.out 0; have hfz35_1 := blk_frozen BK113.out 1; have hfz35_2 := blk_frozen BK113.out 2))
            go_ret
            exact ⟨by first | rfl | (simp [errW_none, errW_some] <;> rfl) | (simp [*, errW_none, errW_some] <;> rfl), by repeat (first | (with_reducible first | exact HB.out | apply below_alloc | apply pw_below_drewN | apply below_drew1 | refine below_set ?_ GE113.out | refine below_set ?_ GE114.out) | exact HB.out)⟩
          · rw [if_neg c28] at H
            have c28b0 : decide (a0_1 ≤ a1_1) = false := decide_eq_false c28
            clear c28
            obtain rfl := Option.some.inj H
            go_enter Try.func69, Try.ntmps69
            go_wp2_with (first | ((with_reducible refine gate_dst (N := 2) rfl ?_); refine box_event ?hg (N := 2) ?hd (cs := #[.int .i64 a0_0, .int .i64 a0_1, .int .i64 a0_2]) (t := 23) ?hr ?_; (case hd => rfl); (case hg => rfl); (case hr => first | (go_simp; done) | (go_simp; rfl)); intro gb113 hg w36 hbox hb; have n0_ := Aside0.mk (below_step (by repeat (first | (with_reducible first | exact HB.out | apply below_alloc | apply pw_below_drewN | apply below_drew1) | exact HB.out)) hb); have n1_ := Aside0.mk (hbox); have n2_ := Aside0.mk ((by rw [hg]; exact (below_size (by repeat (first | (with_reducible first | exact HB.out | apply below_alloc | apply pw_below_drewN | apply below_drew1) | exact HB.out))) : w.heap.size ≤ gb113)); have n3_ := Aside0.mk ((by rw [hg]; exact (below_size (by repeat (first | (with_reducible first | exact HB.out | apply below_alloc | apply pw_below_drewN | apply below_drew1) | exact HB.out))) : w.heap.size ≤ gb113)); clear HB; have HB := n0_; have BK113 := n1_; have GW113 := n2_; have GE113 := n3_; clear n0_ n1_ n2_ n3_; clear hb hbox hg) | ((with_reducible refine gate_dst (N := 3) rfl ?_); refine box_event ?hg (N := 3) ?hd (cs := #[.int .i64 a1_0, .int .i64 a1_1]) (t := 37) ?hr ?_; (case hd => rfl); (case hg => rfl); (case hr => first | (go_simp; done) | (go_simp; rfl)); intro gb114 hg w37 hbox hb; have n0_ := Aside0.mk (blk_below (g := gb113) (o := .cells #[.int .i64 a0_0, .int .i64 a0_1, .int .i64 a0_2] 23 (0, 0)) (by (with_reducible repeat (first | refine blk_drewN ?_ _ | refine blk_drew ?_ | refine blk_alloc ?_ _)); exact BK113.out) hb); have n1_ := Aside0.mk (below_step (by repeat (first | (with_reducible first | exact HB.out | apply below_alloc | apply pw_below_drewN | apply below_drew1 | refine below_set ?_ GE113.out) | exact HB.out)) hb); have n2_ := Aside0.mk (hbox); have n3_ := Aside0.mk ((by rw [hg]; exact (below_size (by repeat (first | (with_reducible first | exact HB.out | apply below_alloc | apply pw_below_drewN | apply below_drew1 | refine below_set ?_ GE113.out) | exact HB.out))) : w.heap.size ≤ gb114)); have n4_ := Aside0.mk ((by rw [hg]; exact (below_size (by repeat (first | (with_reducible first | exact HB.out | apply below_alloc | apply pw_below_drewN | apply below_drew1 | refine below_set ?_ GE113.out) | exact HB.out))) : w.heap.size ≤ gb114)); have n5_ := Aside0.mk ((by rw [hg]; exact Nat.ne_of_lt (blk_lt (g := gb113) (o := .cells #[.int .i64 a0_0, .int .i64 a0_1, .int .i64 a0_2] 23 (0, 0)) (by (with_reducible repeat (first | refine blk_drewN ?_ _ | refine blk_drew ?_ | refine blk_alloc ?_ _)); exact BK113.out)) : gb113 ≠ gb114)); have n6_ := Aside0.mk ((by rw [hg]; exact Nat.ne_of_gt (blk_lt (g := gb113) (o := .cells #[.int .i64 a0_0, .int .i64 a0_1, .int .i64 a0_2] 23 (0, 0)) (by (with_reducible repeat (first | refine blk_drewN ?_ _ | refine blk_drew ?_ | refine blk_alloc ?_ _)); exact BK113.out)) : gb114 ≠ gb113)); clear BK113; clear HB; have BK113 := n0_; have HB := n1_; have BK114 := n2_; have GW114 := n3_; have GE114 := n4_; have NB113_114 := n5_; have NB114_113 := n6_; clear n0_ n1_ n2_ n3_ n4_ n5_ n6_; clear hb hbox hg; have hnb38 := NB113_114.out; have hnc38 := NB114_113.out; have hcz39_0 : w37.cell? ⟨gb113, 0, none⟩ = some (.int .i64 a0_0) := (blk_cell BK113.out 0).trans rfl; have hcz39_1 : w37.cell? ⟨gb113, 1, none⟩ = some (.int .i64 a0_1) := (blk_cell BK113.out 1).trans rfl; have hcz39_2 : w37.cell? ⟨gb113, 2, none⟩ = some (.int .i64 a0_2) := (blk_cell BK113.out 2).trans rfl; have hfz39_0 := blk_frozen BK113.out 0; have hfz39_1 := blk_frozen BK113.out 1; have hfz39_2 := blk_frozen BK113.out 2) | ((with_reducible refine gate_callee (f := 60) rfl ?_); refine goesL_ (some 6) rfl rfl Try.func60 (by kernel_rfl) rfl #[.agg #[.int .i64 a0_0, .int .i64 a0_1, .int .i64 a0_2]] rfl (by (try simp only [List.map_toArray, List.map_cons, List.map_nil]); first | done | rfl | (simp only [List.length_drop, List.length_take]; rfl)) ?_; (with_reducible refine (geom_Check.calls a0_0 a0_1 a0_2 t115 _ A3.out).mono ?_); rintro e w40 ⟨rfl, hb⟩; refine ⟨_, rfl, ?_⟩; have n0_ := Aside0.mk (blk_below (g := gb113) (o := .cells #[.int .i64 a0_0, .int .i64 a0_1, .int .i64 a0_2] 23 (0, 0)) (by (with_reducible repeat (first | refine blk_drewN ?_ _ | refine blk_drew ?_ | refine blk_alloc ?_ _)); exact BK113.out) hb); have n1_ := Aside0.mk (blk_below (g := gb114) (o := .cells #[.int .i64 a1_0, .int .i64 a1_1] 37 (0, 0)) (by (with_reducible repeat (first | refine blk_drewN ?_ _ | refine blk_drew ?_ | refine blk_alloc ?_ _)); exact BK114.out) hb); have n2_ := Aside0.mk (below_step (by repeat (first | (with_reducible first | exact HB.out | apply below_alloc | apply pw_below_drewN | apply below_drew1 | refine below_set ?_ GE113.out | refine below_set ?_ GE114.out) | exact HB.out)) hb); clear BK113; clear BK114; clear HB; have BK113 := n0_; have BK114 := n1_; have HB := n2_; clear n0_ n1_ n2_; (try clear hb); (try clear hb2); (try clear hk); (try clear hi); have hcz41_0 : w40.cell? ⟨gb114, 0, none⟩ = some (.int .i64 a1_0) := (blk_cell BK114.out 0).trans rfl; have hcz41_1 : w40.cell? ⟨gb114, 1, none⟩ = some (.int .i64 a1_1) := (blk_cell BK114.out 1).trans rfl; have hfz41_0 := blk_frozen BK114.out 0; have hfz41_1 := blk_frozen BK114.out 1; have hcz42_0 : w40.cell? ⟨gb113, 0, none⟩ = some (.int .i64 a0_0) := (blk_cell BK113.out 0).trans rfl; have hcz42_1 : w40.cell? ⟨gb113, 1, none⟩ = some (.int .i64 a0_1) := (blk_cell BK113.out 1).trans rfl; have hcz42_2 : w40.cell? ⟨gb113, 2, none⟩ = some (.int .i64 a0_2) := (blk_cell BK113.out 2).trans rfl; have hfz42_0 := blk_frozen BK113.out 0; have hfz42_1 := blk_frozen BK113.out 1; have hfz42_2 := blk_frozen BK113.out 2))
            go_ret
            exact ⟨by first | rfl | (simp [errW_none, errW_some] <;> rfl) | (simp [*, errW_none, errW_some] <;> rfl), by repeat (first | (with_reducible first | exact HB.out | apply below_alloc | apply pw_below_drewN | apply below_drew1 | refine below_set ?_ GE113.out | refine below_set ?_ GE114.out) | exact HB.out)⟩
  · rw [if_neg c4] at H
    have c4b0 : (t115 == 0) = false := beq_eq_false_iff_ne.mpr c4
    have c4b1 : (t115 != 0) = true := bne_iff_ne.mpr c4
    obtain rfl := Option.some.inj H
    go_enter Try.func69, Try.ntmps69
    go_wp2_with (first | ((with_reducible refine gate_dst (N := 2) rfl ?_); refine box_event ?hg (N := 2) ?hd (cs := #[.int .i64 a0_0, .int .i64 a0_1, .int .i64 a0_2]) (t := 23) ?hr ?_; (case hd => rfl); (case hg => rfl); (case hr => first | (go_simp; done) | (go_simp; rfl)); intro gb113 hg w43 hbox hb; have n0_ := Aside0.mk (below_step (by repeat (first | (with_reducible first | exact HB.out | apply below_alloc | apply pw_below_drewN | apply below_drew1) | exact HB.out)) hb); have n1_ := Aside0.mk (hbox); have n2_ := Aside0.mk ((by rw [hg]; exact (below_size (by repeat (first | (with_reducible first | exact HB.out | apply below_alloc | apply pw_below_drewN | apply below_drew1) | exact HB.out))) : w.heap.size ≤ gb113)); have n3_ := Aside0.mk ((by rw [hg]; exact (below_size (by repeat (first | (with_reducible first | exact HB.out | apply below_alloc | apply pw_below_drewN | apply below_drew1) | exact HB.out))) : w.heap.size ≤ gb113)); clear HB; have HB := n0_; have BK113 := n1_; have GW113 := n2_; have GE113 := n3_; clear n0_ n1_ n2_ n3_; clear hb hbox hg) | ((with_reducible refine gate_dst (N := 3) rfl ?_); refine box_event ?hg (N := 3) ?hd (cs := #[.int .i64 a1_0, .int .i64 a1_1]) (t := 37) ?hr ?_; (case hd => rfl); (case hg => rfl); (case hr => first | (go_simp; done) | (go_simp; rfl)); intro gb114 hg w44 hbox hb; have n0_ := Aside0.mk (blk_below (g := gb113) (o := .cells #[.int .i64 a0_0, .int .i64 a0_1, .int .i64 a0_2] 23 (0, 0)) (by (with_reducible repeat (first | refine blk_drewN ?_ _ | refine blk_drew ?_ | refine blk_alloc ?_ _)); exact BK113.out) hb); have n1_ := Aside0.mk (below_step (by repeat (first | (with_reducible first | exact HB.out | apply below_alloc | apply pw_below_drewN | apply below_drew1 | refine below_set ?_ GE113.out) | exact HB.out)) hb); have n2_ := Aside0.mk (hbox); have n3_ := Aside0.mk ((by rw [hg]; exact (below_size (by repeat (first | (with_reducible first | exact HB.out | apply below_alloc | apply pw_below_drewN | apply below_drew1 | refine below_set ?_ GE113.out) | exact HB.out))) : w.heap.size ≤ gb114)); have n4_ := Aside0.mk ((by rw [hg]; exact (below_size (by repeat (first | (with_reducible first | exact HB.out | apply below_alloc | apply pw_below_drewN | apply below_drew1 | refine below_set ?_ GE113.out) | exact HB.out))) : w.heap.size ≤ gb114)); have n5_ := Aside0.mk ((by rw [hg]; exact Nat.ne_of_lt (blk_lt (g := gb113) (o := .cells #[.int .i64 a0_0, .int .i64 a0_1, .int .i64 a0_2] 23 (0, 0)) (by (with_reducible repeat (first | refine blk_drewN ?_ _ | refine blk_drew ?_ | refine blk_alloc ?_ _)); exact BK113.out)) : gb113 ≠ gb114)); have n6_ := Aside0.mk ((by rw [hg]; exact Nat.ne_of_gt (blk_lt (g := gb113) (o := .cells #[.int .i64 a0_0, .int .i64 a0_1, .int .i64 a0_2] 23 (0, 0)) (by (with_reducible repeat (first | refine blk_drewN ?_ _ | refine blk_drew ?_ | refine blk_alloc ?_ _)); exact BK113.out)) : gb114 ≠ gb113)); clear BK113; clear HB; have BK113 := n0_; have HB := n1_; have BK114 := n2_; have GW114 := n3_; have GE114 := n4_; have NB113_114 := n5_; have NB114_113 := n6_; clear n0_ n1_ n2_ n3_ n4_ n5_ n6_; clear hb hbox hg; have hnb45 := NB113_114.out; have hnc45 := NB114_113.out; have hcz46_0 : w44.cell? ⟨gb113, 0, none⟩ = some (.int .i64 a0_0) := (blk_cell BK113.out 0).trans rfl; have hcz46_1 : w44.cell? ⟨gb113, 1, none⟩ = some (.int .i64 a0_1) := (blk_cell BK113.out 1).trans rfl; have hcz46_2 : w44.cell? ⟨gb113, 2, none⟩ = some (.int .i64 a0_2) := (blk_cell BK113.out 2).trans rfl; have hfz46_0 := blk_frozen BK113.out 0; have hfz46_1 := blk_frozen BK113.out 1; have hfz46_2 := blk_frozen BK113.out 2) | ((with_reducible refine gate_callee (f := 60) rfl ?_); refine goesL_ (some 6) rfl rfl Try.func60 (by kernel_rfl) rfl #[.agg #[.int .i64 a0_0, .int .i64 a0_1, .int .i64 a0_2]] rfl (by (try simp only [List.map_toArray, List.map_cons, List.map_nil]); first | done | rfl | (simp only [List.length_drop, List.length_take]; rfl)) ?_; (with_reducible refine (geom_Check.calls a0_0 a0_1 a0_2 t115 _ A3.out).mono ?_); rintro e w47 ⟨rfl, hb⟩; refine ⟨_, rfl, ?_⟩; have n0_ := Aside0.mk (blk_below (g := gb113) (o := .cells #[.int .i64 a0_0, .int .i64 a0_1, .int .i64 a0_2] 23 (0, 0)) (by (with_reducible repeat (first | refine blk_drewN ?_ _ | refine blk_drew ?_ | refine blk_alloc ?_ _)); exact BK113.out) hb); have n1_ := Aside0.mk (blk_below (g := gb114) (o := .cells #[.int .i64 a1_0, .int .i64 a1_1] 37 (0, 0)) (by (with_reducible repeat (first | refine blk_drewN ?_ _ | refine blk_drew ?_ | refine blk_alloc ?_ _)); exact BK114.out) hb); have n2_ := Aside0.mk (below_step (by repeat (first | (with_reducible first | exact HB.out | apply below_alloc | apply pw_below_drewN | apply below_drew1 | refine below_set ?_ GE113.out | refine below_set ?_ GE114.out) | exact HB.out)) hb); clear BK113; clear BK114; clear HB; have BK113 := n0_; have BK114 := n1_; have HB := n2_; clear n0_ n1_ n2_; (try clear hb); (try clear hb2); (try clear hk); (try clear hi)))
    go_ret
    exact ⟨by first | rfl | (simp [errW_none, errW_some] <;> rfl) | (simp [*, errW_none, errW_some] <;> rfl), by repeat (first | (with_reducible first | exact HB.out | apply below_alloc | apply pw_below_drewN | apply below_drew1 | refine below_set ?_ GE113.out | refine below_set ?_ GE114.out) | exact HB.out)⟩
end Go.Proofs.Ytnchdmidaigheaa.Hp
namespace Go.Proofs.Ytnchdmidaigheaa.ND
set_option linter.unusedVariables false
set_option linter.unusedSimpArgs false
open Go.RowKit Go.Proofs.Ytnchdmidaigheaa.Hp Go.Proofs.YtnchdmidaigheaaW.PrintWords Go.Proofs.YtnchdmidaigheaaW.PrintLast Go.Proofs.YtnchdmidaigheaaW.PrintMore
theorem place_f {D : Dv} (h : D.Ok) (b p : Int) : geom_Place.f D.B D.P D.C b p = some (if D.here b p = true then (D.idx b p : Int) else -1) := by
  have hc : geom_Check.f D.B D.P D.C = some 0 := by
    unfold geom_Check.f within
    rw [if_pos (by simp; have := h.b1; have := h.b2; have := h.p1; have := h.p2; have := h.c1; have := h.c2; omega)]
  unfold geom_Place.f
  rw [hc, Option.bind_some, if_pos rfl]
  cases hh : D.here b p with
  | true =>
    obtain ⟨⟨h1, h2⟩, h3, h4⟩ := here_iff.1 hh
    have hi := h.idx hh
    have hs := h.size
    have hl := h.pl
    have h5 : 0 ≤ b * D.P := Int.mul_nonneg h1 (by omega)
    rw [if_neg (by omega), if_neg (by omega), if_neg (by omega), if_neg (by omega), if_pos rfl]
    have e1 : wrap64 (b * D.P) = b * D.P := by unfold wrap64; omega
    rw [e1, hi.1]
    congr 1
    unfold wrap64
    omega
  | false =>
    have hn : ¬ ((0 ≤ b ∧ b < D.B) ∧ 0 ≤ p ∧ p < D.P) := fun hc => by rw [here_iff.2 hc] at hh; cases hh
    rw [show (if false = true then (D.idx b p : Int) else -1) = -1 from rfl]
    by_cases h1 : b < 0
    · rw [if_pos h1]
    · rw [if_neg h1]
      by_cases h2 : b ≥ D.B
      · rw [if_pos h2]
      · rw [if_neg h2]
        by_cases h3 : p < 0
        · rw [if_pos h3]
        · rw [if_neg h3, if_pos (by omega)]
theorem DV.newer2 {W W' : World} {ok ok' : Nat → Prop} {L : Lay} {D D0 : Dv} (h : DV W' ok' L D) (h0 : DV W ok L D0) (ho : ∀ k, ok' k → newer W ok k) : DV W' (newer W ok) L D :=
  h.mono ho (fun k hk hlt hS => hk.elim (fun hk => h0.no k hk (h0.lt k hS) hS) (fun hk => by have := h0.lt k hS; omega))
theorem newer_no {W W9 : World} {ok : Nat → Prop} {L : Lay} {D0 : Dv} (h0 : DV W ok L D0) (hs : W.heap.size ≤ W9.heap.size) : ∀ k, newer W9 ok k → ¬ L.S k := fun k hk hS => hk.elim (fun hk => h0.no k hk (h0.lt k hS) hS) (fun hk => by have := h0.lt k hS; omega)
def prog4.T4 : Bool × List (List Nat × List Nat) := (true, [([], []), ([0], [0]), ([1], [1]), ([2], [2]), ([], []), ([3, 4], [3, 4]), ([5, 5, 0, 1, 2, 3, 4, 5], [5])])
def prog4.B4 : List Nat := [0, 1, 3, 7, 0, 31, 63]
theorem prog4.tab4 : rtab .any (opsOf Try.f17 4) = prog4.T4 := by kernel_rfl
theorem prog4.bits4 : waitsOk prog4.T4.2 prog4.B4 = true := by kernel_rfl
def prog7.T7 : Bool × List (List Nat × List Nat) := (true, [([], []), ([0], [0]), ([1], [1]), ([2], [2]), ([], []), ([4], [4]), ([3, 5], [3, 5]), ([6], [6]), ([7], [7])])
def prog7.B7 : List Nat := [0, 1, 3, 7, 0, 16, 63, 127, 255]
theorem prog7.tab7 : rtab .any (opsOf Try.f17 7) = prog7.T7 := by kernel_rfl
theorem prog7.bits7 : waitsOk prog7.T7.2 prog7.B7 = true := by kernel_rfl
def prog9.T9 : Bool × List (List Nat × List Nat) := (true, [([], []), ([0], [0]), ([], []), ([2], [2]), ([3], [3]), ([4], [4]), ([], []), ([6], [6]), ([5, 7], [5, 7]), ([8], [8]), ([1, 9], [1, 9]), ([10], [10])])
def prog9.B9 : List Nat := [0, 1, 0, 4, 12, 28, 0, 64, 252, 508, 1023, 2047]
theorem prog9.tab9 : rtab .any (opsOf Try.f17 9) = prog9.T9 := by kernel_rfl
theorem prog9.bits9 : waitsOk prog9.T9.2 prog9.B9 = true := by kernel_rfl
def prog12.T12 : Bool × List (List Nat × List Nat) := (true, [([], []), ([0], [0]), ([1], [1]), ([2], [2]), ([], []), ([4], [4]), ([3, 5], [3, 5]), ([6], [6]), ([7], [7]), ([3, 5, 0, 1, 2, 3, 4, 5, 6, 7, 8], [3, 5]), ([9, 8, 0, 1, 2, 3, 4, 5, 6, 7, 8], [8, 9])])
def prog12.B12 : List Nat := [0, 1, 3, 7, 0, 16, 63, 127, 255, 511, 1023]
theorem prog12.tab12 : rtab .any (opsOf Try.f17 12) = prog12.T12 := by kernel_rfl
theorem prog12.bits12 : waitsOk prog12.T12.2 prog12.B12 = true := by kernel_rfl
set_option maxHeartbeats 2000000 in
set_option maxRecDepth 100000 in
theorem program_calls {W : World} {ok okl : Nat → Prop} {L : Lay} {D : Dv} (h : DV W ok L D) (bk pg : Int) (l : List Int) (A : Option Addr) (c : Nat) (hc : l.length ≤ c) (hl : isBytes l) (gl : Kd.F (Kd.int .u8) W okl A l.length l) (hno : ∀ k, okl k → k < W.heap.size → ¬ L.S k) :
    Calls Try.prog 17 #[.pointer (some ⟨L.g, 0, none⟩), .agg #[.int .i64 bk, .int .i64 pg], .slice A l.length c] W fun e w' => e = .returned (.int .i64 (D.prog bk pg l).1) ∧ DV w' (newer W ok) L (D.prog bk pg l).2 ∧ Turn W w' L.S := by
  have H00 := Aside0.mk h
  have HPR := Aside0.mk (rfl : D.prog bk pg l = D.prog bk pg l)
  obtain ⟨r, hr⟩ : ∃ r, r = D.prog bk pg l := ⟨_, rfl⟩
  rw [← hr]
  have HRR := Aside0.mk hr
  have hz4 := heap_alloc_new W (.cells #[.int .i64 bk, .int .i64 pg] 37)
  have hb4 := below_alloc (Below.refl W.heap.size W) (.cells #[.int .i64 bk, .int .i64 pg] 37)
  have hz5 := heap_alloc_new (W.alloc (.cells #[.int .i64 bk, .int .i64 pg] 37)) (.cells #[.slice A l.length c] 38)
  have hb5 := below_alloc hb4 (.cells #[.slice A l.length c] 38)
  have hz4' := blk_alloc hz4 (.cells #[.slice A l.length c] 38)
  have hsz : (W.alloc (.cells #[.int .i64 bk, .int .i64 pg] 37)).heap.size = W.heap.size + 1 := by simp
  rw [hsz] at hz5
  obtain ⟨g5, hg5⟩ : ∃ g, g = W.heap.size + 1 := ⟨_, rfl⟩
  obtain ⟨g4, hg4⟩ : ∃ g, g = W.heap.size := ⟨_, rfl⟩
  have HLL := Aside0.mk (And.intro hc (And.intro hl (And.intro gl hno)))
  clear hc hl gl hno hr hb4 hz4 hsz h
  go_enter Try.func17, Try.ntmps17
  go_upto_region 1 with fail
  rw [← hg5] at hz5 ⊢
  generalize ((W.alloc (.cells #[.int .i64 bk, .int .i64 pg] 37)).alloc (.cells #[.slice A l.length c] 38)) = W2 at hz4' hz5 hb5 ⊢
  rw [← hg4] at hz4' ⊢
  have HG := Aside0.mk (And.intro hg4 hg5)
  have HB2 := Aside0.mk hb5
  have HZ4 := Aside0.mk hz4'
  have HZ5 := Aside0.mk hz5
  have H2 := Aside0.mk (H00.out.below hb5)
  clear hg4 hg5 hz4' hz5 hb5
  cases hd : D.down with
  | true =>
    have HU := Aside0.mk (up_calls H2.out)
    rw [hd, if_pos rfl] at HU
    have HR1 : Aside0 (r = (9, D)) := ⟨by rw [HRR.out]; unfold Dv.prog; rw [if_pos hd]⟩
    clear hd
    go_wp2_with (go_at_call 63; refine HU.out.mono ?_; rintro e w3 ⟨rfl, hb⟩; have HB3 := Aside0.mk (below_then HB2.out HB2.out.size hb); clear hb)
    go_ret
    rw [HR1.out]
    exact ⟨rfl, (H00.out.below HB3.out).newer_ H00.out.lt, Turn.of_below HB3.out _⟩
  | false =>
    have HU := Aside0.mk (up_calls H2.out)
    rw [hd, if_neg (by decide)] at HU
    go_upto_region 4 with (go_at_call 63; refine HU.out.mono ?_; rintro e w3 ⟨rfl, hb⟩; have HB3 := Aside0.mk (below_then HB2.out HB2.out.size hb); have HB23 := Aside0.mk hb; clear hb)
    have H3 := Aside0.mk (H2.out.below HB23.out)
    have HZ4_3 := Aside0.mk (blk_below HZ4.out HB23.out)
    have HZ5_3 := Aside0.mk (blk_below HZ5.out HB23.out)
    have B0 := Aside0.mk (below_drew1 (Below.refl w3.heap.size w3))
    obtain ⟨pl, hpl⟩ : ∃ pl : Int, pl = if D.here bk pg = true then (D.idx bk pg : Int) else -1 := ⟨_, rfl⟩
    have HPL := Aside0.mk (fun w => geom_Place.calls D.B D.P D.C bk pg pl w (by rw [hpl]; exact place_f H00.out.ok bk pg))
    clear HU HZ4 HZ5 H2 HB23
    refine start_ (n := 7) (S := fun w' => True) (ds := []) #[false, false, false, false, false, false, false] (by kernel_rfl) rfl rfl trivial (fun hHeld => ?_)
    refine with_tabW prog4.tab4 prog4.bits4 (fun HT_ HW_ => ?_)
    generalize w3.drew = wq at B0 hHeld ⊢
    refine inv_at [0, 1, 2, 3, 4, 5, 6] (fun a0_ b a w' => a = putSel a0_ b [(0, 16, .pointer (some ⟨L.g, 0, none⟩)), (1, 17, .pointer (some ⟨L.g, 0, none⟩)), (2, 18, .pointer (some ⟨L.g, 0, none⟩)), (3, 19, .agg #[.int .i64 D.B, .int .i64 D.P, .int .i64 D.C]), (4, 20, .agg #[.int .i64 bk, .int .i64 pg]), (5, 21, .int .i64 pl), (6, 8, .int .i64 pl)] ∧ (Below w3.heap.size w3 w')) HT_.out HW_.out (by kernel_rfl) (by kernel_rfl) ?_ ?_ ?_
    · exact ⟨by simp only [putSel, Bool.false_eq_true, if_false], B0.out⟩
    · skip
      clear B0
      refine steps_cons ?_ ?_
      · rintro b a w' ⟨ha, Q_B0⟩ hb_ hon hoff
        refine ⟨_, rfl, fun K hK => ?_⟩
        have e0 : a.tmps[0]? = some (.pointer (some ⟨L.g, 0, none⟩)) := by rw [ha]; exact (putSel_off rfl).trans rfl
        replace ha := Aside0.mk ha
        have B0 := Aside0.mk Q_B0
        refine value_ (w1 := w') (v := .pointer (some ⟨L.g, 0, none⟩)) (by rfl) rfl ?_ ?_
        · go_simp
          (try simp only [i64_w])
          try rfl
        refine hK.out _ _ ⟨(by rw [ha.out]; exact putSel_upk 0 hb_ rfl rfl rfl), Q_B0⟩
      refine steps_cons ?_ ?_
      · rintro b a w' ⟨ha, Q_B0⟩ hb_ hon hoff
        refine ⟨_, rfl, fun K hK => ?_⟩
        have e16 : a.tmps[16]? = some (.pointer (some ⟨L.g, 0, none⟩)) := by rw [ha]; exact putSel_on (e := (0, 16, .pointer (some ⟨L.g, 0, none⟩))) 0 rfl rfl (hon 0 (by kernel_rfl)) rfl
        replace ha := Aside0.mk ha
        have B0 := Aside0.mk Q_B0
        refine value_ (w1 := w') (v := .pointer (some ⟨L.g, 0, none⟩)) (by rfl) rfl ?_ ?_
        · go_simp
          (try simp only [i64_w])
          try rfl
        refine hK.out _ _ ⟨(by rw [ha.out]; exact putSel_upk 1 hb_ rfl rfl rfl), Q_B0⟩
      refine steps_cons ?_ ?_
      · rintro b a w' ⟨ha, Q_B0⟩ hb_ hon hoff
        refine ⟨_, rfl, fun K hK => ?_⟩
        have e17 : a.tmps[17]? = some (.pointer (some ⟨L.g, 0, none⟩)) := by rw [ha]; exact putSel_on (e := (1, 17, .pointer (some ⟨L.g, 0, none⟩))) 1 rfl rfl (hon 1 (by kernel_rfl)) rfl
        replace ha := Aside0.mk ha
        have B0 := Aside0.mk Q_B0
        refine value_ (w1 := w') (v := .pointer (some ⟨L.g, 0, none⟩)) (by rfl) rfl ?_ ?_
        · go_simp
          (try simp only [i64_w])
          try rfl
        refine hK.out _ _ ⟨(by rw [ha.out]; exact putSel_upk 2 hb_ rfl rfl rfl), Q_B0⟩
      refine steps_cons ?_ ?_
      · rintro b a w' ⟨ha, Q_B0⟩ hb_ hon hoff
        refine ⟨_, rfl, fun K hK => ?_⟩
        have e18 : a.tmps[18]? = some (.pointer (some ⟨L.g, 0, none⟩)) := by rw [ha]; exact putSel_on (e := (2, 18, .pointer (some ⟨L.g, 0, none⟩))) 2 rfl rfl (hon 2 (by kernel_rfl)) rfl
        replace ha := Aside0.mk ha
        have B0 := Aside0.mk Q_B0
        have hh_ := top_cells (H3.out.below B0.out)
        have c0_ := hh_.1
        have c1_ := hh_.2.1
        have c2_ := hh_.2.2.1
        clear hh_
        refine value_ (w1 := w') (v := .agg #[.int .i64 D.B, .int .i64 D.P, .int .i64 D.C]) (by rfl) rfl ?_ ?_
        · go_simp
          (try simp only [i64_w])
          try rfl
        refine hK.out _ _ ⟨(by rw [ha.out]; exact putSel_upk 3 hb_ rfl rfl rfl), Q_B0⟩
      refine steps_cons ?_ ?_
      · rintro b a w' ⟨ha, Q_B0⟩ hb_ hon hoff
        refine ⟨_, rfl, fun K hK => ?_⟩
        have e4 : a.tmps[4]? = some (.pointer (some ⟨g4, 0, none⟩)) := by rw [ha]; exact (putSel_off rfl).trans rfl
        replace ha := Aside0.mk ha
        have B0 := Aside0.mk Q_B0
        have c0_ := blk_cell (blk_below HZ4_3.out B0.out) 0
        have c1_ := blk_cell (blk_below HZ4_3.out B0.out) 1
        refine value_ (w1 := w') (v := .agg #[.int .i64 bk, .int .i64 pg]) (by rfl) rfl ?_ ?_
        · go_simp
          (try simp only [i64_w])
          try rfl
        refine hK.out _ _ ⟨(by rw [ha.out]; exact putSel_upk 4 hb_ rfl rfl rfl), Q_B0⟩
      refine steps_cons ?_ ?_
      · rintro b a w' ⟨ha, Q_B0⟩ hb_ hon hoff
        refine ⟨_, rfl, fun K hK => ?_⟩
        have e19 : a.tmps[19]? = some (.agg #[.int .i64 D.B, .int .i64 D.P, .int .i64 D.C]) := by rw [ha]; exact putSel_on (e := (3, 19, .agg #[.int .i64 D.B, .int .i64 D.P, .int .i64 D.C])) 3 rfl rfl (hon 3 (by kernel_rfl)) rfl
        have e20 : a.tmps[20]? = some (.agg #[.int .i64 bk, .int .i64 pg]) := by rw [ha]; exact putSel_on (e := (4, 20, .agg #[.int .i64 bk, .int .i64 pg])) 4 rfl rfl (hon 4 (by kernel_rfl)) rfl
        replace ha := Aside0.mk ha
        have B0 := Aside0.mk Q_B0
        refine goes_ Try.func69 (by kernel_rfl) rfl #[.agg #[.int .i64 D.B, .int .i64 D.P, .int .i64 D.C], .agg #[.int .i64 bk, .int .i64 pg]] (by rfl) rfl rfl (by first | (simp only [List.map_toArray, List.map_cons, List.map_nil, Act.eval, Array.getD_eq_getD_getElem?, Option.getD_some, e19, e20]; done) | (simp only [List.map_toArray, List.map_cons, List.map_nil, Act.eval, Array.getD_eq_getD_getElem?, Option.getD_some, e19, e20]; rfl)) ?_
        with_reducible refine (HPL.out _).mono ?_
        rintro e w2 ⟨rfl, hb⟩
        refine ⟨_, rfl, ?_⟩
        refine hK.out _ _ ⟨(by rw [ha.out]; exact putSel_upk 5 hb_ rfl rfl rfl), below_then B0.out B0.out.size hb⟩
      refine steps_cons ?_ ?_
      · rintro b a w' ⟨ha, Q_B0⟩ hb_ hon hoff
        refine ⟨_, rfl, fun K hK => ?_⟩
        have e21 : a.tmps[21]? = some (.int .i64 pl) := by rw [ha]; exact putSel_on (e := (5, 21, .int .i64 pl)) 5 rfl rfl (hon 5 (by kernel_rfl)) rfl
        replace ha := Aside0.mk ha
        have B0 := Aside0.mk Q_B0
        refine value_ (w1 := w') (v := .int .i64 pl) (by rfl) rfl ?_ ?_
        · go_simp
          (try simp only [i64_w])
          try rfl
        refine hK.out _ _ ⟨(by rw [ha.out]; exact putSel_upk 6 hb_ rfl rfl rfl), Q_B0⟩
      exact steps_nil
    rintro b a w4 hall ⟨ha, Q_B0⟩
    clear B0
    have hb0_ := hall 0 (by kernel_rfl)
    have hb1_ := hall 1 (by kernel_rfl)
    have hb2_ := hall 2 (by kernel_rfl)
    have hb3_ := hall 3 (by kernel_rfl)
    have hb4_ := hall 4 (by kernel_rfl)
    have hb5_ := hall 5 (by kernel_rfl)
    have hb6_ := hall 6 (by kernel_rfl)
    subst ha
    simp only [putSel, hb0_, hb1_, hb2_, hb3_, hb4_, hb5_, hb6_, if_true, Act.put, List.setIfInBounds_toArray, List.set_cons_zero, List.set_cons_succ]
    have B0 := Aside0.mk Q_B0
    clear Q_B0
    clear hall hb0_ hb1_ hb2_ hb3_ hb4_ hb5_ hb6_
    have HB4 := Aside0.mk (below_then HB3.out HB3.out.size B0.out)
    have H4 := Aside0.mk (H3.out.below B0.out)
    have HZ4_4 := Aside0.mk (blk_below HZ4_3.out B0.out)
    have HZ5_4 := Aside0.mk (blk_below HZ5_3.out B0.out)
    clear HPL H3 HZ4_3 HZ5_3 B0 HB2 HB3
    cases hh : D.here bk pg with
    | false =>
      rw [hh, if_neg (by decide)] at hpl
      subst hpl
      have HR1 : Aside0 (r = (3, D)) := ⟨by rw [HRR.out]; unfold Dv.prog; rw [if_neg (by rw [hd]; decide), if_pos (.inl hh)]⟩
      clear hh hd
      go_wp2_with fail
      go_ret
      rw [HR1.out]
      exact ⟨rfl, (H00.out.below HB4.out).newer_ H00.out.lt, Turn.of_below HB4.out _⟩
    | true =>
      rw [hh, if_pos rfl] at hpl
      have hix := H00.out.ok.idx hh
      obtain ⟨i, hi⟩ : ∃ i, i = D.idx bk pg := ⟨_, rfl⟩
      rw [← hi] at hpl hix
      subst hpl
      have HI := Aside0.mk (And.intro hi hix.2)
      have HHH := Aside0.mk hh
      obtain ⟨⟨h1, h2⟩, h3, h4⟩ := here_iff.1 hh
      obtain ⟨n, rfl⟩ := Int.eq_ofNat_of_zero_le h1
      have HN := Aside0.mk (And.intro h2 (And.intro h3 h4))
      have HD0 := Aside0.mk hd
      have tpl : decide ((i : Int) < 0) = false := decide_eq_false (by omega)
      have y5 := blk_cell HZ5_4.out 0
      clear hi hix h1 h2 h3 h4 hd hh
      by_cases hlen : l.length = 256
      case neg =>
        have tl : ((l.length : Int) != 256) = true := by simp; omega
        have HR1 : Aside0 (r = (3, D)) := ⟨by rw [HRR.out]; unfold Dv.prog; rw [if_neg (by rw [HD0.out]; decide), if_pos (.inr hlen)]⟩
        clear hlen
        go_wp2_with fail
        go_ret
        rw [HR1.out]
        exact ⟨rfl, (H00.out.below HB4.out).newer_ H00.out.lt, Turn.of_below HB4.out _⟩
      case pos =>
        have tl : ((l.length : Int) != 256) = false := by rw [hlen]; rfl
        have HLN := Aside0.mk hlen
        clear hlen
        go_upto_region 7 with fail
        obtain ⟨bm, hbm⟩ : ∃ x, x = D.mark (n : Int) := ⟨_, rfl⟩
        have HBM := Aside0.mk hbm
        have HQ := Aside0.mk (And.intro (eq_true (show (0 : Int) ≤ (n : Int) by omega)) (eq_true (show (n : Int) < (((marks D).length : Nat) : Int) by rw [marks_len]; have := HN.out.1; omega)))
        have HQ2 := Aside0.mk (And.intro (eq_true (show (0 : Int) ≤ (n : Int) by omega)) (eq_true (show (n : Int) < ((D.next.length : Nat) : Int) by have := H00.out.ok.nl; have := HN.out.1; omega)))
        have B0 := Aside0.mk (below_drew1 (Below.refl w4.heap.size w4))
        clear hbm y5 tl tpl
        refine start_ (n := 9) (S := fun w' => True) (ds := []) #[false, false, false, false, false, false, false, false, false] (by kernel_rfl) rfl rfl trivial (fun hHeld => ?_)
        refine with_tabW prog7.tab7 prog7.bits7 (fun HT_ HW_ => ?_)
        generalize w4.drew = wq at B0 hHeld ⊢
        refine inv_at [0, 1, 2, 3, 4, 5, 6, 7, 8] (fun a0_ b a w' => a = putSel a0_ b [(0, 31, .pointer (some ⟨L.g, 0, none⟩)), (1, 32, .pointer (some ⟨L.g, 0, none⟩)), (2, 33, .pointer (some ⟨L.g, 3, none⟩)), (3, 34, .slice (some ⟨L.gm, 0, none⟩) (marks D).length L.cm), (4, 35, .pointer (some ⟨g4, 0, none⟩)), (5, 36, .int .i64 (n : Int)), (6, 37, .pointer (some ⟨L.gm, n, none⟩)), (7, 38, .bool bm), (8, 30, .bool bm)] ∧ (Below w4.heap.size w4 w')) HT_.out HW_.out (by kernel_rfl) (by kernel_rfl) ?_ ?_ ?_
        · exact ⟨by simp only [putSel, Bool.false_eq_true, if_false], B0.out⟩
        · skip
          clear B0
          refine steps_cons ?_ ?_
          · rintro b a w' ⟨ha, Q_B0⟩ hb_ hon hoff
            refine ⟨_, rfl, fun K hK => ?_⟩
            have e0 : a.tmps[0]? = some (.pointer (some ⟨L.g, 0, none⟩)) := by rw [ha]; exact (putSel_off rfl).trans rfl
            replace ha := Aside0.mk ha
            have B0 := Aside0.mk Q_B0
            refine value_ (w1 := w') (v := .pointer (some ⟨L.g, 0, none⟩)) (by rfl) rfl ?_ ?_
            · go_simp
              (try simp only [i64_w])
              try rfl
            refine hK.out _ _ ⟨(by rw [ha.out]; exact putSel_upk 0 hb_ rfl rfl rfl), Q_B0⟩
          refine steps_cons ?_ ?_
          · rintro b a w' ⟨ha, Q_B0⟩ hb_ hon hoff
            refine ⟨_, rfl, fun K hK => ?_⟩
            have e31 : a.tmps[31]? = some (.pointer (some ⟨L.g, 0, none⟩)) := by rw [ha]; exact putSel_on (e := (0, 31, .pointer (some ⟨L.g, 0, none⟩))) 0 rfl rfl (hon 0 (by kernel_rfl)) rfl
            replace ha := Aside0.mk ha
            have B0 := Aside0.mk Q_B0
            refine value_ (w1 := w') (v := .pointer (some ⟨L.g, 0, none⟩)) (by rfl) rfl ?_ ?_
            · go_simp
              (try simp only [i64_w])
              try rfl
            refine hK.out _ _ ⟨(by rw [ha.out]; exact putSel_upk 1 hb_ rfl rfl rfl), Q_B0⟩
          refine steps_cons ?_ ?_
          · rintro b a w' ⟨ha, Q_B0⟩ hb_ hon hoff
            refine ⟨_, rfl, fun K hK => ?_⟩
            have e32 : a.tmps[32]? = some (.pointer (some ⟨L.g, 0, none⟩)) := by rw [ha]; exact putSel_on (e := (1, 32, .pointer (some ⟨L.g, 0, none⟩))) 1 rfl rfl (hon 1 (by kernel_rfl)) rfl
            replace ha := Aside0.mk ha
            have B0 := Aside0.mk Q_B0
            refine value_ (w1 := w') (v := .pointer (some ⟨L.g, 3, none⟩)) (by rfl) rfl ?_ ?_
            · go_simp
              (try simp only [i64_w])
              try rfl
            refine hK.out _ _ ⟨(by rw [ha.out]; exact putSel_upk 2 hb_ rfl rfl rfl), Q_B0⟩
          refine steps_cons ?_ ?_
          · rintro b a w' ⟨ha, Q_B0⟩ hb_ hon hoff
            refine ⟨_, rfl, fun K hK => ?_⟩
            have e33 : a.tmps[33]? = some (.pointer (some ⟨L.g, 3, none⟩)) := by rw [ha]; exact putSel_on (e := (2, 33, .pointer (some ⟨L.g, 3, none⟩))) 2 rfl rfl (hon 2 (by kernel_rfl)) rfl
            replace ha := Aside0.mk ha
            have B0 := Aside0.mk Q_B0
            have c_ := (top_cells (H4.out.below B0.out)).2.2.2.1
            refine value_ (w1 := w') (v := .slice (some ⟨L.gm, 0, none⟩) (marks D).length L.cm) (by rfl) rfl ?_ ?_
            · go_simp
              (try simp only [i64_w])
              try rfl
            refine hK.out _ _ ⟨(by rw [ha.out]; exact putSel_upk 3 hb_ rfl rfl rfl), Q_B0⟩
          refine steps_cons ?_ ?_
          · rintro b a w' ⟨ha, Q_B0⟩ hb_ hon hoff
            refine ⟨_, rfl, fun K hK => ?_⟩
            have e4 : a.tmps[4]? = some (.pointer (some ⟨g4, 0, none⟩)) := by rw [ha]; exact (putSel_off rfl).trans rfl
            replace ha := Aside0.mk ha
            have B0 := Aside0.mk Q_B0
            refine value_ (w1 := w') (v := .pointer (some ⟨g4, 0, none⟩)) (by rfl) rfl ?_ ?_
            · go_simp
              (try simp only [i64_w])
              try rfl
            refine hK.out _ _ ⟨(by rw [ha.out]; exact putSel_upk 4 hb_ rfl rfl rfl), Q_B0⟩
          refine steps_cons ?_ ?_
          · rintro b a w' ⟨ha, Q_B0⟩ hb_ hon hoff
            refine ⟨_, rfl, fun K hK => ?_⟩
            have e35 : a.tmps[35]? = some (.pointer (some ⟨g4, 0, none⟩)) := by rw [ha]; exact putSel_on (e := (4, 35, .pointer (some ⟨g4, 0, none⟩))) 4 rfl rfl (hon 4 (by kernel_rfl)) rfl
            replace ha := Aside0.mk ha
            have B0 := Aside0.mk Q_B0
            have c_ := blk_cell (blk_below HZ4_4.out B0.out) 0
            refine value_ (w1 := w') (v := .int .i64 (n : Int)) (by rfl) rfl ?_ ?_
            · go_simp
              (try simp only [i64_w])
              try rfl
            refine hK.out _ _ ⟨(by rw [ha.out]; exact putSel_upk 5 hb_ rfl rfl rfl), Q_B0⟩
          refine steps_cons ?_ ?_
          · rintro b a w' ⟨ha, Q_B0⟩ hb_ hon hoff
            refine ⟨_, rfl, fun K hK => ?_⟩
            have e34 : a.tmps[34]? = some (.slice (some ⟨L.gm, 0, none⟩) (marks D).length L.cm) := by rw [ha]; exact putSel_on (e := (3, 34, .slice (some ⟨L.gm, 0, none⟩) (marks D).length L.cm)) 3 rfl rfl (hon 3 (by kernel_rfl)) rfl
            have e36 : a.tmps[36]? = some (.int .i64 (n : Int)) := by rw [ha]; exact putSel_on (e := (5, 36, .int .i64 (n : Int))) 5 rfl rfl (hon 5 (by kernel_rfl)) rfl
            replace ha := Aside0.mk ha
            have B0 := Aside0.mk Q_B0
            have p_ := HQ.out.1
            have q_ := HQ.out.2
            refine value_ (w1 := w') (v := .pointer (some ⟨L.gm, n, none⟩)) (by rfl) rfl ?_ ?_
            · go_simp
              (try simp only [i64_w])
              try rfl
            refine hK.out _ _ ⟨(by rw [ha.out]; exact putSel_upk 6 hb_ rfl rfl rfl), Q_B0⟩
          refine steps_cons ?_ ?_
          · rintro b a w' ⟨ha, Q_B0⟩ hb_ hon hoff
            refine ⟨_, rfl, fun K hK => ?_⟩
            have e37 : a.tmps[37]? = some (.pointer (some ⟨L.gm, n, none⟩)) := by rw [ha]; exact putSel_on (e := (6, 37, .pointer (some ⟨L.gm, n, none⟩))) 6 rfl rfl (hon 6 (by kernel_rfl)) rfl
            replace ha := Aside0.mk ha
            have B0 := Aside0.mk Q_B0
            have c_ := (H4.out.below B0.out).mb.cell (marks_at HN.out.1)
            rw [← HBM.out] at c_
            refine value_ (w1 := w') (v := .bool bm) (by rfl) rfl ?_ ?_
            · go_simp
              (try simp only [i64_w])
              try rfl
            refine hK.out _ _ ⟨(by rw [ha.out]; exact putSel_upk 7 hb_ rfl rfl rfl), Q_B0⟩
          refine steps_cons ?_ ?_
          · rintro b a w' ⟨ha, Q_B0⟩ hb_ hon hoff
            refine ⟨_, rfl, fun K hK => ?_⟩
            have e38 : a.tmps[38]? = some (.bool bm) := by rw [ha]; exact putSel_on (e := (7, 38, .bool bm)) 7 rfl rfl (hon 7 (by kernel_rfl)) rfl
            replace ha := Aside0.mk ha
            have B0 := Aside0.mk Q_B0
            refine value_ (w1 := w') (v := .bool bm) (by rfl) rfl ?_ ?_
            · go_simp
              (try simp only [i64_w])
              try rfl
            refine hK.out _ _ ⟨(by rw [ha.out]; exact putSel_upk 8 hb_ rfl rfl rfl), Q_B0⟩
          exact steps_nil
        rintro b a w7 hall ⟨ha, Q_B0⟩
        clear B0
        have hb0_ := hall 0 (by kernel_rfl)
        have hb1_ := hall 1 (by kernel_rfl)
        have hb2_ := hall 2 (by kernel_rfl)
        have hb3_ := hall 3 (by kernel_rfl)
        have hb4_ := hall 4 (by kernel_rfl)
        have hb5_ := hall 5 (by kernel_rfl)
        have hb6_ := hall 6 (by kernel_rfl)
        have hb7_ := hall 7 (by kernel_rfl)
        have hb8_ := hall 8 (by kernel_rfl)
        subst ha
        simp only [putSel, hb0_, hb1_, hb2_, hb3_, hb4_, hb5_, hb6_, hb7_, hb8_, if_true, Act.put, List.setIfInBounds_toArray, List.set_cons_zero, List.set_cons_succ]
        have B0 := Aside0.mk Q_B0
        clear Q_B0
        clear hall hb0_ hb1_ hb2_ hb3_ hb4_ hb5_ hb6_ hb7_ hb8_
        have HB7 := Aside0.mk (below_then HB4.out HB4.out.size B0.out)
        have H7 := Aside0.mk (H4.out.below B0.out)
        have HZ4_7 := Aside0.mk (blk_below HZ4_4.out B0.out)
        have HZ5_7 := Aside0.mk (blk_below HZ5_4.out B0.out)
        clear B0 H4 HZ4_4 HZ5_4 HB4
        cases bm with
        | true =>
          have HR1 : Aside0 (r = (12, D)) := ⟨by rw [HRR.out]; unfold Dv.prog; rw [if_neg (by rw [HD0.out]; decide), if_neg (by rw [HHH.out, HLN.out]; simp), if_pos HBM.out.symm]⟩
          go_wp2_with fail
          go_ret
          rw [HR1.out]
          exact ⟨rfl, (H00.out.below HB7.out).newer_ H00.out.lt, Turn.of_below HB7.out _⟩
        | false =>
          go_upto_region 9 with fail
          obtain ⟨nx, hnx⟩ : ∃ x, x = D.next.getD n 0 := ⟨_, rfl⟩
          obtain ⟨bq, hbq⟩ : ∃ x, x = (pg != nx) := ⟨_, rfl⟩
          have HNX := Aside0.mk hnx
          have HBQ := Aside0.mk hbq.symm
          have HNC : Aside0 ((D.next.map (Value.int .i64))[n]? = some (.int .i64 nx)) := ⟨by rw [hnx]; exact ints_at (by have := H00.out.ok.nl; have := HN.out.1; omega)⟩
          have B0 := Aside0.mk (below_drew1 (Below.refl w7.heap.size w7))
          clear hnx hbq
          refine start_ (n := 12) (S := fun w' => True) (ds := []) #[false, false, false, false, false, false, false, false, false, false, false, false] (by kernel_rfl) rfl rfl trivial (fun hHeld => ?_)
          refine with_tabW prog9.tab9 prog9.bits9 (fun HT_ HW_ => ?_)
          generalize w7.drew = wq at B0 hHeld ⊢
          refine inv_at [0, 1, 2, 3, 4, 5, 6, 7, 8, 9, 10, 11] (fun a0_ b a w' => a = putSel a0_ b [(0, 40, .pointer (some ⟨g4, 1, none⟩)), (1, 41, .int .i64 pg), (2, 42, .pointer (some ⟨L.g, 0, none⟩)), (3, 43, .pointer (some ⟨L.g, 0, none⟩)), (4, 44, .pointer (some ⟨L.g, 5, none⟩)), (5, 45, .slice (some ⟨L.gn, 0, none⟩) D.next.length L.cn), (6, 46, .pointer (some ⟨g4, 0, none⟩)), (7, 47, .int .i64 (n : Int)), (8, 48, .pointer (some ⟨L.gn, n, none⟩)), (9, 49, .int .i64 nx), (10, 50, .bool bq), (11, 39, .bool bq)] ∧ (Below w7.heap.size w7 w')) HT_.out HW_.out (by kernel_rfl) (by kernel_rfl) ?_ ?_ ?_
          · exact ⟨by simp only [putSel, Bool.false_eq_true, if_false], B0.out⟩
          · skip
            clear B0
            refine steps_cons ?_ ?_
            · rintro b a w' ⟨ha, Q_B0⟩ hb_ hon hoff
              refine ⟨_, rfl, fun K hK => ?_⟩
              have e4 : a.tmps[4]? = some (.pointer (some ⟨g4, 0, none⟩)) := by rw [ha]; exact (putSel_off rfl).trans rfl
              replace ha := Aside0.mk ha
              have B0 := Aside0.mk Q_B0
              refine value_ (w1 := w') (v := .pointer (some ⟨g4, 1, none⟩)) (by rfl) rfl ?_ ?_
              · go_simp
                (try simp only [i64_w])
                try rfl
              refine hK.out _ _ ⟨(by rw [ha.out]; exact putSel_upk 0 hb_ rfl rfl rfl), Q_B0⟩
            refine steps_cons ?_ ?_
            · rintro b a w' ⟨ha, Q_B0⟩ hb_ hon hoff
              refine ⟨_, rfl, fun K hK => ?_⟩
              have e40 : a.tmps[40]? = some (.pointer (some ⟨g4, 1, none⟩)) := by rw [ha]; exact putSel_on (e := (0, 40, .pointer (some ⟨g4, 1, none⟩))) 0 rfl rfl (hon 0 (by kernel_rfl)) rfl
              replace ha := Aside0.mk ha
              have B0 := Aside0.mk Q_B0
              have c_ := blk_cell (blk_below HZ4_7.out B0.out) 1
              refine value_ (w1 := w') (v := .int .i64 pg) (by rfl) rfl ?_ ?_
              · go_simp
                (try simp only [i64_w])
                try rfl
              refine hK.out _ _ ⟨(by rw [ha.out]; exact putSel_upk 1 hb_ rfl rfl rfl), Q_B0⟩
            refine steps_cons ?_ ?_
            · rintro b a w' ⟨ha, Q_B0⟩ hb_ hon hoff
              refine ⟨_, rfl, fun K hK => ?_⟩
              have e0 : a.tmps[0]? = some (.pointer (some ⟨L.g, 0, none⟩)) := by rw [ha]; exact (putSel_off rfl).trans rfl
              replace ha := Aside0.mk ha
              have B0 := Aside0.mk Q_B0
              refine value_ (w1 := w') (v := .pointer (some ⟨L.g, 0, none⟩)) (by rfl) rfl ?_ ?_
              · go_simp
                (try simp only [i64_w])
                try rfl
              refine hK.out _ _ ⟨(by rw [ha.out]; exact putSel_upk 2 hb_ rfl rfl rfl), Q_B0⟩
            refine steps_cons ?_ ?_
            · rintro b a w' ⟨ha, Q_B0⟩ hb_ hon hoff
              refine ⟨_, rfl, fun K hK => ?_⟩
              have e42 : a.tmps[42]? = some (.pointer (some ⟨L.g, 0, none⟩)) := by rw [ha]; exact putSel_on (e := (2, 42, .pointer (some ⟨L.g, 0, none⟩))) 2 rfl rfl (hon 2 (by kernel_rfl)) rfl
              replace ha := Aside0.mk ha
              have B0 := Aside0.mk Q_B0
              refine value_ (w1 := w') (v := .pointer (some ⟨L.g, 0, none⟩)) (by rfl) rfl ?_ ?_
              · go_simp
                (try simp only [i64_w])
                try rfl
              refine hK.out _ _ ⟨(by rw [ha.out]; exact putSel_upk 3 hb_ rfl rfl rfl), Q_B0⟩
            refine steps_cons ?_ ?_
            · rintro b a w' ⟨ha, Q_B0⟩ hb_ hon hoff
              refine ⟨_, rfl, fun K hK => ?_⟩
              have e43 : a.tmps[43]? = some (.pointer (some ⟨L.g, 0, none⟩)) := by rw [ha]; exact putSel_on (e := (3, 43, .pointer (some ⟨L.g, 0, none⟩))) 3 rfl rfl (hon 3 (by kernel_rfl)) rfl
              replace ha := Aside0.mk ha
              have B0 := Aside0.mk Q_B0
              refine value_ (w1 := w') (v := .pointer (some ⟨L.g, 5, none⟩)) (by rfl) rfl ?_ ?_
              · go_simp
                (try simp only [i64_w])
                try rfl
              refine hK.out _ _ ⟨(by rw [ha.out]; exact putSel_upk 4 hb_ rfl rfl rfl), Q_B0⟩
            refine steps_cons ?_ ?_
            · rintro b a w' ⟨ha, Q_B0⟩ hb_ hon hoff
              refine ⟨_, rfl, fun K hK => ?_⟩
              have e44 : a.tmps[44]? = some (.pointer (some ⟨L.g, 5, none⟩)) := by rw [ha]; exact putSel_on (e := (4, 44, .pointer (some ⟨L.g, 5, none⟩))) 4 rfl rfl (hon 4 (by kernel_rfl)) rfl
              replace ha := Aside0.mk ha
              have B0 := Aside0.mk Q_B0
              have c_ := (top_cells (H7.out.below B0.out)).2.2.2.2.2.1
              refine value_ (w1 := w') (v := .slice (some ⟨L.gn, 0, none⟩) D.next.length L.cn) (by rfl) rfl ?_ ?_
              · go_simp
                (try simp only [i64_w])
                try rfl
              refine hK.out _ _ ⟨(by rw [ha.out]; exact putSel_upk 5 hb_ rfl rfl rfl), Q_B0⟩
            refine steps_cons ?_ ?_
            · rintro b a w' ⟨ha, Q_B0⟩ hb_ hon hoff
              refine ⟨_, rfl, fun K hK => ?_⟩
              have e4 : a.tmps[4]? = some (.pointer (some ⟨g4, 0, none⟩)) := by rw [ha]; exact (putSel_off rfl).trans rfl
              replace ha := Aside0.mk ha
              have B0 := Aside0.mk Q_B0
              refine value_ (w1 := w') (v := .pointer (some ⟨g4, 0, none⟩)) (by rfl) rfl ?_ ?_
              · go_simp
                (try simp only [i64_w])
                try rfl
              refine hK.out _ _ ⟨(by rw [ha.out]; exact putSel_upk 6 hb_ rfl rfl rfl), Q_B0⟩
            refine steps_cons ?_ ?_
            · rintro b a w' ⟨ha, Q_B0⟩ hb_ hon hoff
              refine ⟨_, rfl, fun K hK => ?_⟩
              have e46 : a.tmps[46]? = some (.pointer (some ⟨g4, 0, none⟩)) := by rw [ha]; exact putSel_on (e := (6, 46, .pointer (some ⟨g4, 0, none⟩))) 6 rfl rfl (hon 6 (by kernel_rfl)) rfl
              replace ha := Aside0.mk ha
              have B0 := Aside0.mk Q_B0
              have c_ := blk_cell (blk_below HZ4_7.out B0.out) 0
              refine value_ (w1 := w') (v := .int .i64 (n : Int)) (by rfl) rfl ?_ ?_
              · go_simp
                (try simp only [i64_w])
                try rfl
              refine hK.out _ _ ⟨(by rw [ha.out]; exact putSel_upk 7 hb_ rfl rfl rfl), Q_B0⟩
            refine steps_cons ?_ ?_
            · rintro b a w' ⟨ha, Q_B0⟩ hb_ hon hoff
              refine ⟨_, rfl, fun K hK => ?_⟩
              have e45 : a.tmps[45]? = some (.slice (some ⟨L.gn, 0, none⟩) D.next.length L.cn) := by rw [ha]; exact putSel_on (e := (5, 45, .slice (some ⟨L.gn, 0, none⟩) D.next.length L.cn)) 5 rfl rfl (hon 5 (by kernel_rfl)) rfl
              have e47 : a.tmps[47]? = some (.int .i64 (n : Int)) := by rw [ha]; exact putSel_on (e := (7, 47, .int .i64 (n : Int))) 7 rfl rfl (hon 7 (by kernel_rfl)) rfl
              replace ha := Aside0.mk ha
              have B0 := Aside0.mk Q_B0
              have p_ := HQ2.out.1
              have q_ := HQ2.out.2
              refine value_ (w1 := w') (v := .pointer (some ⟨L.gn, n, none⟩)) (by rfl) rfl ?_ ?_
              · go_simp
                (try simp only [i64_w])
                try rfl
              refine hK.out _ _ ⟨(by rw [ha.out]; exact putSel_upk 8 hb_ rfl rfl rfl), Q_B0⟩
            refine steps_cons ?_ ?_
            · rintro b a w' ⟨ha, Q_B0⟩ hb_ hon hoff
              refine ⟨_, rfl, fun K hK => ?_⟩
              have e48 : a.tmps[48]? = some (.pointer (some ⟨L.gn, n, none⟩)) := by rw [ha]; exact putSel_on (e := (8, 48, .pointer (some ⟨L.gn, n, none⟩))) 8 rfl rfl (hon 8 (by kernel_rfl)) rfl
              replace ha := Aside0.mk ha
              have B0 := Aside0.mk Q_B0
              have c_ := (H7.out.below B0.out).nx.cell HNC.out
              refine value_ (w1 := w') (v := .int .i64 nx) (by rfl) rfl ?_ ?_
              · go_simp
                (try simp only [i64_w])
                try rfl
              refine hK.out _ _ ⟨(by rw [ha.out]; exact putSel_upk 9 hb_ rfl rfl rfl), Q_B0⟩
            refine steps_cons ?_ ?_
            · rintro b a w' ⟨ha, Q_B0⟩ hb_ hon hoff
              refine ⟨_, rfl, fun K hK => ?_⟩
              have e41 : a.tmps[41]? = some (.int .i64 pg) := by rw [ha]; exact putSel_on (e := (1, 41, .int .i64 pg)) 1 rfl rfl (hon 1 (by kernel_rfl)) rfl
              have e49 : a.tmps[49]? = some (.int .i64 nx) := by rw [ha]; exact putSel_on (e := (9, 49, .int .i64 nx)) 9 rfl rfl (hon 9 (by kernel_rfl)) rfl
              replace ha := Aside0.mk ha
              have B0 := Aside0.mk Q_B0
              have q_ := HBQ.out
              refine value_ (w1 := w') (v := .bool bq) (by rfl) rfl ?_ ?_
              · go_simp
                (try simp only [i64_w])
                try rfl
              refine hK.out _ _ ⟨(by rw [ha.out]; exact putSel_upk 10 hb_ rfl rfl rfl), Q_B0⟩
            refine steps_cons ?_ ?_
            · rintro b a w' ⟨ha, Q_B0⟩ hb_ hon hoff
              refine ⟨_, rfl, fun K hK => ?_⟩
              have e50 : a.tmps[50]? = some (.bool bq) := by rw [ha]; exact putSel_on (e := (10, 50, .bool bq)) 10 rfl rfl (hon 10 (by kernel_rfl)) rfl
              replace ha := Aside0.mk ha
              have B0 := Aside0.mk Q_B0
              refine value_ (w1 := w') (v := .bool bq) (by rfl) rfl ?_ ?_
              · go_simp
                (try simp only [i64_w])
                try rfl
              refine hK.out _ _ ⟨(by rw [ha.out]; exact putSel_upk 11 hb_ rfl rfl rfl), Q_B0⟩
            exact steps_nil
          rintro b a w9 hall ⟨ha, Q_B0⟩
          clear B0
          have hb0_ := hall 0 (by kernel_rfl)
          have hb1_ := hall 1 (by kernel_rfl)
          have hb2_ := hall 2 (by kernel_rfl)
          have hb3_ := hall 3 (by kernel_rfl)
          have hb4_ := hall 4 (by kernel_rfl)
          have hb5_ := hall 5 (by kernel_rfl)
          have hb6_ := hall 6 (by kernel_rfl)
          have hb7_ := hall 7 (by kernel_rfl)
          have hb8_ := hall 8 (by kernel_rfl)
          have hb9_ := hall 9 (by kernel_rfl)
          have hb10_ := hall 10 (by kernel_rfl)
          have hb11_ := hall 11 (by kernel_rfl)
          subst ha
          simp only [putSel, hb0_, hb1_, hb2_, hb3_, hb4_, hb5_, hb6_, hb7_, hb8_, hb9_, hb10_, hb11_, if_true, Act.put, List.setIfInBounds_toArray, List.set_cons_zero, List.set_cons_succ]
          have B0 := Aside0.mk Q_B0
          clear Q_B0
          clear hall hb0_ hb1_ hb2_ hb3_ hb4_ hb5_ hb6_ hb7_ hb8_ hb9_ hb10_ hb11_
          have HB9 := Aside0.mk (below_then HB7.out HB7.out.size B0.out)
          have H9 := Aside0.mk (H7.out.below B0.out)
          have HZ4_9 := Aside0.mk (blk_below HZ4_7.out B0.out)
          have HZ5_9 := Aside0.mk (blk_below HZ5_7.out B0.out)
          clear B0 H7 HZ4_7 HZ5_7 HB7
          cases bq with
          | true =>
            have HR1 : Aside0 (r = (11, D)) := ⟨by rw [HRR.out]; unfold Dv.prog; rw [if_neg (by rw [HD0.out]; decide), if_neg (by rw [HHH.out, HLN.out]; simp), if_neg (by rw [← HBM.out]; decide), if_pos (by rw [Int.toNat_natCast, ← HNX.out]; have := HBQ.out; simp at this; exact fun e => this e.symm)]⟩
            go_wp2_with fail
            go_ret
            rw [HR1.out]
            exact ⟨rfl, (H00.out.below HB9.out).newer_ H00.out.lt, Turn.of_below HB9.out _⟩
          | false =>
            obtain rfl : pg = nx := by have := HBQ.out; simpa using this
            have HR1 : Aside0 (r = (ended D.fault.1, D.progD (n : Int) pg l)) := ⟨by rw [HRR.out]; unfold Dv.prog; rw [if_neg (by rw [HD0.out]; decide), if_neg (by rw [HHH.out, HLN.out]; simp), if_neg (by rw [← HBM.out]; decide), if_neg (by rw [Int.toNat_natCast, ← HNX.out]; simp)]⟩
            have HBG := Aside0.mk (begin_calls H9.out)
            go_upto_region 12 with (go_at_call 64; refine HBG.out.mono ?_; rintro e w10 ⟨A3, c3, rfl, hc3, hF3, hD3, hT3⟩; have HE3 := Aside0.mk (And.intro hc3 (And.intro hF3 (And.intro hD3 hT3))); clear hc3 hF3 hD3 hT3)
            obtain ⟨m, hm⟩ : ∃ m, m = D.fault.2 := ⟨_, rfl⟩
            rw [← hm] at HE3 ⊢
            have HM := Aside0.mk hm
            have hz10 := heap_alloc_new w10 (.cells #[.slice A3 m.length c3] 38)
            have hb10 := below_alloc (Below.refl w10.heap.size w10) (.cells #[.slice A3 m.length c3] 38)
            have hn4 : ¬ L.S g4 := fun hS => by have := H00.out.lt g4 hS; have := HG.out.1; omega
            have hn5 : ¬ L.S g5 := fun hS => by have := H00.out.lt g5 hS; have := HG.out.2; omega
            have hn10 : ¬ L.S w10.heap.size := fun hS => by have := H00.out.lt _ hS; have := HB9.out.size; have := HE3.out.2.2.2.size; omega
            have H11 := Aside0.mk (HE3.out.2.2.1.below hb10)
            have T11 := Aside0.mk (((Turn.of_below HB9.out L.S).trans HE3.out.2.2.2 (fun k hk => .inl hk)).below hb10)
            have F11 := Aside0.mk (Kd.F_below HE3.out.2.1 hb10)
            have Z4_11 := Aside0.mk (blk_below (blk_turn HZ4_9.out HE3.out.2.2.2 hn4) hb10)
            have Z5_11 := Aside0.mk (blk_below (blk_turn HZ5_9.out HE3.out.2.2.2 hn5) hb10)
            have HC3 := Aside0.mk HE3.out.1
            generalize w10.alloc (.cells #[.slice A3 m.length c3] 38) = W11 at hz10 hb10 H11 T11 F11 Z4_11 Z5_11 ⊢
            generalize w10.heap.size = g10 at hz10 hn10 ⊢
            have Z10_11 := Aside0.mk hz10
            have HNS := Aside0.mk (And.intro hn4 (And.intro hn5 hn10))
            have HNXR := Aside0.mk (show 0 ≤ pg + 1 ∧ pg + 1 ≤ D.P by have := HN.out; omega)
            have HWP : Aside0 (IntKind.i64.wrap (pg + 1) = pg + 1) := ⟨by have := HN.out; have := H00.out.ok.p2; rw [i64_w]; unfold wrap64; omega⟩
            have B0 := Aside0.mk (below_drew1 (Below.refl W11.heap.size W11))
            clear hz10 hb10 hn4 hn5 hn10 HBG hm H9 HZ4_9 HZ5_9 HE3
            refine start_ (n := 11) (S := fun w' => True) (ds := []) #[false, false, false, false, false, false, false, false, false, false, false] (by kernel_rfl) rfl rfl trivial (fun hHeld => ?_)
            refine with_tabW prog12.tab12 prog12.bits12 (fun HT_ HW_ => ?_)
            generalize W11.drew = wq at B0 hHeld ⊢
            refine inv_at [0, 1, 2, 3, 4, 5, 6, 7, 8, 9, 10] (fun a0_ b a w' => a = putSel a0_ b [(0, 56, .pointer (some ⟨L.g, 0, none⟩)), (1, 57, .pointer (some ⟨L.g, 0, none⟩)), (2, 58, .pointer (some ⟨L.g, 5, none⟩)), (3, 59, .slice (some ⟨L.gn, 0, none⟩) D.next.length L.cn), (4, 60, .pointer (some ⟨g4, 0, none⟩)), (5, 61, .int .i64 (n : Int)), (6, 62, .pointer (some ⟨L.gn, n, none⟩)), (7, 63, .int .i64 pg), (8, 64, .int .i64 (pg + 1)), (9, 65, .pointer (some ⟨L.gn, n, none⟩))] ∧ (b 10 = false → Below W11.heap.size W11 w') ∧ (b 10 = true → DV w' ok L { D.bump with next := D.next.set n (pg + 1) } ∧ Turn W11 w' L.S)) HT_.out HW_.out (by kernel_rfl) (by kernel_rfl) ?_ ?_ ?_
            · exact ⟨by simp only [putSel, Bool.false_eq_true, if_false], fun _ => B0.out, fun h_ => absurd h_ (by decide)⟩
            · skip
              clear B0
              refine steps_cons ?_ ?_
              · rintro b a w' ⟨ha, Q_B0, Q_FIN⟩ hb_ hon hoff
                refine ⟨_, rfl, fun K hK => ?_⟩
                have e0 : a.tmps[0]? = some (.pointer (some ⟨L.g, 0, none⟩)) := by rw [ha]; exact (putSel_off rfl).trans rfl
                replace ha := Aside0.mk ha
                have B0 := Aside0.mk (Q_B0 (hoff 10 (by kernel_rfl)))
                refine value_ (w1 := w') (v := .pointer (some ⟨L.g, 0, none⟩)) (by rfl) rfl ?_ ?_
                · go_simp
                  (try simp only [i64_w])
                  try rfl
                refine hK.out _ _ ⟨(by rw [ha.out]; exact putSel_upk 0 hb_ rfl rfl rfl), Q_B0, fun h0_ => absurd ((hoff 10 (by kernel_rfl)).symm.trans h0_) (by decide)⟩
              refine steps_cons ?_ ?_
              · rintro b a w' ⟨ha, Q_B0, Q_FIN⟩ hb_ hon hoff
                refine ⟨_, rfl, fun K hK => ?_⟩
                have e56 : a.tmps[56]? = some (.pointer (some ⟨L.g, 0, none⟩)) := by rw [ha]; exact putSel_on (e := (0, 56, .pointer (some ⟨L.g, 0, none⟩))) 0 rfl rfl (hon 0 (by kernel_rfl)) rfl
                replace ha := Aside0.mk ha
                have B0 := Aside0.mk (Q_B0 (hoff 10 (by kernel_rfl)))
                refine value_ (w1 := w') (v := .pointer (some ⟨L.g, 0, none⟩)) (by rfl) rfl ?_ ?_
                · go_simp
                  (try simp only [i64_w])
                  try rfl
                refine hK.out _ _ ⟨(by rw [ha.out]; exact putSel_upk 1 hb_ rfl rfl rfl), Q_B0, fun h0_ => absurd ((hoff 10 (by kernel_rfl)).symm.trans h0_) (by decide)⟩
              refine steps_cons ?_ ?_
              · rintro b a w' ⟨ha, Q_B0, Q_FIN⟩ hb_ hon hoff
                refine ⟨_, rfl, fun K hK => ?_⟩
                have e57 : a.tmps[57]? = some (.pointer (some ⟨L.g, 0, none⟩)) := by rw [ha]; exact putSel_on (e := (1, 57, .pointer (some ⟨L.g, 0, none⟩))) 1 rfl rfl (hon 1 (by kernel_rfl)) rfl
                replace ha := Aside0.mk ha
                have B0 := Aside0.mk (Q_B0 (hoff 10 (by kernel_rfl)))
                refine value_ (w1 := w') (v := .pointer (some ⟨L.g, 5, none⟩)) (by rfl) rfl ?_ ?_
                · go_simp
                  (try simp only [i64_w])
                  try rfl
                refine hK.out _ _ ⟨(by rw [ha.out]; exact putSel_upk 2 hb_ rfl rfl rfl), Q_B0, fun h0_ => absurd ((hoff 10 (by kernel_rfl)).symm.trans h0_) (by decide)⟩
              refine steps_cons ?_ ?_
              · rintro b a w' ⟨ha, Q_B0, Q_FIN⟩ hb_ hon hoff
                refine ⟨_, rfl, fun K hK => ?_⟩
                have e58 : a.tmps[58]? = some (.pointer (some ⟨L.g, 5, none⟩)) := by rw [ha]; exact putSel_on (e := (2, 58, .pointer (some ⟨L.g, 5, none⟩))) 2 rfl rfl (hon 2 (by kernel_rfl)) rfl
                replace ha := Aside0.mk ha
                have B0 := Aside0.mk (Q_B0 (hoff 10 (by kernel_rfl)))
                have c_ := (top_cells (H11.out.below B0.out)).2.2.2.2.2.1
                refine value_ (w1 := w') (v := .slice (some ⟨L.gn, 0, none⟩) D.next.length L.cn) (by rfl) rfl ?_ ?_
                · go_simp
                  (try simp only [i64_w])
                  try rfl
                refine hK.out _ _ ⟨(by rw [ha.out]; exact putSel_upk 3 hb_ rfl rfl rfl), Q_B0, fun h0_ => absurd ((hoff 10 (by kernel_rfl)).symm.trans h0_) (by decide)⟩
              refine steps_cons ?_ ?_
              · rintro b a w' ⟨ha, Q_B0, Q_FIN⟩ hb_ hon hoff
                refine ⟨_, rfl, fun K hK => ?_⟩
                have e4 : a.tmps[4]? = some (.pointer (some ⟨g4, 0, none⟩)) := by rw [ha]; exact (putSel_off rfl).trans rfl
                replace ha := Aside0.mk ha
                have B0 := Aside0.mk (Q_B0 (hoff 10 (by kernel_rfl)))
                refine value_ (w1 := w') (v := .pointer (some ⟨g4, 0, none⟩)) (by rfl) rfl ?_ ?_
                · go_simp
                  (try simp only [i64_w])
                  try rfl
                refine hK.out _ _ ⟨(by rw [ha.out]; exact putSel_upk 4 hb_ rfl rfl rfl), Q_B0, fun h0_ => absurd ((hoff 10 (by kernel_rfl)).symm.trans h0_) (by decide)⟩
              refine steps_cons ?_ ?_
              · rintro b a w' ⟨ha, Q_B0, Q_FIN⟩ hb_ hon hoff
                refine ⟨_, rfl, fun K hK => ?_⟩
                have e60 : a.tmps[60]? = some (.pointer (some ⟨g4, 0, none⟩)) := by rw [ha]; exact putSel_on (e := (4, 60, .pointer (some ⟨g4, 0, none⟩))) 4 rfl rfl (hon 4 (by kernel_rfl)) rfl
                replace ha := Aside0.mk ha
                have B0 := Aside0.mk (Q_B0 (hoff 10 (by kernel_rfl)))
                have c_ := blk_cell (blk_below Z4_11.out B0.out) 0
                refine value_ (w1 := w') (v := .int .i64 (n : Int)) (by rfl) rfl ?_ ?_
                · go_simp
                  (try simp only [i64_w])
                  try rfl
                refine hK.out _ _ ⟨(by rw [ha.out]; exact putSel_upk 5 hb_ rfl rfl rfl), Q_B0, fun h0_ => absurd ((hoff 10 (by kernel_rfl)).symm.trans h0_) (by decide)⟩
              refine steps_cons ?_ ?_
              · rintro b a w' ⟨ha, Q_B0, Q_FIN⟩ hb_ hon hoff
                refine ⟨_, rfl, fun K hK => ?_⟩
                have e59 : a.tmps[59]? = some (.slice (some ⟨L.gn, 0, none⟩) D.next.length L.cn) := by rw [ha]; exact putSel_on (e := (3, 59, .slice (some ⟨L.gn, 0, none⟩) D.next.length L.cn)) 3 rfl rfl (hon 3 (by kernel_rfl)) rfl
                have e61 : a.tmps[61]? = some (.int .i64 (n : Int)) := by rw [ha]; exact putSel_on (e := (5, 61, .int .i64 (n : Int))) 5 rfl rfl (hon 5 (by kernel_rfl)) rfl
                replace ha := Aside0.mk ha
                have B0 := Aside0.mk (Q_B0 (hoff 10 (by kernel_rfl)))
                have p_ := HQ2.out.1
                have q_ := HQ2.out.2
                refine value_ (w1 := w') (v := .pointer (some ⟨L.gn, n, none⟩)) (by rfl) rfl ?_ ?_
                · go_simp
                  (try simp only [i64_w])
                  try rfl
                refine hK.out _ _ ⟨(by rw [ha.out]; exact putSel_upk 6 hb_ rfl rfl rfl), Q_B0, fun h0_ => absurd ((hoff 10 (by kernel_rfl)).symm.trans h0_) (by decide)⟩
              refine steps_cons ?_ ?_
              · rintro b a w' ⟨ha, Q_B0, Q_FIN⟩ hb_ hon hoff
                refine ⟨_, rfl, fun K hK => ?_⟩
                have e62 : a.tmps[62]? = some (.pointer (some ⟨L.gn, n, none⟩)) := by rw [ha]; exact putSel_on (e := (6, 62, .pointer (some ⟨L.gn, n, none⟩))) 6 rfl rfl (hon 6 (by kernel_rfl)) rfl
                replace ha := Aside0.mk ha
                have B0 := Aside0.mk (Q_B0 (hoff 10 (by kernel_rfl)))
                have c_ := (H11.out.below B0.out).nx.cell HNC.out
                refine value_ (w1 := w') (v := .int .i64 pg) (by rfl) rfl ?_ ?_
                · go_simp
                  (try simp only [i64_w])
                  try rfl
                refine hK.out _ _ ⟨(by rw [ha.out]; exact putSel_upk 7 hb_ rfl rfl rfl), Q_B0, fun h0_ => absurd ((hoff 10 (by kernel_rfl)).symm.trans h0_) (by decide)⟩
              refine steps_cons ?_ ?_
              · rintro b a w' ⟨ha, Q_B0, Q_FIN⟩ hb_ hon hoff
                refine ⟨_, rfl, fun K hK => ?_⟩
                have e63 : a.tmps[63]? = some (.int .i64 pg) := by rw [ha]; exact putSel_on (e := (7, 63, .int .i64 pg)) 7 rfl rfl (hon 7 (by kernel_rfl)) rfl
                replace ha := Aside0.mk ha
                have B0 := Aside0.mk (Q_B0 (hoff 10 (by kernel_rfl)))
                have q_ := HWP.out
                refine value_ (w1 := w') (v := .int .i64 (pg + 1)) (by rfl) rfl ?_ ?_
                · go_simp
                  (try simp only [i64_w])
                  try rfl
                refine hK.out _ _ ⟨(by rw [ha.out]; exact putSel_upk 8 hb_ rfl rfl rfl), Q_B0, fun h0_ => absurd ((hoff 10 (by kernel_rfl)).symm.trans h0_) (by decide)⟩
              refine steps_cons ?_ ?_
              · rintro b a w' ⟨ha, Q_B0, Q_FIN⟩ hb_ hon hoff
                refine ⟨_, rfl, fun K hK => ?_⟩
                have e59 : a.tmps[59]? = some (.slice (some ⟨L.gn, 0, none⟩) D.next.length L.cn) := by rw [ha]; exact putSel_on (e := (3, 59, .slice (some ⟨L.gn, 0, none⟩) D.next.length L.cn)) 3 rfl rfl (hon 3 (by kernel_rfl)) rfl
                have e61 : a.tmps[61]? = some (.int .i64 (n : Int)) := by rw [ha]; exact putSel_on (e := (5, 61, .int .i64 (n : Int))) 5 rfl rfl (hon 5 (by kernel_rfl)) rfl
                replace ha := Aside0.mk ha
                have B0 := Aside0.mk (Q_B0 (hoff 10 (by kernel_rfl)))
                have p_ := HQ2.out.1
                have q_ := HQ2.out.2
                refine value_ (w1 := w') (v := .pointer (some ⟨L.gn, n, none⟩)) (by rfl) rfl ?_ ?_
                · go_simp
                  (try simp only [i64_w])
                  try rfl
                refine hK.out _ _ ⟨(by rw [ha.out]; exact putSel_upk 9 hb_ rfl rfl rfl), Q_B0, fun h0_ => absurd ((hoff 10 (by kernel_rfl)).symm.trans h0_) (by decide)⟩
              refine steps_cons ?_ ?_
              · rintro b a w' ⟨ha, Q_B0, Q_FIN⟩ hb_ hon hoff
                refine ⟨_, rfl, fun K hK => ?_⟩
                have e65 : a.tmps[65]? = some (.pointer (some ⟨L.gn, n, none⟩)) := by rw [ha]; exact putSel_on (e := (9, 65, .pointer (some ⟨L.gn, n, none⟩))) 9 rfl rfl (hon 9 (by kernel_rfl)) rfl
                have e64 : a.tmps[64]? = some (.int .i64 (pg + 1)) := by rw [ha]; exact putSel_on (e := (8, 64, .int .i64 (pg + 1))) 8 rfl rfl (hon 8 (by kernel_rfl)) rfl
                replace ha := Aside0.mk ha
                have B0 := Aside0.mk (Q_B0 hb_)
                have c_ := (H11.out.below B0.out).nx.cell HNC.out
                have fr_ := (H11.out.below B0.out).nx.frozen n
                refine skip_ (w1 := ?_) (by rfl) rfl ?_ ?_
                rotate_left
                · go_simp
                  rfl
                refine hK.out _ _ ⟨(by rw [ha.out]; exact putSel_none (v := undef) rfl), fun h0_ => absurd ((up_self b 10).symm.trans h0_) (by decide), fun _ => ⟨(H11.out.below B0.out).set_next n (pg + 1) HNXR.out, (Turn.of_below B0.out L.S).setCell (p := ⟨L.gn, n, none⟩) (.inl (.inr (.inr (.inl rfl)))) _⟩⟩
              exact steps_nil
            rintro b a w12 hall ⟨ha, Q_B0, Q_FIN⟩
            clear B0
            have hb0_ := hall 0 (by kernel_rfl)
            have hb1_ := hall 1 (by kernel_rfl)
            have hb2_ := hall 2 (by kernel_rfl)
            have hb3_ := hall 3 (by kernel_rfl)
            have hb4_ := hall 4 (by kernel_rfl)
            have hb5_ := hall 5 (by kernel_rfl)
            have hb6_ := hall 6 (by kernel_rfl)
            have hb7_ := hall 7 (by kernel_rfl)
            have hb8_ := hall 8 (by kernel_rfl)
            have hb9_ := hall 9 (by kernel_rfl)
            have hb10_ := hall 10 (by kernel_rfl)
            subst ha
            simp only [putSel, hb0_, hb1_, hb2_, hb3_, hb4_, hb5_, hb6_, hb7_, hb8_, hb9_, hb10_, if_true, Act.put, List.setIfInBounds_toArray, List.set_cons_zero, List.set_cons_succ]
            clear Q_B0
            have FIN := Aside0.mk (Q_FIN hb10_)
            clear Q_FIN
            clear hall hb0_ hb1_ hb2_ hb3_ hb4_ hb5_ hb6_ hb7_ hb8_ hb9_ hb10_
            have T12 := Aside0.mk (T11.out.trans FIN.out.2 (fun k hk => .inl hk))
            have Z5_12 := Aside0.mk (blk_turn Z5_11.out FIN.out.2 HNS.out.2.1)
            have Z10_12 := Aside0.mk (blk_turn Z10_11.out FIN.out.2 HNS.out.2.2)
            have hnn := newer_no (W9 := w9) H00.out HB9.out.size
            have F12 := Aside0.mk (F_turn F11.out FIN.out.2 (fun k hk _ => hnn k hk))
            have GL12 := Aside0.mk (Kd.F_now (F_turn HLL.out.2.2.1 T12.out HLL.out.2.2.2))
            have hpo := page_ok H00.out.ok HI.out.2
            have hmo := fault_mask H00.out.ok
            rw [← HM.out] at hmo
            have H12 := Aside0.mk FIN.out.1
            have HCH := Aside0.mk (change_calls FIN.out.1 i HI.out.2 70 _ #[.pointer (some ⟨g5, 0, none⟩), .pointer (some ⟨g10, 0, none⟩)] Try.func70 (by kernel_rfl) rfl (progRow (D.pages.getD i []) l m) (progRow_ok hpo.1 hpo.2)
              (fun W' hW A' c' hc' hC' => prog1_calls (blk_below Z5_12.out hW) (blk_below Z10_12.out hW) ⟨HLL.out.2.1, HLL.out.1⟩ ⟨hmo.1, HC3.out⟩ hpo hc' (Kd.C_below GL12.out hW) (Kd.C_below (Kd.F_now F12.out) hW) hC' ok))
            clear FIN H11 T11 F11 Z4_11 Z5_11 Z10_11 hnn hpo hmo
            go_upto_region 14 with (go_at_call 65; refine HCH.out.mono ?_; rintro e w13 ⟨rfl, hD13, hT13⟩; have H13 := Aside0.mk hD13; have T13 := Aside0.mk (T12.out.trans hT13 (fun k hk => .inl hk)); clear hD13 hT13)
            have HEN := Aside0.mk (end_calls H13.out HD0.out D.fault.1 (fault_kind D))
            go_wp2_with (go_at_call 68; refine HEN.out.mono ?_; rintro e w14 ⟨rfl, hD14, hT14⟩; have H14 := Aside0.mk hD14; have T14 := Aside0.mk (T13.out.trans hT14 (fun k hk => .inl hk)); clear hD14 hT14)
            go_ret
            rw [HR1.out]
            have hE : D.progD (n : Int) pg l = { D.bump with next := D.next.set n (pg + 1), pages := D.pages.set i (progRow (D.pages.getD i []) l m), down := D.fault.1 == 2 } := by unfold Dv.progD; rw [← HI.out.1, ← HM.out]; rfl
            refine ⟨rfl, ?_, T14.out⟩
            show DV w14 (newer W ok) L (D.progD (n : Int) pg l)
            rw [hE]
            exact H14.out.newer2 H00.out (newer_le T12.out.size)
end Go.Proofs.Ytnchdmidaigheaa.ND
namespace Go.Proofs.Ytnchdmidaigheaa.ND
set_option linter.unusedVariables false
set_option linter.unusedSimpArgs false
open Go.RowKit Go.Proofs.Ytnchdmidaigheaa.Hp Go.Proofs.YtnchdmidaigheaaW.PrintWords Go.Proofs.YtnchdmidaigheaaW.PrintLast Go.Proofs.YtnchdmidaigheaaW.PrintMore
def xprog5.T5 : Bool × List (List Nat × List Nat) := (true, [([], []), ([0], [0]), ([1], [1]), ([2], [2]), ([], []), ([4], [4]), ([3, 5], [3, 5])])
def xprog5.B5 : List Nat := [0, 1, 3, 7, 0, 16, 63]
theorem xprog5.tab5 : rtab .any (opsOf Try.f25 5) = xprog5.T5 := by kernel_rfl
theorem xprog5.bits5 : waitsOk xprog5.T5.2 xprog5.B5 = true := by kernel_rfl
def xprog7.T7 : Bool × List (List Nat × List Nat) := (true, [([], []), ([0], [0]), ([1], [1]), ([2], [2]), ([], []), ([4], [4]), ([3, 5], [3, 5]), ([6], [6]), ([], []), ([8], [8]), ([7, 9], [7, 9])])
def xprog7.B7 : List Nat := [0, 1, 3, 7, 0, 16, 63, 127, 0, 256, 1023]
theorem xprog7.tab7 : rtab .any (opsOf Try.f25 7) = xprog7.T7 := by kernel_rfl
theorem xprog7.bits7 : waitsOk xprog7.T7.2 xprog7.B7 = true := by kernel_rfl
def xprog10.T10 : Bool × List (List Nat × List Nat) := (true, [([], []), ([0], [0]), ([], []), ([2], [2]), ([3], [3]), ([4], [4]), ([5], [5]), ([1, 6], [1, 6]), ([], []), ([8], [8]), ([7, 9], [7, 9]), ([10, 0, 1, 2, 3, 4, 5, 6, 7, 8, 9, 10], [10])])
def xprog10.B10 : List Nat := [0, 1, 0, 4, 12, 28, 60, 127, 0, 256, 1023, 2047]
theorem xprog10.tab10 : rtab .any (opsOf Try.f25 10) = xprog10.T10 := by kernel_rfl
theorem xprog10.bits10 : waitsOk xprog10.T10.2 xprog10.B10 = true := by kernel_rfl
def xprog11.T11 : Bool × List (List Nat × List Nat) := (true, [([], []), ([0], [0]), ([1], [1]), ([2], [2]), ([], []), ([], []), ([5], [5]), ([6], [6]), ([7], [7]), ([], []), ([8, 9], [8, 9]), ([10], [10]), ([11], [11]), ([], []), ([], []), ([12, 13, 14], [12, 13, 14]), ([15], [15]), ([3, 4, 0, 1, 2, 3, 4, 5, 6, 7, 8, 9, 10, 11, 12, 13, 14, 15, 16], [3, 4]), ([17, 16, 15, 0, 1, 2, 3, 4, 5, 6, 7, 8, 9, 10, 11, 12, 13, 14, 15, 16], [16, 17])])
def xprog11.B11 : List Nat := [0, 1, 3, 7, 0, 0, 32, 96, 224, 0, 992, 2016, 4064, 0, 0, 32736, 65504, 131071, 262143]
theorem xprog11.tab11 : rtab .any (opsOf Try.f25 11) = xprog11.T11 := by kernel_rfl
theorem xprog11.bits11 : waitsOk xprog11.T11.2 xprog11.B11 = true := by kernel_rfl
def xprog12.T12 : Bool × List (List Nat × List Nat) := (true, [([], []), ([0], [0]), ([1], [1]), ([2], [2]), ([], []), ([4], [4]), ([], []), ([6], [6]), ([7], [7]), ([3, 5, 0, 1, 2, 3, 4, 5, 6, 7, 8], [3, 5]), ([9, 8, 0, 1, 2, 3, 4, 5, 6, 7, 8], [8, 9])])
def xprog12.B12 : List Nat := [0, 1, 3, 7, 0, 16, 0, 64, 192, 511, 1023]
theorem xprog12.tab12 : rtab .any (opsOf Try.f25 12) = xprog12.T12 := by kernel_rfl
theorem xprog12.bits12 : waitsOk xprog12.T12.2 xprog12.B12 = true := by kernel_rfl
set_option maxHeartbeats 2000000 in
set_option maxRecDepth 100000 in
theorem xprogram_calls {W : World} {ok okl : Nat → Prop} {L : XLay} {D : Dv} (h : XV W ok L D) (bk pg : Int) (l : List Int) (A : Option Addr) (c : Nat) (hc : l.length ≤ c) (hl : isBytes l) (gl : Kd.F (Kd.int .u8) W okl A l.length l) (hno : ∀ k, okl k → k < W.heap.size → ¬ L.S k) :
    Calls Try.prog 25 #[.pointer (some ⟨L.g, 0, none⟩), .agg #[.int .i64 bk, .int .i64 pg], .slice A l.length c] W fun e w' => e = .returned (.int .i64 (D.prog bk pg l).1) ∧ XV w' ok L (D.prog bk pg l).2 ∧ Turn W w' L.S := by
  have H00 := Aside0.mk h
  obtain ⟨r, hr⟩ : ∃ r, r = D.prog bk pg l := ⟨_, rfl⟩
  rw [← hr]
  have HRR := Aside0.mk hr
  have hz4 := heap_alloc_new W (.cells #[.int .i64 bk, .int .i64 pg] 37)
  have hb4 := below_alloc (Below.refl W.heap.size W) (.cells #[.int .i64 bk, .int .i64 pg] 37)
  obtain ⟨g4, hg4⟩ : ∃ g, g = W.heap.size := ⟨_, rfl⟩
  have HLL := Aside0.mk (And.intro hc (And.intro hl (And.intro gl hno)))
  clear hc hl gl hno hr h
  go_enter Try.func25, Try.ntmps25
  go_upto_region 1 with fail
  generalize W.alloc (.cells #[.int .i64 bk, .int .i64 pg] 37) = W2 at hz4 hb4 ⊢
  rw [← hg4] at hz4 ⊢
  have HG := Aside0.mk hg4
  have HB2 := Aside0.mk hb4
  have HZ4 := Aside0.mk hz4
  have H2 := Aside0.mk (H00.out.below hb4)
  have c9 := (xtop_cells H2.out).2.2.2.2.2.2.2.2.2
  clear hg4 hz4 hb4
  cases hd : D.down with
  | true =>
    rw [hd] at c9
    have HR1 : Aside0 (r = (9, D)) := ⟨by rw [HRR.out]; unfold Dv.prog; rw [if_pos hd]⟩
    clear hd
    go_wp2_with fail
    go_ret
    rw [HR1.out]
    exact ⟨rfl, H2.out, Turn.of_below HB2.out _⟩
  | false =>
    rw [hd] at c9
    have HD0 := Aside0.mk hd
    have HHE := Aside0.mk (xhere_calls H2.out bk pg)
    have z0 := blk_cell HZ4.out 0
    have z1 := blk_cell HZ4.out 1
    clear hd
    cases hh : D.here bk pg with
    | false =>
      rw [hh] at HHE
      have HR1 : Aside0 (r = (3, D)) := ⟨by rw [HRR.out]; unfold Dv.prog; rw [if_neg (by rw [HD0.out]; decide), if_pos (.inl hh)]⟩
      clear hh
      go_wp2_with (go_at_call 74; refine HHE.out.mono ?_; rintro e w3 ⟨rfl, hb⟩; have HB3 := Aside0.mk (below_then HB2.out HB2.out.size hb); clear hb z0 z1 c9)
      go_ret
      rw [HR1.out]
      exact ⟨rfl, H00.out.below HB3.out, Turn.of_below HB3.out _⟩
    | true =>
      rw [hh] at HHE
      have hix := H00.out.ok.idx hh
      obtain ⟨i, hi⟩ : ∃ i, i = D.idx bk pg := ⟨_, rfl⟩
      rw [← hi] at hix
      have HI := Aside0.mk (And.intro hi hix.2)
      have HHH := Aside0.mk hh
      obtain ⟨⟨h1, h2⟩, h3, h4⟩ := here_iff.1 hh
      obtain ⟨n, rfl⟩ := Int.eq_ofNat_of_zero_le h1
      have HN := Aside0.mk (And.intro h2 (And.intro h3 h4))
      have HIX : Aside0 ((n : Int) * D.P + pg = (i : Int) ∧ IntKind.i64.wrap ((n : Int) * D.P) = (n : Int) * D.P ∧ wrap64 ((n : Int) * D.P) = (n : Int) * D.P ∧ IntKind.i64.wrap ((n : Int) * D.P + pg) = (i : Int) ∧ wrap64 ((n : Int) * D.P + pg) = (i : Int)) := by
        have hs := H00.out.ok.size
        have hpl := H00.out.ok.pl
        have h0 : 0 ≤ (n : Int) * D.P := Int.mul_nonneg (by omega) (by omega)
        have e1 := wrap_id (x := (n : Int) * D.P) (by omega) (by have := hix.1; omega)
        have e2 := wrap_id (x := (n : Int) * D.P + pg) (by omega) (by have := hix.1; omega)
        exact ⟨hix.1.symm, e1.1, e1.2, by rw [e2.1]; exact hix.1.symm, by rw [e2.2]; exact hix.1.symm⟩
      clear hi hix h1 h2 h3 h4 hh
      by_cases hlen : l.length = 256
      case neg =>
        have tl : ((l.length : Int) != 256) = true := by simp; omega
        have HR1 : Aside0 (r = (3, D)) := ⟨by rw [HRR.out]; unfold Dv.prog; rw [if_neg (by rw [HD0.out]; decide), if_pos (.inr hlen)]⟩
        clear hlen
        go_wp2_with (go_at_call 74; refine HHE.out.mono ?_; rintro e w3 ⟨rfl, hb⟩; have HB3 := Aside0.mk (below_then HB2.out HB2.out.size hb); clear hb z0 z1 c9)
        go_ret
        rw [HR1.out]
        exact ⟨rfl, H00.out.below HB3.out, Turn.of_below HB3.out _⟩
      case pos =>
        have tl : ((l.length : Int) != 256) = false := by rw [hlen]; rfl
        have HLN := Aside0.mk hlen
        clear hlen
        go_upto_region 5 with (go_at_call 74; refine HHE.out.mono ?_; rintro e w3 ⟨rfl, hb⟩; have HB3 := Aside0.mk (below_then HB2.out HB2.out.size hb); have HZ3 := Aside0.mk (blk_below HZ4.out hb); clear hb z0 z1 c9)
        have H3 := Aside0.mk (H00.out.below HB3.out)
        have HHS := Aside0.mk (fun W' (hW : Below w3.heap.size w3 W') => has_calls (n : Int) (Kd.F_now (H3.out.below hW).mb.1) (H3.out.below hW).mb.2 (by have := H00.out.ok.bl; omega))
        obtain ⟨bm, hbm⟩ : ∃ x, x = D.mark (n : Int) := ⟨_, rfl⟩
        have HBM := Aside0.mk hbm
        have HHS : Aside0 (∀ W', Below w3.heap.size w3 W' → Calls Try.prog 44 #[.slice L.Am D.bad.length L.cm, .int .i64 (n : Int)] W' fun e w' => e = .returned (.bool bm) ∧ Below W'.heap.size W' w') := ⟨fun W' hW => by rw [hbm]; exact HHS.out W' hW⟩
        have B0 := Aside0.mk (below_drew1 (Below.refl w3.heap.size w3))
        clear hbm tl HB2 HZ4 H2 HHE
        refine start_ (n := 7) (S := fun w' => True) (ds := []) #[false, false, false, false, false, false, false] (by kernel_rfl) rfl rfl trivial (fun hHeld => ?_)
        refine with_tabW xprog5.tab5 xprog5.bits5 (fun HT_ HW_ => ?_)
        generalize w3.drew = wq at B0 hHeld ⊢
        refine inv_at [0, 1, 2, 3, 4, 5, 6] (fun a0_ b a w' => a = putSel a0_ b [(0, 23, .pointer (some ⟨L.g, 0, none⟩)), (1, 24, .pointer (some ⟨L.g, 0, none⟩)), (2, 25, .pointer (some ⟨L.g, 3, none⟩)), (3, 26, .slice L.Am D.bad.length L.cm), (4, 27, .pointer (some ⟨g4, 0, none⟩)), (5, 28, .int .i64 (n : Int)), (6, 29, .bool bm)] ∧ (Below w3.heap.size w3 w')) HT_.out HW_.out (by kernel_rfl) (by kernel_rfl) ?_ ?_ ?_
        · exact ⟨by simp only [putSel, Bool.false_eq_true, if_false], B0.out⟩
        · skip
          clear B0
          refine steps_cons ?_ ?_
          · rintro b a w' ⟨ha, Q_B0⟩ hb_ hon hoff
            refine ⟨_, rfl, fun K hK => ?_⟩
            have e0 : a.tmps[0]? = some (.pointer (some ⟨L.g, 0, none⟩)) := by rw [ha]; exact (putSel_off rfl).trans rfl
            replace ha := Aside0.mk ha
            have B0 := Aside0.mk Q_B0
            refine value_ (w1 := w') (v := .pointer (some ⟨L.g, 0, none⟩)) (by rfl) rfl ?_ ?_
            · go_simp
              (try simp only [i64_w])
              try rfl
            refine hK.out _ _ ⟨(by rw [ha.out]; exact putSel_upk 0 hb_ rfl rfl rfl), Q_B0⟩
          refine steps_cons ?_ ?_
          · rintro b a w' ⟨ha, Q_B0⟩ hb_ hon hoff
            refine ⟨_, rfl, fun K hK => ?_⟩
            have e23 : a.tmps[23]? = some (.pointer (some ⟨L.g, 0, none⟩)) := by rw [ha]; exact putSel_on (e := (0, 23, .pointer (some ⟨L.g, 0, none⟩))) 0 rfl rfl (hon 0 (by kernel_rfl)) rfl
            replace ha := Aside0.mk ha
            have B0 := Aside0.mk Q_B0
            refine value_ (w1 := w') (v := .pointer (some ⟨L.g, 0, none⟩)) (by rfl) rfl ?_ ?_
            · go_simp
              (try simp only [i64_w])
              try rfl
            refine hK.out _ _ ⟨(by rw [ha.out]; exact putSel_upk 1 hb_ rfl rfl rfl), Q_B0⟩
          refine steps_cons ?_ ?_
          · rintro b a w' ⟨ha, Q_B0⟩ hb_ hon hoff
            refine ⟨_, rfl, fun K hK => ?_⟩
            have e24 : a.tmps[24]? = some (.pointer (some ⟨L.g, 0, none⟩)) := by rw [ha]; exact putSel_on (e := (1, 24, .pointer (some ⟨L.g, 0, none⟩))) 1 rfl rfl (hon 1 (by kernel_rfl)) rfl
            replace ha := Aside0.mk ha
            have B0 := Aside0.mk Q_B0
            refine value_ (w1 := w') (v := .pointer (some ⟨L.g, 3, none⟩)) (by rfl) rfl ?_ ?_
            · go_simp
              (try simp only [i64_w])
              try rfl
            refine hK.out _ _ ⟨(by rw [ha.out]; exact putSel_upk 2 hb_ rfl rfl rfl), Q_B0⟩
          refine steps_cons ?_ ?_
          · rintro b a w' ⟨ha, Q_B0⟩ hb_ hon hoff
            refine ⟨_, rfl, fun K hK => ?_⟩
            have e25 : a.tmps[25]? = some (.pointer (some ⟨L.g, 3, none⟩)) := by rw [ha]; exact putSel_on (e := (2, 25, .pointer (some ⟨L.g, 3, none⟩))) 2 rfl rfl (hon 2 (by kernel_rfl)) rfl
            replace ha := Aside0.mk ha
            have B0 := Aside0.mk Q_B0
            have c_ := (xtop_cells (H3.out.below B0.out)).2.2.2.1
            refine value_ (w1 := w') (v := .slice L.Am D.bad.length L.cm) (by rfl) rfl ?_ ?_
            · go_simp
              (try simp only [i64_w])
              try rfl
            refine hK.out _ _ ⟨(by rw [ha.out]; exact putSel_upk 3 hb_ rfl rfl rfl), Q_B0⟩
          refine steps_cons ?_ ?_
          · rintro b a w' ⟨ha, Q_B0⟩ hb_ hon hoff
            refine ⟨_, rfl, fun K hK => ?_⟩
            have e4 : a.tmps[4]? = some (.pointer (some ⟨g4, 0, none⟩)) := by rw [ha]; exact (putSel_off rfl).trans rfl
            replace ha := Aside0.mk ha
            have B0 := Aside0.mk Q_B0
            refine value_ (w1 := w') (v := .pointer (some ⟨g4, 0, none⟩)) (by rfl) rfl ?_ ?_
            · go_simp
              (try simp only [i64_w])
              try rfl
            refine hK.out _ _ ⟨(by rw [ha.out]; exact putSel_upk 4 hb_ rfl rfl rfl), Q_B0⟩
          refine steps_cons ?_ ?_
          · rintro b a w' ⟨ha, Q_B0⟩ hb_ hon hoff
            refine ⟨_, rfl, fun K hK => ?_⟩
            have e27 : a.tmps[27]? = some (.pointer (some ⟨g4, 0, none⟩)) := by rw [ha]; exact putSel_on (e := (4, 27, .pointer (some ⟨g4, 0, none⟩))) 4 rfl rfl (hon 4 (by kernel_rfl)) rfl
            replace ha := Aside0.mk ha
            have B0 := Aside0.mk Q_B0
            have c_ := blk_cell (blk_below HZ3.out B0.out) 0
            refine value_ (w1 := w') (v := .int .i64 (n : Int)) (by rfl) rfl ?_ ?_
            · go_simp
              (try simp only [i64_w])
              try rfl
            refine hK.out _ _ ⟨(by rw [ha.out]; exact putSel_upk 5 hb_ rfl rfl rfl), Q_B0⟩
          refine steps_cons ?_ ?_
          · rintro b a w' ⟨ha, Q_B0⟩ hb_ hon hoff
            refine ⟨_, rfl, fun K hK => ?_⟩
            have e26 : a.tmps[26]? = some (.slice L.Am D.bad.length L.cm) := by rw [ha]; exact putSel_on (e := (3, 26, .slice L.Am D.bad.length L.cm)) 3 rfl rfl (hon 3 (by kernel_rfl)) rfl
            have e28 : a.tmps[28]? = some (.int .i64 (n : Int)) := by rw [ha]; exact putSel_on (e := (5, 28, .int .i64 (n : Int))) 5 rfl rfl (hon 5 (by kernel_rfl)) rfl
            replace ha := Aside0.mk ha
            have B0 := Aside0.mk Q_B0
            refine goes_ Try.func44 (by kernel_rfl) rfl #[.slice L.Am D.bad.length L.cm, .int .i64 (n : Int)] (by rfl) rfl rfl (by first | (simp only [List.map_toArray, List.map_cons, List.map_nil, Act.eval, Array.getD_eq_getD_getElem?, Option.getD_some, e26, e28]; done) | (simp only [List.map_toArray, List.map_cons, List.map_nil, Act.eval, Array.getD_eq_getD_getElem?, Option.getD_some, e26, e28]; rfl)) ?_
            with_reducible refine (HHS.out _ B0.out).mono ?_
            rintro e w2 ⟨rfl, hb⟩
            refine ⟨_, rfl, ?_⟩
            refine hK.out _ _ ⟨(by rw [ha.out]; exact putSel_upk 6 hb_ rfl rfl rfl), below_then B0.out B0.out.size hb⟩
          exact steps_nil
        rintro b a w5 hall ⟨ha, Q_B0⟩
        clear B0
        have hb0_ := hall 0 (by kernel_rfl)
        have hb1_ := hall 1 (by kernel_rfl)
        have hb2_ := hall 2 (by kernel_rfl)
        have hb3_ := hall 3 (by kernel_rfl)
        have hb4_ := hall 4 (by kernel_rfl)
        have hb5_ := hall 5 (by kernel_rfl)
        have hb6_ := hall 6 (by kernel_rfl)
        subst ha
        simp only [putSel, hb0_, hb1_, hb2_, hb3_, hb4_, hb5_, hb6_, if_true, Act.put, List.setIfInBounds_toArray, List.set_cons_zero, List.set_cons_succ]
        have B0 := Aside0.mk Q_B0
        clear Q_B0
        clear hall hb0_ hb1_ hb2_ hb3_ hb4_ hb5_ hb6_
        have HB5 := Aside0.mk (below_then HB3.out HB3.out.size B0.out)
        have H5 := Aside0.mk (H3.out.below B0.out)
        have HZ5 := Aside0.mk (blk_below HZ3.out B0.out)
        clear B0 H3 HZ3 HB3 HHS
        cases bm with
        | true =>
          have HR1 : Aside0 (r = (12, D)) := ⟨by rw [HRR.out]; unfold Dv.prog; rw [if_neg (by rw [HD0.out]; decide), if_neg (by rw [HHH.out, HLN.out]; simp), if_pos HBM.out.symm]⟩
          go_wp2_with fail
          go_ret
          rw [HR1.out]
          exact ⟨rfl, H5.out, Turn.of_below HB5.out _⟩
        | false =>
          go_upto_region 7 with fail
          obtain ⟨nx, hnx⟩ : ∃ x, x = D.next.getD n 0 := ⟨_, rfl⟩
          obtain ⟨bq, hbq⟩ : ∃ x, x = (nx != pg) := ⟨_, rfl⟩
          have HNX := Aside0.mk hnx
          have HBQ := Aside0.mk hbq.symm
          have HNC : Aside0 ((D.next.map (Value.int .i64))[n]? = some (.int .i64 nx)) := ⟨by rw [hnx]; exact ints_at (by have := H00.out.ok.nl; have := HN.out.1; omega)⟩
          have HQ2 := Aside0.mk (And.intro (eq_true (show (0 : Int) ≤ (n : Int) by omega)) (eq_true (show (n : Int) < ((D.next.length : Nat) : Int) by have := H00.out.ok.nl; have := HN.out.1; omega)))
          have B0 := Aside0.mk (below_drew1 (Below.refl w5.heap.size w5))
          clear hnx hbq
          refine start_ (n := 11) (S := fun w' => True) (ds := []) #[false, false, false, false, false, false, false, false, false, false, false] (by kernel_rfl) rfl rfl trivial (fun hHeld => ?_)
          refine with_tabW xprog7.tab7 xprog7.bits7 (fun HT_ HW_ => ?_)
          generalize w5.drew = wq at B0 hHeld ⊢
          refine inv_at [0, 1, 2, 3, 4, 5, 6, 7, 8, 9, 10] (fun a0_ b a w' => a = putSel a0_ b [(0, 30, .pointer (some ⟨L.g, 0, none⟩)), (1, 31, .pointer (some ⟨L.g, 0, none⟩)), (2, 32, .pointer (some ⟨L.g, 5, none⟩)), (3, 33, .slice (some ⟨L.gn, 0, none⟩) D.next.length L.cn), (4, 34, .pointer (some ⟨g4, 0, none⟩)), (5, 35, .int .i64 (n : Int)), (6, 36, .pointer (some ⟨L.gn, n, none⟩)), (7, 37, .int .i64 nx), (8, 38, .pointer (some ⟨g4, 1, none⟩)), (9, 39, .int .i64 pg), (10, 40, .bool bq)] ∧ (Below w5.heap.size w5 w')) HT_.out HW_.out (by kernel_rfl) (by kernel_rfl) ?_ ?_ ?_
          · exact ⟨by simp only [putSel, Bool.false_eq_true, if_false], B0.out⟩
          · skip
            clear B0
            refine steps_cons ?_ ?_
            · rintro b a w' ⟨ha, Q_B0⟩ hb_ hon hoff
              refine ⟨_, rfl, fun K hK => ?_⟩
              have e0 : a.tmps[0]? = some (.pointer (some ⟨L.g, 0, none⟩)) := by rw [ha]; exact (putSel_off rfl).trans rfl
              replace ha := Aside0.mk ha
              have B0 := Aside0.mk Q_B0
              refine value_ (w1 := w') (v := .pointer (some ⟨L.g, 0, none⟩)) (by rfl) rfl ?_ ?_
              · go_simp
                (try simp only [i64_w])
                try rfl
              refine hK.out _ _ ⟨(by rw [ha.out]; exact putSel_upk 0 hb_ rfl rfl rfl), Q_B0⟩
            refine steps_cons ?_ ?_
            · rintro b a w' ⟨ha, Q_B0⟩ hb_ hon hoff
              refine ⟨_, rfl, fun K hK => ?_⟩
              have e30 : a.tmps[30]? = some (.pointer (some ⟨L.g, 0, none⟩)) := by rw [ha]; exact putSel_on (e := (0, 30, .pointer (some ⟨L.g, 0, none⟩))) 0 rfl rfl (hon 0 (by kernel_rfl)) rfl
              replace ha := Aside0.mk ha
              have B0 := Aside0.mk Q_B0
              refine value_ (w1 := w') (v := .pointer (some ⟨L.g, 0, none⟩)) (by rfl) rfl ?_ ?_
              · go_simp
                (try simp only [i64_w])
                try rfl
              refine hK.out _ _ ⟨(by rw [ha.out]; exact putSel_upk 1 hb_ rfl rfl rfl), Q_B0⟩
            refine steps_cons ?_ ?_
            · rintro b a w' ⟨ha, Q_B0⟩ hb_ hon hoff
              refine ⟨_, rfl, fun K hK => ?_⟩
              have e31 : a.tmps[31]? = some (.pointer (some ⟨L.g, 0, none⟩)) := by rw [ha]; exact putSel_on (e := (1, 31, .pointer (some ⟨L.g, 0, none⟩))) 1 rfl rfl (hon 1 (by kernel_rfl)) rfl
              replace ha := Aside0.mk ha
              have B0 := Aside0.mk Q_B0
              refine value_ (w1 := w') (v := .pointer (some ⟨L.g, 5, none⟩)) (by rfl) rfl ?_ ?_
              · go_simp
                (try simp only [i64_w])
                try rfl
              refine hK.out _ _ ⟨(by rw [ha.out]; exact putSel_upk 2 hb_ rfl rfl rfl), Q_B0⟩
            refine steps_cons ?_ ?_
            · rintro b a w' ⟨ha, Q_B0⟩ hb_ hon hoff
              refine ⟨_, rfl, fun K hK => ?_⟩
              have e32 : a.tmps[32]? = some (.pointer (some ⟨L.g, 5, none⟩)) := by rw [ha]; exact putSel_on (e := (2, 32, .pointer (some ⟨L.g, 5, none⟩))) 2 rfl rfl (hon 2 (by kernel_rfl)) rfl
              replace ha := Aside0.mk ha
              have B0 := Aside0.mk Q_B0
              have c_ := (xtop_cells (H5.out.below B0.out)).2.2.2.2.2.1
              refine value_ (w1 := w') (v := .slice (some ⟨L.gn, 0, none⟩) D.next.length L.cn) (by rfl) rfl ?_ ?_
              · go_simp
                (try simp only [i64_w])
                try rfl
              refine hK.out _ _ ⟨(by rw [ha.out]; exact putSel_upk 3 hb_ rfl rfl rfl), Q_B0⟩
            refine steps_cons ?_ ?_
            · rintro b a w' ⟨ha, Q_B0⟩ hb_ hon hoff
              refine ⟨_, rfl, fun K hK => ?_⟩
              have e4 : a.tmps[4]? = some (.pointer (some ⟨g4, 0, none⟩)) := by rw [ha]; exact (putSel_off rfl).trans rfl
              replace ha := Aside0.mk ha
              have B0 := Aside0.mk Q_B0
              refine value_ (w1 := w') (v := .pointer (some ⟨g4, 0, none⟩)) (by rfl) rfl ?_ ?_
              · go_simp
                (try simp only [i64_w])
                try rfl
              refine hK.out _ _ ⟨(by rw [ha.out]; exact putSel_upk 4 hb_ rfl rfl rfl), Q_B0⟩
            refine steps_cons ?_ ?_
            · rintro b a w' ⟨ha, Q_B0⟩ hb_ hon hoff
              refine ⟨_, rfl, fun K hK => ?_⟩
              have e34 : a.tmps[34]? = some (.pointer (some ⟨g4, 0, none⟩)) := by rw [ha]; exact putSel_on (e := (4, 34, .pointer (some ⟨g4, 0, none⟩))) 4 rfl rfl (hon 4 (by kernel_rfl)) rfl
              replace ha := Aside0.mk ha
              have B0 := Aside0.mk Q_B0
              have c_ := blk_cell (blk_below HZ5.out B0.out) 0
              refine value_ (w1 := w') (v := .int .i64 (n : Int)) (by rfl) rfl ?_ ?_
              · go_simp
                (try simp only [i64_w])
                try rfl
              refine hK.out _ _ ⟨(by rw [ha.out]; exact putSel_upk 5 hb_ rfl rfl rfl), Q_B0⟩
            refine steps_cons ?_ ?_
            · rintro b a w' ⟨ha, Q_B0⟩ hb_ hon hoff
              refine ⟨_, rfl, fun K hK => ?_⟩
              have e33 : a.tmps[33]? = some (.slice (some ⟨L.gn, 0, none⟩) D.next.length L.cn) := by rw [ha]; exact putSel_on (e := (3, 33, .slice (some ⟨L.gn, 0, none⟩) D.next.length L.cn)) 3 rfl rfl (hon 3 (by kernel_rfl)) rfl
              have e35 : a.tmps[35]? = some (.int .i64 (n : Int)) := by rw [ha]; exact putSel_on (e := (5, 35, .int .i64 (n : Int))) 5 rfl rfl (hon 5 (by kernel_rfl)) rfl
              replace ha := Aside0.mk ha
              have B0 := Aside0.mk Q_B0
              have p_ := HQ2.out.1
              have q_ := HQ2.out.2
              refine value_ (w1 := w') (v := .pointer (some ⟨L.gn, n, none⟩)) (by rfl) rfl ?_ ?_
              · go_simp
                (try simp only [i64_w])
                try rfl
              refine hK.out _ _ ⟨(by rw [ha.out]; exact putSel_upk 6 hb_ rfl rfl rfl), Q_B0⟩
            refine steps_cons ?_ ?_
            · rintro b a w' ⟨ha, Q_B0⟩ hb_ hon hoff
              refine ⟨_, rfl, fun K hK => ?_⟩
              have e36 : a.tmps[36]? = some (.pointer (some ⟨L.gn, n, none⟩)) := by rw [ha]; exact putSel_on (e := (6, 36, .pointer (some ⟨L.gn, n, none⟩))) 6 rfl rfl (hon 6 (by kernel_rfl)) rfl
              replace ha := Aside0.mk ha
              have B0 := Aside0.mk Q_B0
              have c_ := (H5.out.below B0.out).nx.cell HNC.out
              refine value_ (w1 := w') (v := .int .i64 nx) (by rfl) rfl ?_ ?_
              · go_simp
                (try simp only [i64_w])
                try rfl
              refine hK.out _ _ ⟨(by rw [ha.out]; exact putSel_upk 7 hb_ rfl rfl rfl), Q_B0⟩
            refine steps_cons ?_ ?_
            · rintro b a w' ⟨ha, Q_B0⟩ hb_ hon hoff
              refine ⟨_, rfl, fun K hK => ?_⟩
              have e4 : a.tmps[4]? = some (.pointer (some ⟨g4, 0, none⟩)) := by rw [ha]; exact (putSel_off rfl).trans rfl
              replace ha := Aside0.mk ha
              have B0 := Aside0.mk Q_B0
              refine value_ (w1 := w') (v := .pointer (some ⟨g4, 1, none⟩)) (by rfl) rfl ?_ ?_
              · go_simp
                (try simp only [i64_w])
                try rfl
              refine hK.out _ _ ⟨(by rw [ha.out]; exact putSel_upk 8 hb_ rfl rfl rfl), Q_B0⟩
            refine steps_cons ?_ ?_
            · rintro b a w' ⟨ha, Q_B0⟩ hb_ hon hoff
              refine ⟨_, rfl, fun K hK => ?_⟩
              have e38 : a.tmps[38]? = some (.pointer (some ⟨g4, 1, none⟩)) := by rw [ha]; exact putSel_on (e := (8, 38, .pointer (some ⟨g4, 1, none⟩))) 8 rfl rfl (hon 8 (by kernel_rfl)) rfl
              replace ha := Aside0.mk ha
              have B0 := Aside0.mk Q_B0
              have c_ := blk_cell (blk_below HZ5.out B0.out) 1
              refine value_ (w1 := w') (v := .int .i64 pg) (by rfl) rfl ?_ ?_
              · go_simp
                (try simp only [i64_w])
                try rfl
              refine hK.out _ _ ⟨(by rw [ha.out]; exact putSel_upk 9 hb_ rfl rfl rfl), Q_B0⟩
            refine steps_cons ?_ ?_
            · rintro b a w' ⟨ha, Q_B0⟩ hb_ hon hoff
              refine ⟨_, rfl, fun K hK => ?_⟩
              have e37 : a.tmps[37]? = some (.int .i64 nx) := by rw [ha]; exact putSel_on (e := (7, 37, .int .i64 nx)) 7 rfl rfl (hon 7 (by kernel_rfl)) rfl
              have e39 : a.tmps[39]? = some (.int .i64 pg) := by rw [ha]; exact putSel_on (e := (9, 39, .int .i64 pg)) 9 rfl rfl (hon 9 (by kernel_rfl)) rfl
              replace ha := Aside0.mk ha
              have B0 := Aside0.mk Q_B0
              have q_ := HBQ.out
              refine value_ (w1 := w') (v := .bool bq) (by rfl) rfl ?_ ?_
              · go_simp
                (try simp only [i64_w])
                try rfl
              refine hK.out _ _ ⟨(by rw [ha.out]; exact putSel_upk 10 hb_ rfl rfl rfl), Q_B0⟩
            exact steps_nil
          rintro b a w7 hall ⟨ha, Q_B0⟩
          clear B0
          have hb0_ := hall 0 (by kernel_rfl)
          have hb1_ := hall 1 (by kernel_rfl)
          have hb2_ := hall 2 (by kernel_rfl)
          have hb3_ := hall 3 (by kernel_rfl)
          have hb4_ := hall 4 (by kernel_rfl)
          have hb5_ := hall 5 (by kernel_rfl)
          have hb6_ := hall 6 (by kernel_rfl)
          have hb7_ := hall 7 (by kernel_rfl)
          have hb8_ := hall 8 (by kernel_rfl)
          have hb9_ := hall 9 (by kernel_rfl)
          have hb10_ := hall 10 (by kernel_rfl)
          subst ha
          simp only [putSel, hb0_, hb1_, hb2_, hb3_, hb4_, hb5_, hb6_, hb7_, hb8_, hb9_, hb10_, if_true, Act.put, List.setIfInBounds_toArray, List.set_cons_zero, List.set_cons_succ]
          have B0 := Aside0.mk Q_B0
          clear Q_B0
          clear hall hb0_ hb1_ hb2_ hb3_ hb4_ hb5_ hb6_ hb7_ hb8_ hb9_ hb10_
          have HB7 := Aside0.mk (below_then HB5.out HB5.out.size B0.out)
          have H7 := Aside0.mk (H5.out.below B0.out)
          have HZ7 := Aside0.mk (blk_below HZ5.out B0.out)
          clear B0 H5 HZ5 HB5
          cases bq with
          | true =>
            have HR1 : Aside0 (r = (11, D)) := ⟨by rw [HRR.out]; unfold Dv.prog; rw [if_neg (by rw [HD0.out]; decide), if_neg (by rw [HHH.out, HLN.out]; simp), if_neg (by rw [← HBM.out]; decide), if_pos (by rw [Int.toNat_natCast, ← HNX.out]; have := HBQ.out; simpa using this)]⟩
            go_wp2_with fail
            go_ret
            rw [HR1.out]
            exact ⟨rfl, H7.out, Turn.of_below HB7.out _⟩
          | false =>
            obtain rfl : nx = pg := by have := HBQ.out; simpa using this
            have HR1 : Aside0 (r = (ended D.fault.1, D.progD (n : Int) nx l)) := ⟨by rw [HRR.out]; unfold Dv.prog; rw [if_neg (by rw [HD0.out]; decide), if_neg (by rw [HHH.out, HLN.out]; simp), if_neg (by rw [← HBM.out]; decide), if_neg (by rw [Int.toNat_natCast, ← HNX.out]; simp)]⟩
            have HBG := Aside0.mk (xfault_calls H7.out)
            obtain ⟨m, hm⟩ : ∃ m, m = D.fault.2 := ⟨_, rfl⟩
            rw [← hm] at HBG
            have HM := Aside0.mk hm
            clear hm
            go_upto_region 10 with (go_at_call 75; refine HBG.out.mono ?_; rintro e w9 ⟨A3, c3, rfl, hc3, hF3, hD3, hT3⟩; have HE3 := Aside0.mk (And.intro hc3 (And.intro hF3 (And.intro hD3 hT3))); clear hc3 hF3 hD3 hT3)
            have HN4 : Aside0 (¬ L.S g4) := ⟨fun hS => by have := H00.out.lt g4 hS; have := HG.out; omega⟩
            have H9 := Aside0.mk HE3.out.2.2.1
            have T9 := Aside0.mk ((Turn.of_below HB7.out L.S).trans HE3.out.2.2.2 (fun k hk => .inl hk))
            have HZ9 := Aside0.mk (blk_turn HZ7.out HE3.out.2.2.2 HN4.out)
            have F9 := Aside0.mk HE3.out.2.1
            have HC3 := Aside0.mk HE3.out.1
            have GL9 := Aside0.mk (Kd.F_now (F_turn HLL.out.2.2.1 T9.out HLL.out.2.2.2))
            have B0 := Aside0.mk (below_drew1 (Below.refl w9.heap.size w9))
            clear HBG HE3 HZ7
            refine start_ (n := 12) (S := fun w' => True) (ds := []) #[false, false, false, false, false, false, false, false, false, false, false, false] (by kernel_rfl) rfl rfl trivial (fun hHeld => ?_)
            refine with_tabW xprog10.tab10 xprog10.bits10 (fun HT_ HW_ => ?_)
            generalize w9.drew = wq at B0 hHeld ⊢
            refine inv_at [0, 1, 2, 3, 4, 5, 6, 7, 8, 9, 10, 11] (fun a0_ b a w' => a = putSel a0_ b [(0, 46, .pointer (some ⟨g4, 0, none⟩)), (1, 47, .int .i64 (n : Int)), (2, 48, .pointer (some ⟨L.g, 0, none⟩)), (3, 49, .pointer (some ⟨L.g, 0, none⟩)), (4, 50, .pointer (some ⟨L.g, 0, none⟩)), (5, 51, .pointer (some ⟨L.g, 1, none⟩)), (6, 52, .int .i64 D.P), (7, 53, .int .i64 ((n : Int) * D.P)), (8, 54, .pointer (some ⟨g4, 1, none⟩)), (9, 55, .int .i64 nx), (10, 56, .int .i64 (i : Int)), (11, 9, .int .i64 (i : Int))] ∧ (Below w9.heap.size w9 w')) HT_.out HW_.out (by kernel_rfl) (by kernel_rfl) ?_ ?_ ?_
            · exact ⟨by simp only [putSel, Bool.false_eq_true, if_false], B0.out⟩
            · skip
              clear B0
              refine steps_cons ?_ ?_
              · rintro b a w' ⟨ha, Q_B0⟩ hb_ hon hoff
                refine ⟨_, rfl, fun K hK => ?_⟩
                have e4 : a.tmps[4]? = some (.pointer (some ⟨g4, 0, none⟩)) := by rw [ha]; exact (putSel_off rfl).trans rfl
                replace ha := Aside0.mk ha
                have B0 := Aside0.mk Q_B0
                refine value_ (w1 := w') (v := .pointer (some ⟨g4, 0, none⟩)) (by rfl) rfl ?_ ?_
                · go_simp
                  (try simp only [i64_w])
                  try rfl
                refine hK.out _ _ ⟨(by rw [ha.out]; exact putSel_upk 0 hb_ rfl rfl rfl), Q_B0⟩
              refine steps_cons ?_ ?_
              · rintro b a w' ⟨ha, Q_B0⟩ hb_ hon hoff
                refine ⟨_, rfl, fun K hK => ?_⟩
                have e46 : a.tmps[46]? = some (.pointer (some ⟨g4, 0, none⟩)) := by rw [ha]; exact putSel_on (e := (0, 46, .pointer (some ⟨g4, 0, none⟩))) 0 rfl rfl (hon 0 (by kernel_rfl)) rfl
                replace ha := Aside0.mk ha
                have B0 := Aside0.mk Q_B0
                have c_ := blk_cell (blk_below HZ9.out B0.out) 0
                refine value_ (w1 := w') (v := .int .i64 (n : Int)) (by rfl) rfl ?_ ?_
                · go_simp
                  (try simp only [i64_w])
                  try rfl
                refine hK.out _ _ ⟨(by rw [ha.out]; exact putSel_upk 1 hb_ rfl rfl rfl), Q_B0⟩
              refine steps_cons ?_ ?_
              · rintro b a w' ⟨ha, Q_B0⟩ hb_ hon hoff
                refine ⟨_, rfl, fun K hK => ?_⟩
                have e0 : a.tmps[0]? = some (.pointer (some ⟨L.g, 0, none⟩)) := by rw [ha]; exact (putSel_off rfl).trans rfl
                replace ha := Aside0.mk ha
                have B0 := Aside0.mk Q_B0
                refine value_ (w1 := w') (v := .pointer (some ⟨L.g, 0, none⟩)) (by rfl) rfl ?_ ?_
                · go_simp
                  (try simp only [i64_w])
                  try rfl
                refine hK.out _ _ ⟨(by rw [ha.out]; exact putSel_upk 2 hb_ rfl rfl rfl), Q_B0⟩
              refine steps_cons ?_ ?_
              · rintro b a w' ⟨ha, Q_B0⟩ hb_ hon hoff
                refine ⟨_, rfl, fun K hK => ?_⟩
                have e48 : a.tmps[48]? = some (.pointer (some ⟨L.g, 0, none⟩)) := by rw [ha]; exact putSel_on (e := (2, 48, .pointer (some ⟨L.g, 0, none⟩))) 2 rfl rfl (hon 2 (by kernel_rfl)) rfl
                replace ha := Aside0.mk ha
                have B0 := Aside0.mk Q_B0
                refine value_ (w1 := w') (v := .pointer (some ⟨L.g, 0, none⟩)) (by rfl) rfl ?_ ?_
                · go_simp
                  (try simp only [i64_w])
                  try rfl
                refine hK.out _ _ ⟨(by rw [ha.out]; exact putSel_upk 3 hb_ rfl rfl rfl), Q_B0⟩
              refine steps_cons ?_ ?_
              · rintro b a w' ⟨ha, Q_B0⟩ hb_ hon hoff
                refine ⟨_, rfl, fun K hK => ?_⟩
                have e49 : a.tmps[49]? = some (.pointer (some ⟨L.g, 0, none⟩)) := by rw [ha]; exact putSel_on (e := (3, 49, .pointer (some ⟨L.g, 0, none⟩))) 3 rfl rfl (hon 3 (by kernel_rfl)) rfl
                replace ha := Aside0.mk ha
                have B0 := Aside0.mk Q_B0
                refine value_ (w1 := w') (v := .pointer (some ⟨L.g, 0, none⟩)) (by rfl) rfl ?_ ?_
                · go_simp
                  (try simp only [i64_w])
                  try rfl
                refine hK.out _ _ ⟨(by rw [ha.out]; exact putSel_upk 4 hb_ rfl rfl rfl), Q_B0⟩
              refine steps_cons ?_ ?_
              · rintro b a w' ⟨ha, Q_B0⟩ hb_ hon hoff
                refine ⟨_, rfl, fun K hK => ?_⟩
                have e50 : a.tmps[50]? = some (.pointer (some ⟨L.g, 0, none⟩)) := by rw [ha]; exact putSel_on (e := (4, 50, .pointer (some ⟨L.g, 0, none⟩))) 4 rfl rfl (hon 4 (by kernel_rfl)) rfl
                replace ha := Aside0.mk ha
                have B0 := Aside0.mk Q_B0
                refine value_ (w1 := w') (v := .pointer (some ⟨L.g, 1, none⟩)) (by rfl) rfl ?_ ?_
                · go_simp
                  (try simp only [i64_w])
                  try rfl
                refine hK.out _ _ ⟨(by rw [ha.out]; exact putSel_upk 5 hb_ rfl rfl rfl), Q_B0⟩
              refine steps_cons ?_ ?_
              · rintro b a w' ⟨ha, Q_B0⟩ hb_ hon hoff
                refine ⟨_, rfl, fun K hK => ?_⟩
                have e51 : a.tmps[51]? = some (.pointer (some ⟨L.g, 1, none⟩)) := by rw [ha]; exact putSel_on (e := (5, 51, .pointer (some ⟨L.g, 1, none⟩))) 5 rfl rfl (hon 5 (by kernel_rfl)) rfl
                replace ha := Aside0.mk ha
                have B0 := Aside0.mk Q_B0
                have c_ := (xtop_cells (H9.out.below B0.out)).2.1
                refine value_ (w1 := w') (v := .int .i64 D.P) (by rfl) rfl ?_ ?_
                · go_simp
                  (try simp only [i64_w])
                  try rfl
                refine hK.out _ _ ⟨(by rw [ha.out]; exact putSel_upk 6 hb_ rfl rfl rfl), Q_B0⟩
              refine steps_cons ?_ ?_
              · rintro b a w' ⟨ha, Q_B0⟩ hb_ hon hoff
                refine ⟨_, rfl, fun K hK => ?_⟩
                have e47 : a.tmps[47]? = some (.int .i64 (n : Int)) := by rw [ha]; exact putSel_on (e := (1, 47, .int .i64 (n : Int))) 1 rfl rfl (hon 1 (by kernel_rfl)) rfl
                have e52 : a.tmps[52]? = some (.int .i64 D.P) := by rw [ha]; exact putSel_on (e := (6, 52, .int .i64 D.P)) 6 rfl rfl (hon 6 (by kernel_rfl)) rfl
                replace ha := Aside0.mk ha
                have B0 := Aside0.mk Q_B0
                have q_ := HIX.out.2.1
                have q2_ := HIX.out.2.2.1
                refine value_ (w1 := w') (v := .int .i64 ((n : Int) * D.P)) (by rfl) rfl ?_ ?_
                · go_simp
                  (try simp only [i64_w])
                  try rfl
                refine hK.out _ _ ⟨(by rw [ha.out]; exact putSel_upk 7 hb_ rfl rfl rfl), Q_B0⟩
              refine steps_cons ?_ ?_
              · rintro b a w' ⟨ha, Q_B0⟩ hb_ hon hoff
                refine ⟨_, rfl, fun K hK => ?_⟩
                have e4 : a.tmps[4]? = some (.pointer (some ⟨g4, 0, none⟩)) := by rw [ha]; exact (putSel_off rfl).trans rfl
                replace ha := Aside0.mk ha
                have B0 := Aside0.mk Q_B0
                refine value_ (w1 := w') (v := .pointer (some ⟨g4, 1, none⟩)) (by rfl) rfl ?_ ?_
                · go_simp
                  (try simp only [i64_w])
                  try rfl
                refine hK.out _ _ ⟨(by rw [ha.out]; exact putSel_upk 8 hb_ rfl rfl rfl), Q_B0⟩
              refine steps_cons ?_ ?_
              · rintro b a w' ⟨ha, Q_B0⟩ hb_ hon hoff
                refine ⟨_, rfl, fun K hK => ?_⟩
                have e54 : a.tmps[54]? = some (.pointer (some ⟨g4, 1, none⟩)) := by rw [ha]; exact putSel_on (e := (8, 54, .pointer (some ⟨g4, 1, none⟩))) 8 rfl rfl (hon 8 (by kernel_rfl)) rfl
                replace ha := Aside0.mk ha
                have B0 := Aside0.mk Q_B0
                have c_ := blk_cell (blk_below HZ9.out B0.out) 1
                refine value_ (w1 := w') (v := .int .i64 nx) (by rfl) rfl ?_ ?_
                · go_simp
                  (try simp only [i64_w])
                  try rfl
                refine hK.out _ _ ⟨(by rw [ha.out]; exact putSel_upk 9 hb_ rfl rfl rfl), Q_B0⟩
              refine steps_cons ?_ ?_
              · rintro b a w' ⟨ha, Q_B0⟩ hb_ hon hoff
                refine ⟨_, rfl, fun K hK => ?_⟩
                have e53 : a.tmps[53]? = some (.int .i64 ((n : Int) * D.P)) := by rw [ha]; exact putSel_on (e := (7, 53, .int .i64 ((n : Int) * D.P))) 7 rfl rfl (hon 7 (by kernel_rfl)) rfl
                have e55 : a.tmps[55]? = some (.int .i64 nx) := by rw [ha]; exact putSel_on (e := (9, 55, .int .i64 nx)) 9 rfl rfl (hon 9 (by kernel_rfl)) rfl
                replace ha := Aside0.mk ha
                have B0 := Aside0.mk Q_B0
                have q_ := HIX.out.2.2.2.1
                have q2_ := HIX.out.2.2.2.2
                refine value_ (w1 := w') (v := .int .i64 (i : Int)) (by rfl) rfl ?_ ?_
                · go_simp
                  (try simp only [i64_w])
                  try rfl
                refine hK.out _ _ ⟨(by rw [ha.out]; exact putSel_upk 10 hb_ rfl rfl rfl), Q_B0⟩
              refine steps_cons ?_ ?_
              · rintro b a w' ⟨ha, Q_B0⟩ hb_ hon hoff
                refine ⟨_, rfl, fun K hK => ?_⟩
                have e56 : a.tmps[56]? = some (.int .i64 (i : Int)) := by rw [ha]; exact putSel_on (e := (10, 56, .int .i64 (i : Int))) 10 rfl rfl (hon 10 (by kernel_rfl)) rfl
                replace ha := Aside0.mk ha
                have B0 := Aside0.mk Q_B0
                refine value_ (w1 := w') (v := .int .i64 (i : Int)) (by rfl) rfl ?_ ?_
                · go_simp
                  (try simp only [i64_w])
                  try rfl
                refine hK.out _ _ ⟨(by rw [ha.out]; exact putSel_upk 11 hb_ rfl rfl rfl), Q_B0⟩
              exact steps_nil
            rintro b a w10 hall ⟨ha, Q_B0⟩
            clear B0
            have hb0_ := hall 0 (by kernel_rfl)
            have hb1_ := hall 1 (by kernel_rfl)
            have hb2_ := hall 2 (by kernel_rfl)
            have hb3_ := hall 3 (by kernel_rfl)
            have hb4_ := hall 4 (by kernel_rfl)
            have hb5_ := hall 5 (by kernel_rfl)
            have hb6_ := hall 6 (by kernel_rfl)
            have hb7_ := hall 7 (by kernel_rfl)
            have hb8_ := hall 8 (by kernel_rfl)
            have hb9_ := hall 9 (by kernel_rfl)
            have hb10_ := hall 10 (by kernel_rfl)
            have hb11_ := hall 11 (by kernel_rfl)
            subst ha
            simp only [putSel, hb0_, hb1_, hb2_, hb3_, hb4_, hb5_, hb6_, hb7_, hb8_, hb9_, hb10_, hb11_, if_true, Act.put, List.setIfInBounds_toArray, List.set_cons_zero, List.set_cons_succ]
            have B0 := Aside0.mk Q_B0
            clear Q_B0
            clear hall hb0_ hb1_ hb2_ hb3_ hb4_ hb5_ hb6_ hb7_ hb8_ hb9_ hb10_ hb11_
            have H10 := Aside0.mk (H9.out.below B0.out)
            have HZ10 := Aside0.mk (blk_below HZ9.out B0.out)
            have T10 := Aside0.mk (T9.out.below B0.out)
            have GM10 := Aside0.mk (Kd.C_below (Kd.F_now F9.out) B0.out)
            have GL10 := Aside0.mk (Kd.C_below GL9.out B0.out)
            clear B0 H9 HZ9 T9 F9 GL9
            go_upto_region 11 with fail
            have hpo := page_ok H00.out.ok HI.out.2
            have hmo := fault_mask H00.out.ok
            rw [← HM.out] at hmo
            obtain ⟨po, hpo'⟩ : ∃ x, x = D.pages.getD i [] := ⟨_, rfl⟩
            rw [← hpo'] at hpo
            obtain ⟨st, hst⟩ : ∃ x, x = strOfNums po := ⟨_, rfl⟩
            have HTX : Aside0 ((texts D.pages)[i]? = some (.string st)) := ⟨by rw [hst, hpo']; exact texts_at HI.out.2⟩
            have HKB : Aside0 (∀ W, (convert 9 38 (.string st)).run Try.prog W = .ok (.slice (some ⟨W.heap.size, 0, none⟩) 256 (grownCap W 256 0 5)) (Lib.bytesWorld W 5 st)) := ⟨fun W => by have := print_bytes (P := Try.prog) 9 38 5 Try.underlying9 Try.underlying38 Try.underlying5 st W; rwa [show st.size = 256 by rw [hst, str_len]; exact hpo.2] at this⟩
            have HGC : Aside0 (∀ W : World, 256 ≤ grownCap W 256 0 5) := ⟨fun W => grownCap_ge W 256 0 5⟩
            have HTC : Aside0 (∀ W, Kd.C (Kd.int .u8) (Lib.bytesWorld W 5 st) (some ⟨W.heap.size, 0, none⟩) 256 po) := ⟨fun W => by rw [hst]; exact text_C hpo⟩
            obtain ⟨pn, hpn⟩ : ∃ x, x = progRow po l m := ⟨_, rfl⟩
            have HPN : Aside0 (isBytes pn ∧ pn.length = 256) := ⟨by rw [hpn]; exact progRow_ok hpo.1 hpo.2⟩
            obtain ⟨sn, hsn⟩ : ∃ x, x = strOfNums pn := ⟨_, rfl⟩
            have HPT : Aside0 (∀ W', Below w10.heap.size w10 W' → ∀ A0 c0, 256 ≤ c0 → Kd.C (Kd.int .u8) W' A0 256 po → Calls Try.prog 76 #[.slice A0 256 c0, .slice A l.length c, .slice A3 m.length c3] W' fun e w' => ∃ A c, e = .returned (.slice A 256 c) ∧ 256 ≤ c ∧ Kd.C (Kd.int .u8) w' A 256 pn ∧ Below W'.heap.size W' w') := ⟨fun W' hW A0 c0 h0 hC => by rw [hpn]; exact part_calls hpo ⟨HLL.out.2.1, HLN.out⟩ hmo.1 h0 HLL.out.1 HC3.out hC (Kd.C_below GL10.out hW) (Kd.C_below GM10.out hW)⟩
            have HSN : Aside0 (∀ W A c, Kd.C (Kd.int .u8) W A 256 pn → (convert 38 9 (.slice A 256 c)).run Try.prog W = .ok (.string sn) W) := ⟨fun W A c hC => by rw [hsn]; exact Kd.C_string Try.underlying38 Try.underlying5 Try.underlying9 hC⟩
            have HEQ := Aside0.mk (And.intro hpo' (And.intro hpn hsn))
            have HP := Aside0.mk (And.intro (eq_true (show (0 : Int) ≤ (i : Int) by omega)) (eq_true (show (i : Int) < ((D.pages.length : Nat) : Int) by have := HI.out.2; omega)))
            have B0 := Aside0.mk (below_drew1 (Below.refl w10.heap.size w10))
            clear hpo hmo hpo' hst hpn hsn
            refine start_ (n := 19) (S := fun w' => True) (ds := []) #[false, false, false, false, false, false, false, false, false, false, false, false, false, false, false, false, false, false, false] (by kernel_rfl) rfl rfl trivial (fun hHeld => ?_)
            refine with_tabW xprog11.tab11 xprog11.bits11 (fun HT_ HW_ => ?_)
            generalize w10.drew = wq at B0 hHeld ⊢
            refine inv_at [0, 1, 2, 3, 4, 5, 6, 7, 8, 9, 10, 11, 12, 13, 14, 15, 16, 17, 18] (fun a0_ b a w' => ∃ (gb : Nat) (cb : Nat) (A15 : Option Addr) (c15 : Nat) (m12_ : Value) (m15_ : Value), a = putSel a0_ b [(0, 57, .pointer (some ⟨L.g, 0, none⟩)), (1, 58, .pointer (some ⟨L.g, 0, none⟩)), (2, 59, .pointer (some ⟨L.g, 4, none⟩)), (3, 60, .slice (some ⟨L.gp, 0, none⟩) D.pages.length L.cp), (4, 61, .int .i64 (i : Int)), (5, 62, .pointer (some ⟨L.g, 0, none⟩)), (6, 63, .pointer (some ⟨L.g, 0, none⟩)), (7, 64, .pointer (some ⟨L.g, 4, none⟩)), (8, 65, .slice (some ⟨L.gp, 0, none⟩) D.pages.length L.cp), (9, 66, .int .i64 (i : Int)), (10, 67, .pointer (some ⟨L.gp, i, none⟩)), (11, 68, .string st), (12, 69, m12_), (13, 70, .slice A l.length c), (14, 71, .slice A3 m.length c3), (15, 72, m15_), (16, 73, .string sn), (17, 74, .pointer (some ⟨L.gp, i, none⟩))] ∧ (b 18 = false → Below w10.heap.size w10 w') ∧ (b 12 = true → b 15 = false → 256 ≤ cb ∧ Kd.C (Kd.int .u8) w' (some ⟨gb, 0, none⟩) 256 po) ∧ (b 15 = true → b 16 = false → 256 ≤ c15 ∧ Kd.C (Kd.int .u8) w' A15 256 pn) ∧ (b 18 = true → XV w' ok L { D with ops := wrap64 (D.ops + 1), pages := D.pages.set i pn } ∧ Turn w10 w' L.S) ∧ (b 12 = true → (m12_ : Value) = .slice (some ⟨gb, 0, none⟩) 256 cb) ∧ (b 15 = true → (m15_ : Value) = .slice A15 256 c15)) HT_.out HW_.out (by kernel_rfl) (by kernel_rfl) ?_ ?_ ?_
            · exact ⟨0, 0, none, 0, .bool false, .bool false, by simp only [putSel, Bool.false_eq_true, if_false], fun _ => B0.out, fun h_ => absurd h_ (by decide), fun h_ => absurd h_ (by decide), fun h_ => absurd h_ (by decide), fun h_ => absurd h_ (by decide), fun h_ => absurd h_ (by decide)⟩
            · skip
              clear B0
              refine steps_cons ?_ ?_
              · rintro b a w' ⟨gb, cb, A15, c15, m12_, m15_, ha, Q_B0, Q_CB, Q_CP, Q_FIN, Q_X12_, Q_X15_⟩ hb_ hon hoff
                refine ⟨_, rfl, fun K hK => ?_⟩
                have e0 : a.tmps[0]? = some (.pointer (some ⟨L.g, 0, none⟩)) := by rw [ha]; exact (putSel_off rfl).trans rfl
                replace ha := Aside0.mk ha
                have B0 := Aside0.mk (Q_B0 (hoff 18 (by kernel_rfl)))
                refine value_ (w1 := w') (v := .pointer (some ⟨L.g, 0, none⟩)) (by rfl) rfl ?_ ?_
                · go_simp
                  (try simp only [i64_w])
                  try rfl
                refine hK.out _ _ ⟨gb, cb, A15, c15, m12_, m15_, (by rw [ha.out]; exact putSel_upk 0 hb_ rfl rfl rfl), Q_B0, Q_CB, Q_CP, fun h0_ => absurd ((hoff 18 (by kernel_rfl)).symm.trans h0_) (by decide), Q_X12_, Q_X15_⟩
              refine steps_cons ?_ ?_
              · rintro b a w' ⟨gb, cb, A15, c15, m12_, m15_, ha, Q_B0, Q_CB, Q_CP, Q_FIN, Q_X12_, Q_X15_⟩ hb_ hon hoff
                refine ⟨_, rfl, fun K hK => ?_⟩
                have e57 : a.tmps[57]? = some (.pointer (some ⟨L.g, 0, none⟩)) := by rw [ha]; exact putSel_on (e := (0, 57, .pointer (some ⟨L.g, 0, none⟩))) 0 rfl rfl (hon 0 (by kernel_rfl)) rfl
                replace ha := Aside0.mk ha
                have B0 := Aside0.mk (Q_B0 (hoff 18 (by kernel_rfl)))
                refine value_ (w1 := w') (v := .pointer (some ⟨L.g, 0, none⟩)) (by rfl) rfl ?_ ?_
                · go_simp
                  (try simp only [i64_w])
                  try rfl
                refine hK.out _ _ ⟨gb, cb, A15, c15, m12_, m15_, (by rw [ha.out]; exact putSel_upk 1 hb_ rfl rfl rfl), Q_B0, Q_CB, Q_CP, fun h0_ => absurd ((hoff 18 (by kernel_rfl)).symm.trans h0_) (by decide), Q_X12_, Q_X15_⟩
              refine steps_cons ?_ ?_
              · rintro b a w' ⟨gb, cb, A15, c15, m12_, m15_, ha, Q_B0, Q_CB, Q_CP, Q_FIN, Q_X12_, Q_X15_⟩ hb_ hon hoff
                refine ⟨_, rfl, fun K hK => ?_⟩
                have e58 : a.tmps[58]? = some (.pointer (some ⟨L.g, 0, none⟩)) := by rw [ha]; exact putSel_on (e := (1, 58, .pointer (some ⟨L.g, 0, none⟩))) 1 rfl rfl (hon 1 (by kernel_rfl)) rfl
                replace ha := Aside0.mk ha
                have B0 := Aside0.mk (Q_B0 (hoff 18 (by kernel_rfl)))
                refine value_ (w1 := w') (v := .pointer (some ⟨L.g, 4, none⟩)) (by rfl) rfl ?_ ?_
                · go_simp
                  (try simp only [i64_w])
                  try rfl
                refine hK.out _ _ ⟨gb, cb, A15, c15, m12_, m15_, (by rw [ha.out]; exact putSel_upk 2 hb_ rfl rfl rfl), Q_B0, Q_CB, Q_CP, fun h0_ => absurd ((hoff 18 (by kernel_rfl)).symm.trans h0_) (by decide), Q_X12_, Q_X15_⟩
              refine steps_cons ?_ ?_
              · rintro b a w' ⟨gb, cb, A15, c15, m12_, m15_, ha, Q_B0, Q_CB, Q_CP, Q_FIN, Q_X12_, Q_X15_⟩ hb_ hon hoff
                refine ⟨_, rfl, fun K hK => ?_⟩
                have e59 : a.tmps[59]? = some (.pointer (some ⟨L.g, 4, none⟩)) := by rw [ha]; exact putSel_on (e := (2, 59, .pointer (some ⟨L.g, 4, none⟩))) 2 rfl rfl (hon 2 (by kernel_rfl)) rfl
                replace ha := Aside0.mk ha
                have B0 := Aside0.mk (Q_B0 (hoff 18 (by kernel_rfl)))
                have c_ := (xtop_cells (H10.out.below B0.out)).2.2.2.2.1
                refine value_ (w1 := w') (v := .slice (some ⟨L.gp, 0, none⟩) D.pages.length L.cp) (by rfl) rfl ?_ ?_
                · go_simp
                  (try simp only [i64_w])
                  try rfl
                refine hK.out _ _ ⟨gb, cb, A15, c15, m12_, m15_, (by rw [ha.out]; exact putSel_upk 3 hb_ rfl rfl rfl), Q_B0, Q_CB, Q_CP, fun h0_ => absurd ((hoff 18 (by kernel_rfl)).symm.trans h0_) (by decide), Q_X12_, Q_X15_⟩
              refine steps_cons ?_ ?_
              · rintro b a w' ⟨gb, cb, A15, c15, m12_, m15_, ha, Q_B0, Q_CB, Q_CP, Q_FIN, Q_X12_, Q_X15_⟩ hb_ hon hoff
                refine ⟨_, rfl, fun K hK => ?_⟩
                have e9 : a.tmps[9]? = some (.int .i64 (i : Int)) := by rw [ha]; exact (putSel_off rfl).trans rfl
                replace ha := Aside0.mk ha
                have B0 := Aside0.mk (Q_B0 (hoff 18 (by kernel_rfl)))
                refine value_ (w1 := w') (v := .int .i64 (i : Int)) (by rfl) rfl ?_ ?_
                · go_simp
                  (try simp only [i64_w])
                  try rfl
                refine hK.out _ _ ⟨gb, cb, A15, c15, m12_, m15_, (by rw [ha.out]; exact putSel_upk 4 hb_ rfl rfl rfl), Q_B0, Q_CB, Q_CP, fun h0_ => absurd ((hoff 18 (by kernel_rfl)).symm.trans h0_) (by decide), Q_X12_, Q_X15_⟩
              refine steps_cons ?_ ?_
              · rintro b a w' ⟨gb, cb, A15, c15, m12_, m15_, ha, Q_B0, Q_CB, Q_CP, Q_FIN, Q_X12_, Q_X15_⟩ hb_ hon hoff
                refine ⟨_, rfl, fun K hK => ?_⟩
                have e0 : a.tmps[0]? = some (.pointer (some ⟨L.g, 0, none⟩)) := by rw [ha]; exact (putSel_off rfl).trans rfl
                replace ha := Aside0.mk ha
                have B0 := Aside0.mk (Q_B0 (hoff 18 (by kernel_rfl)))
                refine value_ (w1 := w') (v := .pointer (some ⟨L.g, 0, none⟩)) (by rfl) rfl ?_ ?_
                · go_simp
                  (try simp only [i64_w])
                  try rfl
                refine hK.out _ _ ⟨gb, cb, A15, c15, m12_, m15_, (by rw [ha.out]; exact putSel_upk 5 hb_ rfl rfl rfl), Q_B0, fun h0_ _ => absurd ((hoff 12 (by kernel_rfl)).symm.trans h0_) (by decide), fun h0_ _ => absurd ((hoff 15 (by kernel_rfl)).symm.trans h0_) (by decide), fun h0_ => absurd ((hoff 18 (by kernel_rfl)).symm.trans h0_) (by decide), fun h0_ => absurd ((hoff 12 (by kernel_rfl)).symm.trans h0_) (by decide), fun h0_ => absurd ((hoff 15 (by kernel_rfl)).symm.trans h0_) (by decide)⟩
              refine steps_cons ?_ ?_
              · rintro b a w' ⟨gb, cb, A15, c15, m12_, m15_, ha, Q_B0, Q_CB, Q_CP, Q_FIN, Q_X12_, Q_X15_⟩ hb_ hon hoff
                refine ⟨_, rfl, fun K hK => ?_⟩
                have e62 : a.tmps[62]? = some (.pointer (some ⟨L.g, 0, none⟩)) := by rw [ha]; exact putSel_on (e := (5, 62, .pointer (some ⟨L.g, 0, none⟩))) 5 rfl rfl (hon 5 (by kernel_rfl)) rfl
                replace ha := Aside0.mk ha
                have B0 := Aside0.mk (Q_B0 (hoff 18 (by kernel_rfl)))
                refine value_ (w1 := w') (v := .pointer (some ⟨L.g, 0, none⟩)) (by rfl) rfl ?_ ?_
                · go_simp
                  (try simp only [i64_w])
                  try rfl
                refine hK.out _ _ ⟨gb, cb, A15, c15, m12_, m15_, (by rw [ha.out]; exact putSel_upk 6 hb_ rfl rfl rfl), Q_B0, fun h0_ _ => absurd ((hoff 12 (by kernel_rfl)).symm.trans h0_) (by decide), fun h0_ _ => absurd ((hoff 15 (by kernel_rfl)).symm.trans h0_) (by decide), fun h0_ => absurd ((hoff 18 (by kernel_rfl)).symm.trans h0_) (by decide), fun h0_ => absurd ((hoff 12 (by kernel_rfl)).symm.trans h0_) (by decide), fun h0_ => absurd ((hoff 15 (by kernel_rfl)).symm.trans h0_) (by decide)⟩
              refine steps_cons ?_ ?_
              · rintro b a w' ⟨gb, cb, A15, c15, m12_, m15_, ha, Q_B0, Q_CB, Q_CP, Q_FIN, Q_X12_, Q_X15_⟩ hb_ hon hoff
                refine ⟨_, rfl, fun K hK => ?_⟩
                have e63 : a.tmps[63]? = some (.pointer (some ⟨L.g, 0, none⟩)) := by rw [ha]; exact putSel_on (e := (6, 63, .pointer (some ⟨L.g, 0, none⟩))) 6 rfl rfl (hon 6 (by kernel_rfl)) rfl
                replace ha := Aside0.mk ha
                have B0 := Aside0.mk (Q_B0 (hoff 18 (by kernel_rfl)))
                refine value_ (w1 := w') (v := .pointer (some ⟨L.g, 4, none⟩)) (by rfl) rfl ?_ ?_
                · go_simp
                  (try simp only [i64_w])
                  try rfl
                refine hK.out _ _ ⟨gb, cb, A15, c15, m12_, m15_, (by rw [ha.out]; exact putSel_upk 7 hb_ rfl rfl rfl), Q_B0, fun h0_ _ => absurd ((hoff 12 (by kernel_rfl)).symm.trans h0_) (by decide), fun h0_ _ => absurd ((hoff 15 (by kernel_rfl)).symm.trans h0_) (by decide), fun h0_ => absurd ((hoff 18 (by kernel_rfl)).symm.trans h0_) (by decide), fun h0_ => absurd ((hoff 12 (by kernel_rfl)).symm.trans h0_) (by decide), fun h0_ => absurd ((hoff 15 (by kernel_rfl)).symm.trans h0_) (by decide)⟩
              refine steps_cons ?_ ?_
              · rintro b a w' ⟨gb, cb, A15, c15, m12_, m15_, ha, Q_B0, Q_CB, Q_CP, Q_FIN, Q_X12_, Q_X15_⟩ hb_ hon hoff
                refine ⟨_, rfl, fun K hK => ?_⟩
                have e64 : a.tmps[64]? = some (.pointer (some ⟨L.g, 4, none⟩)) := by rw [ha]; exact putSel_on (e := (7, 64, .pointer (some ⟨L.g, 4, none⟩))) 7 rfl rfl (hon 7 (by kernel_rfl)) rfl
                replace ha := Aside0.mk ha
                have B0 := Aside0.mk (Q_B0 (hoff 18 (by kernel_rfl)))
                have c_ := (xtop_cells (H10.out.below B0.out)).2.2.2.2.1
                refine value_ (w1 := w') (v := .slice (some ⟨L.gp, 0, none⟩) D.pages.length L.cp) (by rfl) rfl ?_ ?_
                · go_simp
                  (try simp only [i64_w])
                  try rfl
                refine hK.out _ _ ⟨gb, cb, A15, c15, m12_, m15_, (by rw [ha.out]; exact putSel_upk 8 hb_ rfl rfl rfl), Q_B0, fun h0_ _ => absurd ((hoff 12 (by kernel_rfl)).symm.trans h0_) (by decide), fun h0_ _ => absurd ((hoff 15 (by kernel_rfl)).symm.trans h0_) (by decide), fun h0_ => absurd ((hoff 18 (by kernel_rfl)).symm.trans h0_) (by decide), fun h0_ => absurd ((hoff 12 (by kernel_rfl)).symm.trans h0_) (by decide), fun h0_ => absurd ((hoff 15 (by kernel_rfl)).symm.trans h0_) (by decide)⟩
              refine steps_cons ?_ ?_
              · rintro b a w' ⟨gb, cb, A15, c15, m12_, m15_, ha, Q_B0, Q_CB, Q_CP, Q_FIN, Q_X12_, Q_X15_⟩ hb_ hon hoff
                refine ⟨_, rfl, fun K hK => ?_⟩
                have e9 : a.tmps[9]? = some (.int .i64 (i : Int)) := by rw [ha]; exact (putSel_off rfl).trans rfl
                replace ha := Aside0.mk ha
                have B0 := Aside0.mk (Q_B0 (hoff 18 (by kernel_rfl)))
                refine value_ (w1 := w') (v := .int .i64 (i : Int)) (by rfl) rfl ?_ ?_
                · go_simp
                  (try simp only [i64_w])
                  try rfl
                refine hK.out _ _ ⟨gb, cb, A15, c15, m12_, m15_, (by rw [ha.out]; exact putSel_upk 9 hb_ rfl rfl rfl), Q_B0, fun h0_ _ => absurd ((hoff 12 (by kernel_rfl)).symm.trans h0_) (by decide), fun h0_ _ => absurd ((hoff 15 (by kernel_rfl)).symm.trans h0_) (by decide), fun h0_ => absurd ((hoff 18 (by kernel_rfl)).symm.trans h0_) (by decide), fun h0_ => absurd ((hoff 12 (by kernel_rfl)).symm.trans h0_) (by decide), fun h0_ => absurd ((hoff 15 (by kernel_rfl)).symm.trans h0_) (by decide)⟩
              refine steps_cons ?_ ?_
              · rintro b a w' ⟨gb, cb, A15, c15, m12_, m15_, ha, Q_B0, Q_CB, Q_CP, Q_FIN, Q_X12_, Q_X15_⟩ hb_ hon hoff
                refine ⟨_, rfl, fun K hK => ?_⟩
                have e65 : a.tmps[65]? = some (.slice (some ⟨L.gp, 0, none⟩) D.pages.length L.cp) := by rw [ha]; exact putSel_on (e := (8, 65, .slice (some ⟨L.gp, 0, none⟩) D.pages.length L.cp)) 8 rfl rfl (hon 8 (by kernel_rfl)) rfl
                have e66 : a.tmps[66]? = some (.int .i64 (i : Int)) := by rw [ha]; exact putSel_on (e := (9, 66, .int .i64 (i : Int))) 9 rfl rfl (hon 9 (by kernel_rfl)) rfl
                replace ha := Aside0.mk ha
                have B0 := Aside0.mk (Q_B0 (hoff 18 (by kernel_rfl)))
                have p_ := HP.out.1
                have q_ := HP.out.2
                refine value_ (w1 := w') (v := .pointer (some ⟨L.gp, i, none⟩)) (by rfl) rfl ?_ ?_
                · go_simp
                  (try simp only [i64_w])
                  try rfl
                refine hK.out _ _ ⟨gb, cb, A15, c15, m12_, m15_, (by rw [ha.out]; exact putSel_upk 10 hb_ rfl rfl rfl), Q_B0, fun h0_ _ => absurd ((hoff 12 (by kernel_rfl)).symm.trans h0_) (by decide), fun h0_ _ => absurd ((hoff 15 (by kernel_rfl)).symm.trans h0_) (by decide), fun h0_ => absurd ((hoff 18 (by kernel_rfl)).symm.trans h0_) (by decide), fun h0_ => absurd ((hoff 12 (by kernel_rfl)).symm.trans h0_) (by decide), fun h0_ => absurd ((hoff 15 (by kernel_rfl)).symm.trans h0_) (by decide)⟩
              refine steps_cons ?_ ?_
              · rintro b a w' ⟨gb, cb, A15, c15, m12_, m15_, ha, Q_B0, Q_CB, Q_CP, Q_FIN, Q_X12_, Q_X15_⟩ hb_ hon hoff
                refine ⟨_, rfl, fun K hK => ?_⟩
                have e67 : a.tmps[67]? = some (.pointer (some ⟨L.gp, i, none⟩)) := by rw [ha]; exact putSel_on (e := (10, 67, .pointer (some ⟨L.gp, i, none⟩))) 10 rfl rfl (hon 10 (by kernel_rfl)) rfl
                replace ha := Aside0.mk ha
                have B0 := Aside0.mk (Q_B0 (hoff 18 (by kernel_rfl)))
                have c_ := (H10.out.below B0.out).pg.cell HTX.out
                refine value_ (w1 := w') (v := .string st) (by rfl) rfl ?_ ?_
                · go_simp
                  (try simp only [i64_w])
                  try rfl
                refine hK.out _ _ ⟨gb, cb, A15, c15, m12_, m15_, (by rw [ha.out]; exact putSel_upk 11 hb_ rfl rfl rfl), Q_B0, fun h0_ _ => absurd ((hoff 12 (by kernel_rfl)).symm.trans h0_) (by decide), fun h0_ _ => absurd ((hoff 15 (by kernel_rfl)).symm.trans h0_) (by decide), fun h0_ => absurd ((hoff 18 (by kernel_rfl)).symm.trans h0_) (by decide), fun h0_ => absurd ((hoff 12 (by kernel_rfl)).symm.trans h0_) (by decide), fun h0_ => absurd ((hoff 15 (by kernel_rfl)).symm.trans h0_) (by decide)⟩
              refine steps_cons ?_ ?_
              · rintro b a w' ⟨gb, cb, A15, c15, m12_, m15_, ha, Q_B0, Q_CB, Q_CP, Q_FIN, Q_X12_, Q_X15_⟩ hb_ hon hoff
                refine ⟨_, rfl, fun K hK => ?_⟩
                have e68 : a.tmps[68]? = some (.string st) := by rw [ha]; exact putSel_on (e := (11, 68, .string st)) 11 rfl rfl (hon 11 (by kernel_rfl)) rfl
                replace ha := Aside0.mk ha
                have B0 := Aside0.mk (Q_B0 (hoff 18 (by kernel_rfl)))
                have kb_ := HKB.out
                refine value_ (w1 := Lib.bytesWorld w' 5 st) (v := .slice (some ⟨w'.heap.size, 0, none⟩) 256 (grownCap w' 256 0 5)) (by rfl) rfl (by first | (go_simp; done) | (go_simp; rfl)) ?_
                refine hK.out _ _ ⟨w'.heap.size, (grownCap w' 256 0 5), A15, c15, (.slice (some ⟨w'.heap.size, 0, none⟩) 256 (grownCap w' 256 0 5)), m15_, (by rw [ha.out]; exact putSel_upk 12 hb_ rfl rfl rfl), fun _ => bytes_below B0.out B0.out.size 5 st, fun _ _ => ⟨HGC.out w', HTC.out w'⟩, fun h0_ _ => absurd ((hoff 15 (by kernel_rfl)).symm.trans h0_) (by decide), fun h0_ => absurd ((hoff 18 (by kernel_rfl)).symm.trans h0_) (by decide), fun _ => rfl, fun h0_ => absurd ((hoff 15 (by kernel_rfl)).symm.trans h0_) (by decide)⟩
              refine steps_cons ?_ ?_
              · rintro b a w' ⟨gb, cb, A15, c15, m12_, m15_, ha, Q_B0, Q_CB, Q_CP, Q_FIN, Q_X12_, Q_X15_⟩ hb_ hon hoff
                refine ⟨_, rfl, fun K hK => ?_⟩
                have e2 : a.tmps[2]? = some (.slice A l.length c) := by rw [ha]; exact (putSel_off rfl).trans rfl
                replace ha := Aside0.mk ha
                have B0 := Aside0.mk (Q_B0 (hoff 18 (by kernel_rfl)))
                refine value_ (w1 := w') (v := .slice A l.length c) (by rfl) rfl ?_ ?_
                · go_simp
                  (try simp only [i64_w])
                  try rfl
                refine hK.out _ _ ⟨gb, cb, A15, c15, m12_, m15_, (by rw [ha.out]; exact putSel_upk 13 hb_ rfl rfl rfl), Q_B0, Q_CB, fun h0_ _ => absurd ((hoff 15 (by kernel_rfl)).symm.trans h0_) (by decide), fun h0_ => absurd ((hoff 18 (by kernel_rfl)).symm.trans h0_) (by decide), Q_X12_, fun h0_ => absurd ((hoff 15 (by kernel_rfl)).symm.trans h0_) (by decide)⟩
              refine steps_cons ?_ ?_
              · rintro b a w' ⟨gb, cb, A15, c15, m12_, m15_, ha, Q_B0, Q_CB, Q_CP, Q_FIN, Q_X12_, Q_X15_⟩ hb_ hon hoff
                refine ⟨_, rfl, fun K hK => ?_⟩
                have e8 : a.tmps[8]? = some (.slice A3 m.length c3) := by rw [ha]; exact (putSel_off rfl).trans rfl
                replace ha := Aside0.mk ha
                have B0 := Aside0.mk (Q_B0 (hoff 18 (by kernel_rfl)))
                refine value_ (w1 := w') (v := .slice A3 m.length c3) (by rfl) rfl ?_ ?_
                · go_simp
                  (try simp only [i64_w])
                  try rfl
                refine hK.out _ _ ⟨gb, cb, A15, c15, m12_, m15_, (by rw [ha.out]; exact putSel_upk 14 hb_ rfl rfl rfl), Q_B0, Q_CB, fun h0_ _ => absurd ((hoff 15 (by kernel_rfl)).symm.trans h0_) (by decide), fun h0_ => absurd ((hoff 18 (by kernel_rfl)).symm.trans h0_) (by decide), Q_X12_, fun h0_ => absurd ((hoff 15 (by kernel_rfl)).symm.trans h0_) (by decide)⟩
              refine steps_cons ?_ ?_
              · rintro b a w' ⟨gb, cb, A15, c15, m12_, m15_, ha, Q_B0, Q_CB, Q_CP, Q_FIN, Q_X12_, Q_X15_⟩ hb_ hon hoff
                refine ⟨_, rfl, fun K hK => ?_⟩
                have e69 : a.tmps[69]? = some (m12_) := by rw [ha]; exact putSel_on (e := (12, 69, m12_)) 12 rfl rfl (hon 12 (by kernel_rfl)) rfl
                rw [Q_X12_ (hon 12 (by kernel_rfl))] at e69
                have e70 : a.tmps[70]? = some (.slice A l.length c) := by rw [ha]; exact putSel_on (e := (13, 70, .slice A l.length c)) 13 rfl rfl (hon 13 (by kernel_rfl)) rfl
                have e71 : a.tmps[71]? = some (.slice A3 m.length c3) := by rw [ha]; exact putSel_on (e := (14, 71, .slice A3 m.length c3)) 14 rfl rfl (hon 14 (by kernel_rfl)) rfl
                replace ha := Aside0.mk ha
                have B0 := Aside0.mk (Q_B0 (hoff 18 (by kernel_rfl)))
                have CB := Aside0.mk (Q_CB (hon 12 (by kernel_rfl)) hb_)
                refine goes_ Try.func76 (by kernel_rfl) rfl #[.slice (some ⟨gb, 0, none⟩) 256 cb, .slice A l.length c, .slice A3 m.length c3] (by rfl) rfl rfl (by first | (simp only [List.map_toArray, List.map_cons, List.map_nil, Act.eval, Array.getD_eq_getD_getElem?, Option.getD_some, e69, e70, e71]; done) | (simp only [List.map_toArray, List.map_cons, List.map_nil, Act.eval, Array.getD_eq_getD_getElem?, Option.getD_some, e69, e70, e71]; rfl)) ?_
                with_reducible refine (HPT.out _ B0.out _ cb CB.out.1 CB.out.2).mono ?_
                rintro e w2 ⟨A_, c_, rfl, hc_, hC_, hb⟩
                refine ⟨_, rfl, ?_⟩
                refine hK.out _ _ ⟨gb, cb, A_, c_, m12_, (.slice A_ 256 c_), (by rw [ha.out]; exact putSel_upk 15 hb_ rfl rfl rfl), fun _ => below_then B0.out B0.out.size hb, fun _ h1_ => absurd ((up_self b 15).symm.trans h1_) (by decide), fun _ _ => ⟨hc_, hC_⟩, fun h0_ => absurd ((hoff 18 (by kernel_rfl)).symm.trans h0_) (by decide), Q_X12_, fun _ => rfl⟩
              refine steps_cons ?_ ?_
              · rintro b a w' ⟨gb, cb, A15, c15, m12_, m15_, ha, Q_B0, Q_CB, Q_CP, Q_FIN, Q_X12_, Q_X15_⟩ hb_ hon hoff
                refine ⟨_, rfl, fun K hK => ?_⟩
                have e72 : a.tmps[72]? = some (m15_) := by rw [ha]; exact putSel_on (e := (15, 72, m15_)) 15 rfl rfl (hon 15 (by kernel_rfl)) rfl
                rw [Q_X15_ (hon 15 (by kernel_rfl))] at e72
                replace ha := Aside0.mk ha
                have B0 := Aside0.mk (Q_B0 (hoff 18 (by kernel_rfl)))
                have CP := Aside0.mk (Q_CP (hon 15 (by kernel_rfl)) hb_)
                have q_ := HSN.out w' A15 c15 CP.out.2
                refine value_ (w1 := w') (v := .string sn) (by rfl) rfl ?_ ?_
                · go_simp
                  (try simp only [i64_w])
                  try rfl
                refine hK.out _ _ ⟨gb, cb, A15, c15, m12_, m15_, (by rw [ha.out]; exact putSel_upk 16 hb_ rfl rfl rfl), Q_B0, fun _ h1_ => absurd ((hon 15 (by kernel_rfl)).symm.trans h1_) (by decide), fun _ h1_ => absurd ((up_self b 16).symm.trans h1_) (by decide), fun h0_ => absurd ((hoff 18 (by kernel_rfl)).symm.trans h0_) (by decide), Q_X12_, Q_X15_⟩
              refine steps_cons ?_ ?_
              · rintro b a w' ⟨gb, cb, A15, c15, m12_, m15_, ha, Q_B0, Q_CB, Q_CP, Q_FIN, Q_X12_, Q_X15_⟩ hb_ hon hoff
                refine ⟨_, rfl, fun K hK => ?_⟩
                have e60 : a.tmps[60]? = some (.slice (some ⟨L.gp, 0, none⟩) D.pages.length L.cp) := by rw [ha]; exact putSel_on (e := (3, 60, .slice (some ⟨L.gp, 0, none⟩) D.pages.length L.cp)) 3 rfl rfl (hon 3 (by kernel_rfl)) rfl
                have e61 : a.tmps[61]? = some (.int .i64 (i : Int)) := by rw [ha]; exact putSel_on (e := (4, 61, .int .i64 (i : Int))) 4 rfl rfl (hon 4 (by kernel_rfl)) rfl
                replace ha := Aside0.mk ha
                have B0 := Aside0.mk (Q_B0 (hoff 18 (by kernel_rfl)))
                have p_ := HP.out.1
                have q_ := HP.out.2
                refine value_ (w1 := w') (v := .pointer (some ⟨L.gp, i, none⟩)) (by rfl) rfl ?_ ?_
                · go_simp
                  (try simp only [i64_w])
                  try rfl
                refine hK.out _ _ ⟨gb, cb, A15, c15, m12_, m15_, (by rw [ha.out]; exact putSel_upk 17 hb_ rfl rfl rfl), Q_B0, fun _ h1_ => absurd ((hon 15 (by kernel_rfl)).symm.trans h1_) (by decide), fun _ h1_ => absurd ((hon 16 (by kernel_rfl)).symm.trans h1_) (by decide), fun h0_ => absurd ((hoff 18 (by kernel_rfl)).symm.trans h0_) (by decide), Q_X12_, Q_X15_⟩
              refine steps_cons ?_ ?_
              · rintro b a w' ⟨gb, cb, A15, c15, m12_, m15_, ha, Q_B0, Q_CB, Q_CP, Q_FIN, Q_X12_, Q_X15_⟩ hb_ hon hoff
                refine ⟨_, rfl, fun K hK => ?_⟩
                have e74 : a.tmps[74]? = some (.pointer (some ⟨L.gp, i, none⟩)) := by rw [ha]; exact putSel_on (e := (17, 74, .pointer (some ⟨L.gp, i, none⟩))) 17 rfl rfl (hon 17 (by kernel_rfl)) rfl
                have e73 : a.tmps[73]? = some (.string sn) := by rw [ha]; exact putSel_on (e := (16, 73, .string sn)) 16 rfl rfl (hon 16 (by kernel_rfl)) rfl
                replace ha := Aside0.mk ha
                have B0 := Aside0.mk (Q_B0 hb_)
                have c_ := (H10.out.below B0.out).pg.cell HTX.out
                have fr_ := (H10.out.below B0.out).pg.frozen i
                refine skip_ (w1 := ?_) (by rfl) rfl ?_ ?_
                rotate_left
                · go_simp
                  rfl
                refine hK.out _ _ ⟨gb, cb, A15, c15, m12_, m15_, (by rw [ha.out]; exact putSel_none (v := undef) rfl), fun h0_ => absurd ((up_self b 18).symm.trans h0_) (by decide), fun _ h1_ => absurd ((hon 15 (by kernel_rfl)).symm.trans h1_) (by decide), fun _ h1_ => absurd ((hon 16 (by kernel_rfl)).symm.trans h1_) (by decide), fun _ => ⟨by rw [HEQ.out.2.2]; exact (H10.out.below B0.out).set_page i HPN.out, (Turn.of_below B0.out L.S).setCell (p := ⟨L.gp, i, none⟩) (.inl (.inr (.inl rfl))) _⟩, Q_X12_, Q_X15_⟩
              exact steps_nil
            rintro b a w11 hall ⟨gb, cb, A15, c15, m12_, m15_, ha, Q_B0, Q_CB, Q_CP, Q_FIN, Q_X12_, Q_X15_⟩
            clear B0
            have hb0_ := hall 0 (by kernel_rfl)
            have hb1_ := hall 1 (by kernel_rfl)
            have hb2_ := hall 2 (by kernel_rfl)
            have hb3_ := hall 3 (by kernel_rfl)
            have hb4_ := hall 4 (by kernel_rfl)
            have hb5_ := hall 5 (by kernel_rfl)
            have hb6_ := hall 6 (by kernel_rfl)
            have hb7_ := hall 7 (by kernel_rfl)
            have hb8_ := hall 8 (by kernel_rfl)
            have hb9_ := hall 9 (by kernel_rfl)
            have hb10_ := hall 10 (by kernel_rfl)
            have hb11_ := hall 11 (by kernel_rfl)
            have hb12_ := hall 12 (by kernel_rfl)
            have hb13_ := hall 13 (by kernel_rfl)
            have hb14_ := hall 14 (by kernel_rfl)
            have hb15_ := hall 15 (by kernel_rfl)
            have hb16_ := hall 16 (by kernel_rfl)
            have hb17_ := hall 17 (by kernel_rfl)
            have hb18_ := hall 18 (by kernel_rfl)
            subst ha
            obtain rfl := Q_X12_ hb12_
            obtain rfl := Q_X15_ hb15_
            simp only [putSel, hb0_, hb1_, hb2_, hb3_, hb4_, hb5_, hb6_, hb7_, hb8_, hb9_, hb10_, hb11_, hb12_, hb13_, hb14_, hb15_, hb16_, hb17_, hb18_, if_true, Act.put, List.setIfInBounds_toArray, List.set_cons_zero, List.set_cons_succ]
            clear Q_B0
            clear Q_CB
            clear Q_CP
            have FIN := Aside0.mk (Q_FIN hb18_)
            clear Q_FIN
            clear hall hb0_ hb1_ hb2_ hb3_ hb4_ hb5_ hb6_ hb7_ hb8_ hb9_ hb10_ hb11_ hb12_ hb13_ hb14_ hb15_ hb16_ hb17_ hb18_
            have H11 : Aside0 (XV w11 ok L { D with ops := wrap64 (D.ops + 1), pages := D.pages.set i pn }) := ⟨FIN.out.1⟩
            have T11 := Aside0.mk (T10.out.trans FIN.out.2 (fun k hk => .inl hk))
            have HZ11 := Aside0.mk (blk_turn HZ10.out FIN.out.2 HN4.out)
            have HNXR := Aside0.mk (show 0 ≤ nx + 1 ∧ nx + 1 ≤ D.P by have := HN.out; omega)
            have HWP : Aside0 (IntKind.i64.wrap (nx + 1) = nx + 1) := ⟨(wrap_id (by have := HN.out; omega) (by have := HN.out; have := H00.out.ok.p2; omega)).1⟩
            clear FIN H10 T10 HZ10 GM10 GL10 HTX HKB HGC HTC HPT HSN
            go_upto_region 12 with fail
            have B0 := Aside0.mk (below_drew1 (Below.refl w11.heap.size w11))
            refine start_ (n := 11) (S := fun w' => True) (ds := []) #[false, false, false, false, false, false, false, false, false, false, false] (by kernel_rfl) rfl rfl trivial (fun hHeld => ?_)
            refine with_tabW xprog12.tab12 xprog12.bits12 (fun HT_ HW_ => ?_)
            generalize w11.drew = wq at B0 hHeld ⊢
            refine inv_at [0, 1, 2, 3, 4, 5, 6, 7, 8, 9, 10] (fun a0_ b a w' => a = putSel a0_ b [(0, 75, .pointer (some ⟨L.g, 0, none⟩)), (1, 76, .pointer (some ⟨L.g, 0, none⟩)), (2, 77, .pointer (some ⟨L.g, 5, none⟩)), (3, 78, .slice (some ⟨L.gn, 0, none⟩) D.next.length L.cn), (4, 79, .pointer (some ⟨g4, 0, none⟩)), (5, 80, .int .i64 (n : Int)), (6, 81, .pointer (some ⟨g4, 1, none⟩)), (7, 82, .int .i64 nx), (8, 83, .int .i64 (nx + 1)), (9, 84, .pointer (some ⟨L.gn, n, none⟩))] ∧ (b 10 = false → Below w11.heap.size w11 w') ∧ (b 10 = true → XV w' ok L { D with ops := wrap64 (D.ops + 1), pages := D.pages.set i pn, next := D.next.set n (nx + 1) } ∧ Turn w11 w' L.S)) HT_.out HW_.out (by kernel_rfl) (by kernel_rfl) ?_ ?_ ?_
            · exact ⟨by simp only [putSel, Bool.false_eq_true, if_false], fun _ => B0.out, fun h_ => absurd h_ (by decide)⟩
            · skip
              clear B0
              refine steps_cons ?_ ?_
              · rintro b a w' ⟨ha, Q_B0, Q_FIN⟩ hb_ hon hoff
                refine ⟨_, rfl, fun K hK => ?_⟩
                have e0 : a.tmps[0]? = some (.pointer (some ⟨L.g, 0, none⟩)) := by rw [ha]; exact (putSel_off rfl).trans rfl
                replace ha := Aside0.mk ha
                have B0 := Aside0.mk (Q_B0 (hoff 10 (by kernel_rfl)))
                refine value_ (w1 := w') (v := .pointer (some ⟨L.g, 0, none⟩)) (by rfl) rfl ?_ ?_
                · go_simp
                  (try simp only [i64_w])
                  try rfl
                refine hK.out _ _ ⟨(by rw [ha.out]; exact putSel_upk 0 hb_ rfl rfl rfl), Q_B0, fun h0_ => absurd ((hoff 10 (by kernel_rfl)).symm.trans h0_) (by decide)⟩
              refine steps_cons ?_ ?_
              · rintro b a w' ⟨ha, Q_B0, Q_FIN⟩ hb_ hon hoff
                refine ⟨_, rfl, fun K hK => ?_⟩
                have e75 : a.tmps[75]? = some (.pointer (some ⟨L.g, 0, none⟩)) := by rw [ha]; exact putSel_on (e := (0, 75, .pointer (some ⟨L.g, 0, none⟩))) 0 rfl rfl (hon 0 (by kernel_rfl)) rfl
                replace ha := Aside0.mk ha
                have B0 := Aside0.mk (Q_B0 (hoff 10 (by kernel_rfl)))
                refine value_ (w1 := w') (v := .pointer (some ⟨L.g, 0, none⟩)) (by rfl) rfl ?_ ?_
                · go_simp
                  (try simp only [i64_w])
                  try rfl
                refine hK.out _ _ ⟨(by rw [ha.out]; exact putSel_upk 1 hb_ rfl rfl rfl), Q_B0, fun h0_ => absurd ((hoff 10 (by kernel_rfl)).symm.trans h0_) (by decide)⟩
              refine steps_cons ?_ ?_
              · rintro b a w' ⟨ha, Q_B0, Q_FIN⟩ hb_ hon hoff
                refine ⟨_, rfl, fun K hK => ?_⟩
                have e76 : a.tmps[76]? = some (.pointer (some ⟨L.g, 0, none⟩)) := by rw [ha]; exact putSel_on (e := (1, 76, .pointer (some ⟨L.g, 0, none⟩))) 1 rfl rfl (hon 1 (by kernel_rfl)) rfl
                replace ha := Aside0.mk ha
                have B0 := Aside0.mk (Q_B0 (hoff 10 (by kernel_rfl)))
                refine value_ (w1 := w') (v := .pointer (some ⟨L.g, 5, none⟩)) (by rfl) rfl ?_ ?_
                · go_simp
                  (try simp only [i64_w])
                  try rfl
                refine hK.out _ _ ⟨(by rw [ha.out]; exact putSel_upk 2 hb_ rfl rfl rfl), Q_B0, fun h0_ => absurd ((hoff 10 (by kernel_rfl)).symm.trans h0_) (by decide)⟩
              refine steps_cons ?_ ?_
              · rintro b a w' ⟨ha, Q_B0, Q_FIN⟩ hb_ hon hoff
                refine ⟨_, rfl, fun K hK => ?_⟩
                have e77 : a.tmps[77]? = some (.pointer (some ⟨L.g, 5, none⟩)) := by rw [ha]; exact putSel_on (e := (2, 77, .pointer (some ⟨L.g, 5, none⟩))) 2 rfl rfl (hon 2 (by kernel_rfl)) rfl
                replace ha := Aside0.mk ha
                have B0 := Aside0.mk (Q_B0 (hoff 10 (by kernel_rfl)))
                have c_ := (xtop_cells (H11.out.below B0.out)).2.2.2.2.2.1
                refine value_ (w1 := w') (v := .slice (some ⟨L.gn, 0, none⟩) D.next.length L.cn) (by rfl) rfl ?_ ?_
                · go_simp
                  (try simp only [i64_w])
                  try rfl
                refine hK.out _ _ ⟨(by rw [ha.out]; exact putSel_upk 3 hb_ rfl rfl rfl), Q_B0, fun h0_ => absurd ((hoff 10 (by kernel_rfl)).symm.trans h0_) (by decide)⟩
              refine steps_cons ?_ ?_
              · rintro b a w' ⟨ha, Q_B0, Q_FIN⟩ hb_ hon hoff
                refine ⟨_, rfl, fun K hK => ?_⟩
                have e4 : a.tmps[4]? = some (.pointer (some ⟨g4, 0, none⟩)) := by rw [ha]; exact (putSel_off rfl).trans rfl
                replace ha := Aside0.mk ha
                have B0 := Aside0.mk (Q_B0 (hoff 10 (by kernel_rfl)))
                refine value_ (w1 := w') (v := .pointer (some ⟨g4, 0, none⟩)) (by rfl) rfl ?_ ?_
                · go_simp
                  (try simp only [i64_w])
                  try rfl
                refine hK.out _ _ ⟨(by rw [ha.out]; exact putSel_upk 4 hb_ rfl rfl rfl), Q_B0, fun h0_ => absurd ((hoff 10 (by kernel_rfl)).symm.trans h0_) (by decide)⟩
              refine steps_cons ?_ ?_
              · rintro b a w' ⟨ha, Q_B0, Q_FIN⟩ hb_ hon hoff
                refine ⟨_, rfl, fun K hK => ?_⟩
                have e79 : a.tmps[79]? = some (.pointer (some ⟨g4, 0, none⟩)) := by rw [ha]; exact putSel_on (e := (4, 79, .pointer (some ⟨g4, 0, none⟩))) 4 rfl rfl (hon 4 (by kernel_rfl)) rfl
                replace ha := Aside0.mk ha
                have B0 := Aside0.mk (Q_B0 (hoff 10 (by kernel_rfl)))
                have c_ := blk_cell (blk_below HZ11.out B0.out) 0
                refine value_ (w1 := w') (v := .int .i64 (n : Int)) (by rfl) rfl ?_ ?_
                · go_simp
                  (try simp only [i64_w])
                  try rfl
                refine hK.out _ _ ⟨(by rw [ha.out]; exact putSel_upk 5 hb_ rfl rfl rfl), Q_B0, fun h0_ => absurd ((hoff 10 (by kernel_rfl)).symm.trans h0_) (by decide)⟩
              refine steps_cons ?_ ?_
              · rintro b a w' ⟨ha, Q_B0, Q_FIN⟩ hb_ hon hoff
                refine ⟨_, rfl, fun K hK => ?_⟩
                have e4 : a.tmps[4]? = some (.pointer (some ⟨g4, 0, none⟩)) := by rw [ha]; exact (putSel_off rfl).trans rfl
                replace ha := Aside0.mk ha
                have B0 := Aside0.mk (Q_B0 (hoff 10 (by kernel_rfl)))
                refine value_ (w1 := w') (v := .pointer (some ⟨g4, 1, none⟩)) (by rfl) rfl ?_ ?_
                · go_simp
                  (try simp only [i64_w])
                  try rfl
                refine hK.out _ _ ⟨(by rw [ha.out]; exact putSel_upk 6 hb_ rfl rfl rfl), Q_B0, fun h0_ => absurd ((hoff 10 (by kernel_rfl)).symm.trans h0_) (by decide)⟩
              refine steps_cons ?_ ?_
              · rintro b a w' ⟨ha, Q_B0, Q_FIN⟩ hb_ hon hoff
                refine ⟨_, rfl, fun K hK => ?_⟩
                have e81 : a.tmps[81]? = some (.pointer (some ⟨g4, 1, none⟩)) := by rw [ha]; exact putSel_on (e := (6, 81, .pointer (some ⟨g4, 1, none⟩))) 6 rfl rfl (hon 6 (by kernel_rfl)) rfl
                replace ha := Aside0.mk ha
                have B0 := Aside0.mk (Q_B0 (hoff 10 (by kernel_rfl)))
                have c_ := blk_cell (blk_below HZ11.out B0.out) 1
                refine value_ (w1 := w') (v := .int .i64 nx) (by rfl) rfl ?_ ?_
                · go_simp
                  (try simp only [i64_w])
                  try rfl
                refine hK.out _ _ ⟨(by rw [ha.out]; exact putSel_upk 7 hb_ rfl rfl rfl), Q_B0, fun h0_ => absurd ((hoff 10 (by kernel_rfl)).symm.trans h0_) (by decide)⟩
              refine steps_cons ?_ ?_
              · rintro b a w' ⟨ha, Q_B0, Q_FIN⟩ hb_ hon hoff
                refine ⟨_, rfl, fun K hK => ?_⟩
                have e82 : a.tmps[82]? = some (.int .i64 nx) := by rw [ha]; exact putSel_on (e := (7, 82, .int .i64 nx)) 7 rfl rfl (hon 7 (by kernel_rfl)) rfl
                replace ha := Aside0.mk ha
                have B0 := Aside0.mk (Q_B0 (hoff 10 (by kernel_rfl)))
                have q_ := HWP.out
                refine value_ (w1 := w') (v := .int .i64 (nx + 1)) (by rfl) rfl ?_ ?_
                · go_simp
                  (try simp only [i64_w])
                  try rfl
                refine hK.out _ _ ⟨(by rw [ha.out]; exact putSel_upk 8 hb_ rfl rfl rfl), Q_B0, fun h0_ => absurd ((hoff 10 (by kernel_rfl)).symm.trans h0_) (by decide)⟩
              refine steps_cons ?_ ?_
              · rintro b a w' ⟨ha, Q_B0, Q_FIN⟩ hb_ hon hoff
                refine ⟨_, rfl, fun K hK => ?_⟩
                have e78 : a.tmps[78]? = some (.slice (some ⟨L.gn, 0, none⟩) D.next.length L.cn) := by rw [ha]; exact putSel_on (e := (3, 78, .slice (some ⟨L.gn, 0, none⟩) D.next.length L.cn)) 3 rfl rfl (hon 3 (by kernel_rfl)) rfl
                have e80 : a.tmps[80]? = some (.int .i64 (n : Int)) := by rw [ha]; exact putSel_on (e := (5, 80, .int .i64 (n : Int))) 5 rfl rfl (hon 5 (by kernel_rfl)) rfl
                replace ha := Aside0.mk ha
                have B0 := Aside0.mk (Q_B0 (hoff 10 (by kernel_rfl)))
                have p_ := HQ2.out.1
                have q_ := HQ2.out.2
                refine value_ (w1 := w') (v := .pointer (some ⟨L.gn, n, none⟩)) (by rfl) rfl ?_ ?_
                · go_simp
                  (try simp only [i64_w])
                  try rfl
                refine hK.out _ _ ⟨(by rw [ha.out]; exact putSel_upk 9 hb_ rfl rfl rfl), Q_B0, fun h0_ => absurd ((hoff 10 (by kernel_rfl)).symm.trans h0_) (by decide)⟩
              refine steps_cons ?_ ?_
              · rintro b a w' ⟨ha, Q_B0, Q_FIN⟩ hb_ hon hoff
                refine ⟨_, rfl, fun K hK => ?_⟩
                have e84 : a.tmps[84]? = some (.pointer (some ⟨L.gn, n, none⟩)) := by rw [ha]; exact putSel_on (e := (9, 84, .pointer (some ⟨L.gn, n, none⟩))) 9 rfl rfl (hon 9 (by kernel_rfl)) rfl
                have e83 : a.tmps[83]? = some (.int .i64 (nx + 1)) := by rw [ha]; exact putSel_on (e := (8, 83, .int .i64 (nx + 1))) 8 rfl rfl (hon 8 (by kernel_rfl)) rfl
                replace ha := Aside0.mk ha
                have B0 := Aside0.mk (Q_B0 hb_)
                have c_ := (H11.out.below B0.out).nx.cell HNC.out
                have fr_ := (H11.out.below B0.out).nx.frozen n
                refine skip_ (w1 := ?_) (by rfl) rfl ?_ ?_
                rotate_left
                · go_simp
                  rfl
                refine hK.out _ _ ⟨(by rw [ha.out]; exact putSel_none (v := undef) rfl), fun h0_ => absurd ((up_self b 10).symm.trans h0_) (by decide), fun _ => ⟨(H11.out.below B0.out).set_next n (nx + 1) HNXR.out, (Turn.of_below B0.out L.S).setCell (p := ⟨L.gn, n, none⟩) (.inl (.inr (.inr (.inl rfl)))) _⟩⟩
              exact steps_nil
            rintro b a w12 hall ⟨ha, Q_B0, Q_FIN⟩
            clear B0
            have hb0_ := hall 0 (by kernel_rfl)
            have hb1_ := hall 1 (by kernel_rfl)
            have hb2_ := hall 2 (by kernel_rfl)
            have hb3_ := hall 3 (by kernel_rfl)
            have hb4_ := hall 4 (by kernel_rfl)
            have hb5_ := hall 5 (by kernel_rfl)
            have hb6_ := hall 6 (by kernel_rfl)
            have hb7_ := hall 7 (by kernel_rfl)
            have hb8_ := hall 8 (by kernel_rfl)
            have hb9_ := hall 9 (by kernel_rfl)
            have hb10_ := hall 10 (by kernel_rfl)
            subst ha
            simp only [putSel, hb0_, hb1_, hb2_, hb3_, hb4_, hb5_, hb6_, hb7_, hb8_, hb9_, hb10_, if_true, Act.put, List.setIfInBounds_toArray, List.set_cons_zero, List.set_cons_succ]
            clear Q_B0
            have FIN := Aside0.mk (Q_FIN hb10_)
            clear Q_FIN
            clear hall hb0_ hb1_ hb2_ hb3_ hb4_ hb5_ hb6_ hb7_ hb8_ hb9_ hb10_
            have T12 := Aside0.mk (T11.out.trans FIN.out.2 (fun k hk => .inl hk))
            have H12 := Aside0.mk FIN.out.1
            have HEN := Aside0.mk (xend_calls FIN.out.1 HD0.out D.fault.1 (fault_kind D))
            clear FIN H11 T11 HZ11
            go_wp2_with (go_at_call 77; refine HEN.out.mono ?_; rintro e w14 ⟨rfl, hD14, hT14⟩; have H14 := Aside0.mk hD14; have T14 := Aside0.mk (T12.out.trans hT14 (fun k hk => .inl hk)); clear hD14 hT14)
            go_ret
            rw [HR1.out]
            have hE : D.progD (n : Int) nx l = { D with ops := wrap64 (D.ops + 1), pages := D.pages.set i pn, next := D.next.set n (nx + 1), down := D.fault.1 == 2 } := by unfold Dv.progD; rw [← HI.out.1, ← HM.out, HEQ.out.2.1, HEQ.out.1]; rfl
            refine ⟨rfl, ?_, T14.out⟩
            show XV w14 ok L (D.progD (n : Int) nx l)
            rw [hE]
            exact H14.out
end Go.Proofs.Ytnchdmidaigheaa.ND
namespace Go.Proofs.Ytnchdmidaigheaa.ND
set_option linter.unusedVariables false
set_option linter.unusedSimpArgs false
open Go.RowKit Go.Proofs.Ytnchdmidaigheaa.Hp Go.Proofs.YtnchdmidaigheaaW.PrintWords Go.Proofs.YtnchdmidaigheaaW.PrintLast Go.Proofs.YtnchdmidaigheaaW.PrintMore
def wipedTo (l : List (List Int)) (i0 : Nat) (m : List Int) (k : Nat) : List (List Int) := l.mapIdx fun i x => if i0 ≤ i ∧ i < i0 + k then wipeRow x m else x
theorem wipedTo_zero (l : List (List Int)) (i0 : Nat) (m : List Int) : wipedTo l i0 m 0 = l := by
  unfold wipedTo
  apply List.ext_getElem?
  intro j
  rw [List.getElem?_mapIdx]
  cases l[j]? with
  | none => rfl
  | some x => show some (ite _ _ _) = some x; rw [if_neg (by omega)]
theorem wipedTo_len (l : List (List Int)) (i0 : Nat) (m : List Int) (k : Nat) : (wipedTo l i0 m k).length = l.length := List.length_mapIdx
theorem wipedTo_at (l : List (List Int)) (i0 : Nat) (m : List Int) (k : Nat) : (wipedTo l i0 m k).getD (i0 + k) [] = l.getD (i0 + k) [] := by
  unfold wipedTo
  rw [List.getD_eq_getElem?_getD, List.getElem?_mapIdx, List.getD_eq_getElem?_getD]
  cases l[i0 + k]? with
  | none => rfl
  | some x => show ite _ _ _ = x; rw [if_neg (by omega)]
theorem wipedTo_succ (l : List (List Int)) (i0 : Nat) (m : List Int) (k : Nat) (h : i0 + k < l.length) : (wipedTo l i0 m k).set (i0 + k) (wipeRow (l.getD (i0 + k) []) m) = wipedTo l i0 m (k + 1) := by
  apply List.ext_getElem?
  intro j
  rw [List.getElem?_set, wipedTo_len]
  unfold wipedTo
  rw [List.getElem?_mapIdx, List.getElem?_mapIdx]
  by_cases hj : i0 + k = j
  · rw [if_pos hj, if_pos h, List.getD_eq_getElem?_getD, hj]
    rw [hj] at h
    rw [List.getElem?_eq_getElem h]
    show some _ = some (ite _ _ _)
    rw [if_pos (by omega)]
    rfl
  · rw [if_neg hj]
    cases l[j]? with
    | none => rfl
    | some x =>
      show some (ite _ _ _) = some (ite _ _ _)
      by_cases h1 : i0 ≤ j ∧ j < i0 + k
      · rw [if_pos h1, if_pos (by omega)]
      · rw [if_neg h1, if_neg (by omega)]
theorem wipedTo_all {D : Dv} (n i0 k : Nat) (m : List Int) (h0 : (i0 : Int) = (n : Int) * D.P) (hk : (k : Int) = D.P) : wipedTo D.pages i0 m k = wiped D (n : Int) m := by
  unfold wipedTo wiped
  apply List.ext_getElem?
  intro j
  rw [List.getElem?_mapIdx, List.getElem?_mapIdx]
  have e : ((n : Int) + 1) * D.P = (i0 : Int) + (k : Int) := by rw [Int.add_mul, Int.one_mul, ← h0, hk]
  cases D.pages[j]? with
  | none => rfl
  | some x =>
    show some (ite _ _ _) = some (ite _ _ _)
    rw [e, ← h0]
    by_cases h1 : i0 ≤ j ∧ j < i0 + k
    · rw [if_pos h1, if_pos (by omega)]
    · rw [if_neg h1, if_neg (by omega)]
def erase12.T12 : Bool × List (List Nat × List Nat) := (true, [([], []), ([0], [0]), ([1], [1]), ([2], [2]), ([], []), ([], []), ([5], [5]), ([6], [6]), ([7], [7]), ([8], [8]), ([3, 4, 0, 1, 2, 3, 4, 5, 6, 7, 8, 9], [3, 4]), ([10, 9, 0, 1, 2, 3, 4, 5, 6, 7, 8, 9], [9, 10])])
def erase12.B12 : List Nat := [0, 1, 3, 7, 0, 0, 32, 96, 224, 480, 1023, 2047]
theorem erase12.tab12 : rtab .any (opsOf Try.f16 12) = erase12.T12 := by kernel_rfl
theorem erase12.bits12 : waitsOk erase12.T12.2 erase12.B12 = true := by kernel_rfl
set_option maxHeartbeats 2000000 in
set_option maxRecDepth 100000 in
theorem erase_calls {W : World} {ok : Nat → Prop} {L : Lay} {D : Dv} (h : DV W ok L D) (bk : Int) :
    Calls Try.prog 16 #[.pointer (some ⟨L.g, 0, none⟩), .int .i64 bk] W fun e w' => e = .returned (.int .i64 (D.erase bk).1) ∧ DV w' (newer W ok) L (D.erase bk).2 ∧ Turn W w' L.S := by
  have H00 := Aside0.mk h
  obtain ⟨r, hr⟩ : ∃ r, r = D.erase bk := ⟨_, rfl⟩
  rw [← hr]
  have HRR := Aside0.mk hr
  have HU := Aside0.mk (up_calls h)
  clear hr h
  cases hd : D.down with
  | true =>
    rw [hd, if_pos rfl] at HU
    have HR1 : Aside0 (r = (9, D)) := ⟨by rw [HRR.out]; unfold Dv.erase; rw [if_pos hd]⟩
    clear hd
    go_enter Try.func16, Try.ntmps16
    go_wp2_with (go_at_call 63; refine HU.out.mono ?_; rintro e w3 ⟨rfl, hb⟩; have HB3 := Aside0.mk hb; clear hb)
    go_ret
    rw [HR1.out]
    exact ⟨rfl, (H00.out.below HB3.out).newer_ H00.out.lt, Turn.of_below HB3.out _⟩
  | false =>
    rw [hd, if_neg (by decide)] at HU
    have HD0 := Aside0.mk hd
    clear hd
    go_enter Try.func16, Try.ntmps16
    go_upto_region 4 with (go_at_call 63; refine HU.out.mono ?_; rintro e w3 ⟨rfl, hb⟩; have HB3 := Aside0.mk hb; clear hb)
    have HT := Aside0.mk (there_calls (H00.out.below HB3.out) bk)
    cases hh : D.there bk with
    | false =>
      rw [hh] at HT
      have HR1 : Aside0 (r = (3, D)) := ⟨by rw [HRR.out]; unfold Dv.erase; rw [if_neg (by rw [HD0.out]; decide), if_pos hh]⟩
      clear hh
      go_wp2_with (go_at_call 62; refine HT.out.mono ?_; rintro e w5 ⟨rfl, hb⟩; have HB5 := Aside0.mk (below_then HB3.out HB3.out.size hb); clear hb)
      go_ret
      rw [HR1.out]
      exact ⟨rfl, (H00.out.below HB5.out).newer_ H00.out.lt, Turn.of_below HB5.out _⟩
    | true =>
      rw [hh] at HT
      obtain ⟨h1, h2⟩ := there_iff.1 hh
      obtain ⟨n, rfl⟩ := Int.eq_ofNat_of_zero_le h1
      have HHH := Aside0.mk hh
      have HN := Aside0.mk h2
      obtain ⟨bm, hbm⟩ : ∃ x, x = D.mark (n : Int) := ⟨_, rfl⟩
      have HBM := Aside0.mk hbm
      clear hh h1 h2 hbm
      go_upto_region 6 with (go_at_call 62; refine HT.out.mono ?_; rintro e w5 ⟨rfl, hb⟩; have HB5 := Aside0.mk (below_then HB3.out HB3.out.size hb); clear hb)
      have H5 := Aside0.mk (H00.out.below HB5.out)
      have c3 := (top_cells H5.out).2.2.2.1
      have ce := H5.out.mb.cell (marks_at HN.out)
      rw [← HBM.out] at ce
      have p1 := eq_true (show (0 : Int) ≤ (n : Int) by omega)
      have q1 := eq_true (show (n : Int) < (((marks D).length : Nat) : Int) by rw [marks_len]; have := HN.out; omega)
      clear HT
      cases bm with
      | true =>
        have HR1 : Aside0 (r = (12, D)) := ⟨by rw [HRR.out]; unfold Dv.erase; rw [if_neg (by rw [HD0.out]; decide), if_neg (by rw [HHH.out]; decide), if_pos HBM.out.symm]⟩
        go_wp2_with fail
        go_ret
        rw [HR1.out]
        exact ⟨rfl, (H00.out.below HB5.out).newer_ H00.out.lt, Turn.of_below HB5.out _⟩
      | false =>
        have HR1 : Aside0 (r = (ended D.fault.1, D.eraseD (n : Int))) := ⟨by rw [HRR.out]; unfold Dv.erase; rw [if_neg (by rw [HD0.out]; decide), if_neg (by rw [HHH.out]; decide), if_neg (by rw [← HBM.out]; decide)]⟩
        go_upto_region 8 with fail
        have HBG := Aside0.mk (begin_calls H5.out)
        obtain ⟨kd, hkd⟩ : ∃ x, x = D.fault.1 := ⟨_, rfl⟩
        obtain ⟨m, hm⟩ : ∃ m, m = D.fault.2 := ⟨_, rfl⟩
        rw [← hkd, ← hm] at HBG
        have HKD := Aside0.mk hkd
        have HM := Aside0.mk hm
        clear hkd hm c3 ce q1
        go_upto_region 9 with (go_at_call 64; refine HBG.out.mono ?_; rintro e w10 ⟨A3, c3, rfl, hc3, hF3, hD3, hT3⟩; have HE3 := Aside0.mk (And.intro hc3 (And.intro hF3 (And.intro hD3 hT3))); clear hc3 hF3 hD3 hT3)
        have hz10 := heap_alloc_new w10 (.cells #[.slice A3 m.length c3] 38)
        have hb10 := below_alloc (Below.refl w10.heap.size w10) (.cells #[.slice A3 m.length c3] 38)
        have hn10 : ¬ L.S w10.heap.size := fun hS => by have := H00.out.lt _ hS; have := HB5.out.size; have := HE3.out.2.2.2.size; omega
        have H11 : Aside0 (DV _ ok L { D with ops := wrap64 (D.ops + 1) }) := ⟨HE3.out.2.2.1.below hb10⟩
        have T11 := Aside0.mk (((Turn.of_below HB5.out L.S).trans HE3.out.2.2.2 (fun k hk => .inl hk)).below hb10)
        have F11 := Aside0.mk (Kd.F_mono (Kd.F_below HE3.out.2.1 hb10) (newer_le HB5.out.size))
        have HC3 := Aside0.mk HE3.out.1
        generalize w10.alloc (.cells #[.slice A3 m.length c3] 38) = W11 at hz10 hb10 H11 T11 F11 ⊢
        generalize w10.heap.size = g10 at hz10 hn10 ⊢
        have Z11 := Aside0.mk hz10
        have HN10 := Aside0.mk hn10
        clear hz10 hb10 hn10 HBG HE3 H5
        obtain ⟨wv, hwv⟩ : ∃ x, x = D.wear.getD n 0 := ⟨_, rfl⟩
        have HWV := Aside0.mk hwv
        have H12 := Aside0.mk (H11.out.set_wear n (wrap64 (wv + 1)) (wrap_range _))
        have t12 := (Turn.refl W11 L.S).setCell (p := ⟨L.gw, n, none⟩) (.inl (.inr (.inr (.inr rfl)))) (.int .i64 (wrap64 (wv + 1)))
        have T12 := Aside0.mk (T11.out.trans t12 (fun k hk => .inl hk))
        have F12 := Aside0.mk (F_turn F11.out t12 (fun k hk _ => newer_no H00.out (Nat.le_refl _) k hk))
        have Z12 := Aside0.mk (blk_turn Z11.out t12 HN10.out)
        have c6 := (top_cells H11.out).2.2.2.2.2.2.1
        have ce := H11.out.we.cell (ints_at (l := D.wear) (n := n) (by have := H00.out.ok.wl; have := HN.out; omega))
        rw [← hwv] at ce
        clear hwv
        have fe := H11.out.we.frozen n
        have q1 := eq_true (show (n : Int) < ((D.wear.length : Nat) : Int) by have := H00.out.ok.wl; have := HN.out; omega)
        go_upto_region 10 with fail
        generalize W11.setCell ⟨L.gw, n, none⟩ (.int .i64 (wrap64 (wv + 1))) = W12 at H12 T12 F12 Z12 ⊢
        clear c6 ce fe q1 t12 H11 T11 F11 Z11
        obtain ⟨wr', hwr⟩ : ∃ x, x = D.wear.set n (wrap64 (wv + 1)) := ⟨_, rfl⟩
        have H12' : Aside0 (DV W12 ok L { D with ops := wrap64 (D.ops + 1), wear := wr' }) := ⟨by rw [hwr]; exact H12.out⟩
        have HWR := Aside0.mk hwr
        have H13 := Aside0.mk (H12'.out.set_next n 0 ⟨Int.le_refl _, by have := H00.out.ok.p1; show 0 ≤ D.P; omega⟩)
        have t13 := (Turn.refl W12 L.S).setCell (p := ⟨L.gn, n, none⟩) (.inl (.inr (.inr (.inl rfl)))) (.int .i64 0)
        have T13 := Aside0.mk (T12.out.trans t13 (fun k hk => .inl hk))
        have F13 := Aside0.mk (F_turn F12.out t13 (fun k hk _ => newer_no H00.out (Nat.le_refl _) k hk))
        have Z13 := Aside0.mk (blk_turn Z12.out t13 HN10.out)
        have c5 := (top_cells H12'.out).2.2.2.2.2.1
        have ce := H12'.out.nx.cell (ints_at (l := D.next) (n := n) (by have := H00.out.ok.nl; have := HN.out; omega))
        have fe := H12'.out.nx.frozen n
        have q1 := eq_true (show (n : Int) < ((D.next.length : Nat) : Int) by have := H00.out.ok.nl; have := HN.out; omega)
        clear hwr H12
        go_upto_region 11 with fail
        generalize W12.setCell ⟨L.gn, n, none⟩ (.int .i64 0) = W13 at H13 T13 F13 Z13 ⊢
        clear c5 ce fe q1 t13 H12' T12 F12 Z12
        obtain ⟨Pn, hPn⟩ := Int.eq_ofNat_of_zero_le (show 0 ≤ D.P by have := H00.out.ok.p1; omega)
        have hmb := mul_lt_of (a := (n : Int)) (b := D.B) (p := 0) (P := D.P) (by omega) HN.out (Int.le_refl _) (by have := H00.out.ok.p1; omega)
        obtain ⟨i0, hi0⟩ := Int.eq_ofNat_of_zero_le (show 0 ≤ (n : Int) * D.P by omega)
        have hmb2 := mul_lt_of (a := (n : Int)) (b := D.B) (p := D.P - 1) (P := D.P) (by omega) HN.out (by have := H00.out.ok.p1; omega) (by omega)
        have HIX : Aside0 ((i0 : Int) = (n : Int) * D.P ∧ (Pn : Int) = D.P ∧ i0 + Pn ≤ D.pages.length ∧ Pn ≤ 32) := ⟨hi0.symm, hPn.symm, by have := H00.out.ok.pl; omega, by have := H00.out.ok.p2; omega⟩
        have HWM : IntKind.i64.wrap ((n : Int) * D.P) = (i0 : Int) := by have := H00.out.ok.size; have := H00.out.ok.pl; have := HIX.out.2.2.1; rw [hi0, i64_w]; unfold wrap64; omega
        have HWM2 : wrap64 ((n : Int) * D.P) = (i0 : Int) := by rw [← i64_w]; exact HWM
        replace HWM := Aside0.mk HWM
        replace HWM2 := Aside0.mk HWM2
        clear hmb hmb2 hi0 hPn
        by_cases hk0 : kd = 0
        case pos =>
          have tk : (kd != 0) = false := by rw [hk0]; rfl
          have HK0 := Aside0.mk hk0
          clear hk0
          have H14 : Aside0 (DV W13 ok L { D with ops := wrap64 (D.ops + 1), wear := wr', next := D.next.set n 0 }) := H13
          obtain ⟨nx', hnx⟩ : ∃ x, x = D.next.set n 0 := ⟨_, rfl⟩
          rw [← hnx] at H14
          have HNX : Aside0 (nx' = D.next.set n (if D.fault.1 = 0 then 0 else D.P)) := ⟨by rw [if_pos (by rw [← HKD.out]; exact HK0.out)]; exact hnx⟩
          have T14 := T13
          have F14 := F13
          have Z14 := Z13
          clear hnx H13 T13 F13 Z13
          go_upto_region 13 with fail
          clear tk
          have c1 := (top_cells H14.out).2.1
          go_wp2_with fail
          clear c1
          go_loopg [65] (Pn + 1) (fun kq v65 w' => ∃ k : Nat, v65 = .int .i64 (k : Int) ∧ Aside0 (k ≤ Pn ∧ kq + k = Pn + 1) ∧ Aside0 (DV w' (newer W ok) L { D with ops := wrap64 (D.ops + 1), wear := wr', next := nx', pages := wipedTo D.pages i0 m k }) ∧ Aside0 (Turn W13 w' L.S))
          case atStart => exact ⟨0, rfl, ⟨Nat.zero_le _, rfl⟩, ⟨by rw [wipedTo_zero]; exact H14.out.newer_ H00.out.lt⟩, ⟨Turn.refl _ _⟩⟩
          case round =>
            obtain ⟨k, rfl, HI, HD, HT⟩ := hrel
            clear p1
            by_cases hk : (k : Int) < D.P
            case neg =>
              have t1 : decide ((k : Int) < D.P) = false := decide_eq_false hk
              have hkP : k = Pn := by have := HI.out.1; have := HIX.out.2.1; omega
              have HKP := Aside0.mk hkP
              have HEN := Aside0.mk (end_calls HD.out HD0.out kd (by rw [HKD.out]; exact fault_kind D))
              clear hk hkP
              go_wp2_with (go_at_call 68; refine HEN.out.mono ?_; rintro e w18 ⟨rfl, hD18, hT18⟩; have H18 := Aside0.mk hD18; have T18 := Aside0.mk ((T14.out.trans HT.out (fun k hk => .inl hk)).trans hT18 (fun k hk => .inl hk)); clear hD18 hT18)
              go_ret
              rw [HR1.out]
              have hE : D.eraseD (n : Int) = { D with ops := wrap64 (D.ops + 1), wear := wr', next := nx', pages := wipedTo D.pages i0 m k, down := kd == 2 } := by
                unfold Dv.eraseD
                rw [HKP.out, wipedTo_all n i0 Pn m HIX.out.1 HIX.out.2.1, HWR.out, HWV.out, HNX.out, HM.out, HKD.out]
                rfl
              refine ⟨by rw [HKD.out]; rfl, ?_, T18.out⟩
              show DV w18 (newer W ok) L (D.eraseD (n : Int))
              rw [hE]
              exact H18.out
            case pos =>
              have t1 : decide ((k : Int) < D.P) = true := decide_eq_true hk
              have HKB : Aside0 (i0 + k < D.pages.length) := ⟨by have := HIX.out; omega⟩
              have HK2 : Aside0 (k < Pn) := ⟨by have := HIX.out; omega⟩
              have hpo := page_ok H00.out.ok HKB.out
              have hmo := fault_mask H00.out.ok
              rw [← HM.out] at hmo
              have hF := F_turn F14.out HT.out (fun k hk _ => newer_no H00.out (Nat.le_refl _) k hk)
              have hZ := blk_turn Z14.out HT.out HN10.out
              have HCH := Aside0.mk (change_calls HD.out (i0 + k) (by show i0 + k < (wipedTo D.pages i0 m k).length; rw [wipedTo_len]; exact HKB.out) 66 _ #[.pointer (some ⟨g10, 0, none⟩)] Try.func66 (by kernel_rfl) rfl (wipeRow (D.pages.getD (i0 + k) []) m) (wipeRow_ok hpo.1 hmo.1 hpo.2)
                (fun W' hW A' c' hc' hC' => erase1_calls (blk_below hZ hW) ⟨hmo.1, HC3.out⟩ hpo hc' (Kd.C_below (Kd.F_now hF) hW) (by have h' : (wipedTo D.pages i0 m k).getD (i0 + k) [] = D.pages.getD (i0 + k) [] := wipedTo_at _ _ _ _; rw [← h']; exact hC') (newer W ok)))
              have c1 := (top_cells HD.out).2.1
              have hw1 := HWM.out
              have hw2 := HWM2.out
              rw [Int.natCast_add] at HCH
              obtain ⟨hw3, hw4⟩ := wrap_id (x := (i0 : Int) + (k : Int)) (by omega) (by have := H00.out.ok.size; have := H00.out.ok.pl; have := HKB.out; omega)
              obtain ⟨hw5, hw6⟩ := wrap_id (x := (k : Int) + 1) (by omega) (by have := HIX.out.2.2.2; have := HK2.out; omega)
              clear hk hpo hmo hF hZ
              go_wp2_with (go_at_call 65; refine HCH.out.mono ?_; rintro e w16 ⟨rfl, hD16, hT16⟩; have H16 := Aside0.mk hD16; have T16 := Aside0.mk (HT.out.trans hT16 (fun k hk => .inl hk)); clear hD16 hT16)
              go_roundg (Pn - k)
              case measure => have := HI.out; have := HK2.out; omega
              case rel =>
                refine ⟨k + 1, by first | rfl | simp, ⟨by have := HK2.out; omega, by have := HI.out; have := HK2.out; omega⟩, ⟨?_⟩, T16⟩
                have h16 := H16.out.newer2 H00.out (fun k hk => by
                  rcases hk with hk | hk
                  · exact hk
                  · exact .inr (Nat.le_trans (Nat.le_trans T14.out.size HT.out.size) hk))
                rw [← wipedTo_succ _ _ _ _ HKB.out]
                exact h16
        case neg =>
          have tk : (kd != 0) = true := by simpa using hk0
          have H14 := Aside0.mk (H13.out.set_next n D.P ⟨by have := H00.out.ok.p1; show 0 ≤ D.P; omega, Int.le_refl _⟩)
          have B0 := Aside0.mk (below_drew1 (Below.refl W13.heap.size W13))
          have HQ2 := Aside0.mk (And.intro (eq_true (show (0 : Int) ≤ (n : Int) by omega)) (eq_true (show (n : Int) < ((D.next.length : Nat) : Int) by have := H00.out.ok.nl; have := HN.out; omega)))
          have HNC : Aside0 (((D.next.set n 0).map (Value.int .i64))[n]? = some (.int .i64 ((D.next.set n 0).getD n 0))) := ⟨ints_at (by rw [List.length_set]; have := H00.out.ok.nl; have := HN.out; omega)⟩
          have HPR := Aside0.mk (show 0 ≤ D.P ∧ D.P ≤ D.P by have := H00.out.ok.p1; omega)
          have HK0 := Aside0.mk hk0
          clear H14 hk0
          go_upto_region 12 with fail
          clear tk
          refine start_ (n := 12) (S := fun w' => True) (ds := []) #[false, false, false, false, false, false, false, false, false, false, false, false] (by kernel_rfl) rfl rfl trivial (fun hHeld => ?_)
          refine with_tabW erase12.tab12 erase12.bits12 (fun HT_ HW_ => ?_)
          generalize W13.drew = wq at B0 hHeld ⊢
          refine inv_at [0, 1, 2, 3, 4, 5, 6, 7, 8, 9, 10, 11] (fun a0_ b a w' => a = putSel a0_ b [(0, 49, .pointer (some ⟨L.g, 0, none⟩)), (1, 50, .pointer (some ⟨L.g, 0, none⟩)), (2, 51, .pointer (some ⟨L.g, 5, none⟩)), (3, 52, .slice (some ⟨L.gn, 0, none⟩) D.next.length L.cn), (4, 53, .int .i64 (n : Int)), (5, 54, .pointer (some ⟨L.g, 0, none⟩)), (6, 55, .pointer (some ⟨L.g, 0, none⟩)), (7, 56, .pointer (some ⟨L.g, 0, none⟩)), (8, 57, .pointer (some ⟨L.g, 1, none⟩)), (9, 58, .int .i64 D.P), (10, 59, .pointer (some ⟨L.gn, n, none⟩))] ∧ (b 11 = false → Below W13.heap.size W13 w') ∧ (b 11 = true → DV w' ok L { D with ops := wrap64 (D.ops + 1), wear := wr', next := (D.next.set n 0).set n D.P } ∧ Turn W13 w' L.S)) HT_.out HW_.out (by kernel_rfl) (by kernel_rfl) ?_ ?_ ?_
          · exact ⟨by simp only [putSel, Bool.false_eq_true, if_false], fun _ => B0.out, fun h_ => absurd h_ (by decide)⟩
          · skip
            clear B0
            refine steps_cons ?_ ?_
            · rintro b a w' ⟨ha, Q_B0, Q_FIN⟩ hb_ hon hoff
              refine ⟨_, rfl, fun K hK => ?_⟩
              have e0 : a.tmps[0]? = some (.pointer (some ⟨L.g, 0, none⟩)) := by rw [ha]; exact (putSel_off rfl).trans rfl
              replace ha := Aside0.mk ha
              have B0 := Aside0.mk (Q_B0 (hoff 11 (by kernel_rfl)))
              refine value_ (w1 := w') (v := .pointer (some ⟨L.g, 0, none⟩)) (by rfl) rfl ?_ ?_
              · go_simp
                (try simp only [i64_w])
                try rfl
              refine hK.out _ _ ⟨(by rw [ha.out]; exact putSel_upk 0 hb_ rfl rfl rfl), Q_B0, fun h0_ => absurd ((hoff 11 (by kernel_rfl)).symm.trans h0_) (by decide)⟩
            refine steps_cons ?_ ?_
            · rintro b a w' ⟨ha, Q_B0, Q_FIN⟩ hb_ hon hoff
              refine ⟨_, rfl, fun K hK => ?_⟩
              have e49 : a.tmps[49]? = some (.pointer (some ⟨L.g, 0, none⟩)) := by rw [ha]; exact putSel_on (e := (0, 49, .pointer (some ⟨L.g, 0, none⟩))) 0 rfl rfl (hon 0 (by kernel_rfl)) rfl
              replace ha := Aside0.mk ha
              have B0 := Aside0.mk (Q_B0 (hoff 11 (by kernel_rfl)))
              refine value_ (w1 := w') (v := .pointer (some ⟨L.g, 0, none⟩)) (by rfl) rfl ?_ ?_
              · go_simp
                (try simp only [i64_w])
                try rfl
              refine hK.out _ _ ⟨(by rw [ha.out]; exact putSel_upk 1 hb_ rfl rfl rfl), Q_B0, fun h0_ => absurd ((hoff 11 (by kernel_rfl)).symm.trans h0_) (by decide)⟩
            refine steps_cons ?_ ?_
            · rintro b a w' ⟨ha, Q_B0, Q_FIN⟩ hb_ hon hoff
              refine ⟨_, rfl, fun K hK => ?_⟩
              have e50 : a.tmps[50]? = some (.pointer (some ⟨L.g, 0, none⟩)) := by rw [ha]; exact putSel_on (e := (1, 50, .pointer (some ⟨L.g, 0, none⟩))) 1 rfl rfl (hon 1 (by kernel_rfl)) rfl
              replace ha := Aside0.mk ha
              have B0 := Aside0.mk (Q_B0 (hoff 11 (by kernel_rfl)))
              refine value_ (w1 := w') (v := .pointer (some ⟨L.g, 5, none⟩)) (by rfl) rfl ?_ ?_
              · go_simp
                (try simp only [i64_w])
                try rfl
              refine hK.out _ _ ⟨(by rw [ha.out]; exact putSel_upk 2 hb_ rfl rfl rfl), Q_B0, fun h0_ => absurd ((hoff 11 (by kernel_rfl)).symm.trans h0_) (by decide)⟩
            refine steps_cons ?_ ?_
            · rintro b a w' ⟨ha, Q_B0, Q_FIN⟩ hb_ hon hoff
              refine ⟨_, rfl, fun K hK => ?_⟩
              have e51 : a.tmps[51]? = some (.pointer (some ⟨L.g, 5, none⟩)) := by rw [ha]; exact putSel_on (e := (2, 51, .pointer (some ⟨L.g, 5, none⟩))) 2 rfl rfl (hon 2 (by kernel_rfl)) rfl
              replace ha := Aside0.mk ha
              have B0 := Aside0.mk (Q_B0 (hoff 11 (by kernel_rfl)))
              have c_ := (top_cells (H13.out.below B0.out)).2.2.2.2.2.1
              refine value_ (w1 := w') (v := .slice (some ⟨L.gn, 0, none⟩) D.next.length L.cn) (by rfl) rfl ?_ ?_
              · go_simp
                (try simp only [i64_w])
                try rfl
              refine hK.out _ _ ⟨(by rw [ha.out]; exact putSel_upk 3 hb_ rfl rfl rfl), Q_B0, fun h0_ => absurd ((hoff 11 (by kernel_rfl)).symm.trans h0_) (by decide)⟩
            refine steps_cons ?_ ?_
            · rintro b a w' ⟨ha, Q_B0, Q_FIN⟩ hb_ hon hoff
              refine ⟨_, rfl, fun K hK => ?_⟩
              have e1 : a.tmps[1]? = some (.int .i64 (n : Int)) := by rw [ha]; exact (putSel_off rfl).trans rfl
              replace ha := Aside0.mk ha
              have B0 := Aside0.mk (Q_B0 (hoff 11 (by kernel_rfl)))
              refine value_ (w1 := w') (v := .int .i64 (n : Int)) (by rfl) rfl ?_ ?_
              · go_simp
                (try simp only [i64_w])
                try rfl
              refine hK.out _ _ ⟨(by rw [ha.out]; exact putSel_upk 4 hb_ rfl rfl rfl), Q_B0, fun h0_ => absurd ((hoff 11 (by kernel_rfl)).symm.trans h0_) (by decide)⟩
            refine steps_cons ?_ ?_
            · rintro b a w' ⟨ha, Q_B0, Q_FIN⟩ hb_ hon hoff
              refine ⟨_, rfl, fun K hK => ?_⟩
              have e0 : a.tmps[0]? = some (.pointer (some ⟨L.g, 0, none⟩)) := by rw [ha]; exact (putSel_off rfl).trans rfl
              replace ha := Aside0.mk ha
              have B0 := Aside0.mk (Q_B0 (hoff 11 (by kernel_rfl)))
              refine value_ (w1 := w') (v := .pointer (some ⟨L.g, 0, none⟩)) (by rfl) rfl ?_ ?_
              · go_simp
                (try simp only [i64_w])
                try rfl
              refine hK.out _ _ ⟨(by rw [ha.out]; exact putSel_upk 5 hb_ rfl rfl rfl), Q_B0, fun h0_ => absurd ((hoff 11 (by kernel_rfl)).symm.trans h0_) (by decide)⟩
            refine steps_cons ?_ ?_
            · rintro b a w' ⟨ha, Q_B0, Q_FIN⟩ hb_ hon hoff
              refine ⟨_, rfl, fun K hK => ?_⟩
              have e54 : a.tmps[54]? = some (.pointer (some ⟨L.g, 0, none⟩)) := by rw [ha]; exact putSel_on (e := (5, 54, .pointer (some ⟨L.g, 0, none⟩))) 5 rfl rfl (hon 5 (by kernel_rfl)) rfl
              replace ha := Aside0.mk ha
              have B0 := Aside0.mk (Q_B0 (hoff 11 (by kernel_rfl)))
              refine value_ (w1 := w') (v := .pointer (some ⟨L.g, 0, none⟩)) (by rfl) rfl ?_ ?_
              · go_simp
                (try simp only [i64_w])
                try rfl
              refine hK.out _ _ ⟨(by rw [ha.out]; exact putSel_upk 6 hb_ rfl rfl rfl), Q_B0, fun h0_ => absurd ((hoff 11 (by kernel_rfl)).symm.trans h0_) (by decide)⟩
            refine steps_cons ?_ ?_
            · rintro b a w' ⟨ha, Q_B0, Q_FIN⟩ hb_ hon hoff
              refine ⟨_, rfl, fun K hK => ?_⟩
              have e55 : a.tmps[55]? = some (.pointer (some ⟨L.g, 0, none⟩)) := by rw [ha]; exact putSel_on (e := (6, 55, .pointer (some ⟨L.g, 0, none⟩))) 6 rfl rfl (hon 6 (by kernel_rfl)) rfl
              replace ha := Aside0.mk ha
              have B0 := Aside0.mk (Q_B0 (hoff 11 (by kernel_rfl)))
              refine value_ (w1 := w') (v := .pointer (some ⟨L.g, 0, none⟩)) (by rfl) rfl ?_ ?_
              · go_simp
                (try simp only [i64_w])
                try rfl
              refine hK.out _ _ ⟨(by rw [ha.out]; exact putSel_upk 7 hb_ rfl rfl rfl), Q_B0, fun h0_ => absurd ((hoff 11 (by kernel_rfl)).symm.trans h0_) (by decide)⟩
            refine steps_cons ?_ ?_
            · rintro b a w' ⟨ha, Q_B0, Q_FIN⟩ hb_ hon hoff
              refine ⟨_, rfl, fun K hK => ?_⟩
              have e56 : a.tmps[56]? = some (.pointer (some ⟨L.g, 0, none⟩)) := by rw [ha]; exact putSel_on (e := (7, 56, .pointer (some ⟨L.g, 0, none⟩))) 7 rfl rfl (hon 7 (by kernel_rfl)) rfl
              replace ha := Aside0.mk ha
              have B0 := Aside0.mk (Q_B0 (hoff 11 (by kernel_rfl)))
              refine value_ (w1 := w') (v := .pointer (some ⟨L.g, 1, none⟩)) (by rfl) rfl ?_ ?_
              · go_simp
                (try simp only [i64_w])
                try rfl
              refine hK.out _ _ ⟨(by rw [ha.out]; exact putSel_upk 8 hb_ rfl rfl rfl), Q_B0, fun h0_ => absurd ((hoff 11 (by kernel_rfl)).symm.trans h0_) (by decide)⟩
            refine steps_cons ?_ ?_
            · rintro b a w' ⟨ha, Q_B0, Q_FIN⟩ hb_ hon hoff
              refine ⟨_, rfl, fun K hK => ?_⟩
              have e57 : a.tmps[57]? = some (.pointer (some ⟨L.g, 1, none⟩)) := by rw [ha]; exact putSel_on (e := (8, 57, .pointer (some ⟨L.g, 1, none⟩))) 8 rfl rfl (hon 8 (by kernel_rfl)) rfl
              replace ha := Aside0.mk ha
              have B0 := Aside0.mk (Q_B0 (hoff 11 (by kernel_rfl)))
              have c_ := (top_cells (H13.out.below B0.out)).2.1
              refine value_ (w1 := w') (v := .int .i64 D.P) (by rfl) rfl ?_ ?_
              · go_simp
                (try simp only [i64_w])
                try rfl
              refine hK.out _ _ ⟨(by rw [ha.out]; exact putSel_upk 9 hb_ rfl rfl rfl), Q_B0, fun h0_ => absurd ((hoff 11 (by kernel_rfl)).symm.trans h0_) (by decide)⟩
            refine steps_cons ?_ ?_
            · rintro b a w' ⟨ha, Q_B0, Q_FIN⟩ hb_ hon hoff
              refine ⟨_, rfl, fun K hK => ?_⟩
              have e52 : a.tmps[52]? = some (.slice (some ⟨L.gn, 0, none⟩) D.next.length L.cn) := by rw [ha]; exact putSel_on (e := (3, 52, .slice (some ⟨L.gn, 0, none⟩) D.next.length L.cn)) 3 rfl rfl (hon 3 (by kernel_rfl)) rfl
              have e53 : a.tmps[53]? = some (.int .i64 (n : Int)) := by rw [ha]; exact putSel_on (e := (4, 53, .int .i64 (n : Int))) 4 rfl rfl (hon 4 (by kernel_rfl)) rfl
              replace ha := Aside0.mk ha
              have B0 := Aside0.mk (Q_B0 (hoff 11 (by kernel_rfl)))
              have p_ := HQ2.out.1
              have q_ := HQ2.out.2
              refine value_ (w1 := w') (v := .pointer (some ⟨L.gn, n, none⟩)) (by rfl) rfl ?_ ?_
              · go_simp
                (try simp only [i64_w])
                try rfl
              refine hK.out _ _ ⟨(by rw [ha.out]; exact putSel_upk 10 hb_ rfl rfl rfl), Q_B0, fun h0_ => absurd ((hoff 11 (by kernel_rfl)).symm.trans h0_) (by decide)⟩
            refine steps_cons ?_ ?_
            · rintro b a w' ⟨ha, Q_B0, Q_FIN⟩ hb_ hon hoff
              refine ⟨_, rfl, fun K hK => ?_⟩
              have e59 : a.tmps[59]? = some (.pointer (some ⟨L.gn, n, none⟩)) := by rw [ha]; exact putSel_on (e := (10, 59, .pointer (some ⟨L.gn, n, none⟩))) 10 rfl rfl (hon 10 (by kernel_rfl)) rfl
              have e58 : a.tmps[58]? = some (.int .i64 D.P) := by rw [ha]; exact putSel_on (e := (9, 58, .int .i64 D.P)) 9 rfl rfl (hon 9 (by kernel_rfl)) rfl
              replace ha := Aside0.mk ha
              have B0 := Aside0.mk (Q_B0 hb_)
              have c_ := (H13.out.below B0.out).nx.cell HNC.out
              have fr_ := (H13.out.below B0.out).nx.frozen n
              refine skip_ (w1 := ?_) (by rfl) rfl ?_ ?_
              rotate_left
              · go_simp
                rfl
              refine hK.out _ _ ⟨(by rw [ha.out]; exact putSel_none (v := undef) rfl), fun h0_ => absurd ((up_self b 11).symm.trans h0_) (by decide), fun _ => ⟨(H13.out.below B0.out).set_next n D.P HPR.out, (Turn.of_below B0.out L.S).setCell (p := ⟨L.gn, n, none⟩) (.inl (.inr (.inr (.inl rfl)))) _⟩⟩
            exact steps_nil
          rintro b a W14 hall ⟨ha, Q_B0, Q_FIN⟩
          clear B0
          have hb0_ := hall 0 (by kernel_rfl)
          have hb1_ := hall 1 (by kernel_rfl)
          have hb2_ := hall 2 (by kernel_rfl)
          have hb3_ := hall 3 (by kernel_rfl)
          have hb4_ := hall 4 (by kernel_rfl)
          have hb5_ := hall 5 (by kernel_rfl)
          have hb6_ := hall 6 (by kernel_rfl)
          have hb7_ := hall 7 (by kernel_rfl)
          have hb8_ := hall 8 (by kernel_rfl)
          have hb9_ := hall 9 (by kernel_rfl)
          have hb10_ := hall 10 (by kernel_rfl)
          have hb11_ := hall 11 (by kernel_rfl)
          subst ha
          simp only [putSel, hb0_, hb1_, hb2_, hb3_, hb4_, hb5_, hb6_, hb7_, hb8_, hb9_, hb10_, hb11_, if_true, Act.put, List.setIfInBounds_toArray, List.set_cons_zero, List.set_cons_succ]
          clear Q_B0
          have FIN := Aside0.mk (Q_FIN hb11_)
          clear Q_FIN
          clear hall hb0_ hb1_ hb2_ hb3_ hb4_ hb5_ hb6_ hb7_ hb8_ hb9_ hb10_ hb11_
          obtain ⟨nx', hnx⟩ : ∃ x, x = D.next.set n D.P := ⟨_, rfl⟩
          have H14 : Aside0 (DV W14 ok L { D with ops := wrap64 (D.ops + 1), wear := wr', next := nx' }) := ⟨by rw [hnx]; have := FIN.out.1; simp only [List.set_set] at this; exact this⟩
          have HNX : Aside0 (nx' = D.next.set n (if D.fault.1 = 0 then 0 else D.P)) := ⟨by rw [if_neg (by rw [← HKD.out]; exact HK0.out)]; exact hnx⟩
          have T14 := Aside0.mk (T13.out.trans FIN.out.2 (fun k hk => .inl hk))
          have F14 := Aside0.mk (F_turn F13.out FIN.out.2 (fun k hk _ => newer_no H00.out (Nat.le_refl _) k hk))
          have Z14 := Aside0.mk (blk_turn Z13.out FIN.out.2 HN10.out)
          clear hnx H13 T13 F13 Z13 FIN
          go_upto_region 13 with fail
          have c1 := (top_cells H14.out).2.1
          go_wp2_with fail
          clear c1
          go_loopg [65] (Pn + 1) (fun kq v65 w' => ∃ k : Nat, v65 = .int .i64 (k : Int) ∧ Aside0 (k ≤ Pn ∧ kq + k = Pn + 1) ∧ Aside0 (DV w' (newer W ok) L { D with ops := wrap64 (D.ops + 1), wear := wr', next := nx', pages := wipedTo D.pages i0 m k }) ∧ Aside0 (Turn W14 w' L.S))
          case atStart => exact ⟨0, rfl, ⟨Nat.zero_le _, rfl⟩, ⟨by rw [wipedTo_zero]; exact H14.out.newer_ H00.out.lt⟩, ⟨Turn.refl _ _⟩⟩
          case round =>
            obtain ⟨k, rfl, HI, HD, HT⟩ := hrel
            clear p1
            by_cases hk : (k : Int) < D.P
            case neg =>
              have t1 : decide ((k : Int) < D.P) = false := decide_eq_false hk
              have hkP : k = Pn := by have := HI.out.1; have := HIX.out.2.1; omega
              have HKP := Aside0.mk hkP
              have HEN := Aside0.mk (end_calls HD.out HD0.out kd (by rw [HKD.out]; exact fault_kind D))
              clear hk hkP
              go_wp2_with (go_at_call 68; refine HEN.out.mono ?_; rintro e w18 ⟨rfl, hD18, hT18⟩; have H18 := Aside0.mk hD18; have T18 := Aside0.mk ((T14.out.trans HT.out (fun k hk => .inl hk)).trans hT18 (fun k hk => .inl hk)); clear hD18 hT18)
              go_ret
              rw [HR1.out]
              have hE : D.eraseD (n : Int) = { D with ops := wrap64 (D.ops + 1), wear := wr', next := nx', pages := wipedTo D.pages i0 m k, down := kd == 2 } := by
                unfold Dv.eraseD
                rw [HKP.out, wipedTo_all n i0 Pn m HIX.out.1 HIX.out.2.1, HWR.out, HWV.out, HNX.out, HM.out, HKD.out]
                rfl
              refine ⟨by rw [HKD.out]; rfl, ?_, T18.out⟩
              show DV w18 (newer W ok) L (D.eraseD (n : Int))
              rw [hE]
              exact H18.out
            case pos =>
              have t1 : decide ((k : Int) < D.P) = true := decide_eq_true hk
              have HKB : Aside0 (i0 + k < D.pages.length) := ⟨by have := HIX.out; omega⟩
              have HK2 : Aside0 (k < Pn) := ⟨by have := HIX.out; omega⟩
              have hpo := page_ok H00.out.ok HKB.out
              have hmo := fault_mask H00.out.ok
              rw [← HM.out] at hmo
              have hF := F_turn F14.out HT.out (fun k hk _ => newer_no H00.out (Nat.le_refl _) k hk)
              have hZ := blk_turn Z14.out HT.out HN10.out
              have HCH := Aside0.mk (change_calls HD.out (i0 + k) (by show i0 + k < (wipedTo D.pages i0 m k).length; rw [wipedTo_len]; exact HKB.out) 66 _ #[.pointer (some ⟨g10, 0, none⟩)] Try.func66 (by kernel_rfl) rfl (wipeRow (D.pages.getD (i0 + k) []) m) (wipeRow_ok hpo.1 hmo.1 hpo.2)
                (fun W' hW A' c' hc' hC' => erase1_calls (blk_below hZ hW) ⟨hmo.1, HC3.out⟩ hpo hc' (Kd.C_below (Kd.F_now hF) hW) (by have h' : (wipedTo D.pages i0 m k).getD (i0 + k) [] = D.pages.getD (i0 + k) [] := wipedTo_at _ _ _ _; rw [← h']; exact hC') (newer W ok)))
              have c1 := (top_cells HD.out).2.1
              have hw1 := HWM.out
              have hw2 := HWM2.out
              rw [Int.natCast_add] at HCH
              obtain ⟨hw3, hw4⟩ := wrap_id (x := (i0 : Int) + (k : Int)) (by omega) (by have := H00.out.ok.size; have := H00.out.ok.pl; have := HKB.out; omega)
              obtain ⟨hw5, hw6⟩ := wrap_id (x := (k : Int) + 1) (by omega) (by have := HIX.out.2.2.2; have := HK2.out; omega)
              clear hk hpo hmo hF hZ
              go_wp2_with (go_at_call 65; refine HCH.out.mono ?_; rintro e w16 ⟨rfl, hD16, hT16⟩; have H16 := Aside0.mk hD16; have T16 := Aside0.mk (HT.out.trans hT16 (fun k hk => .inl hk)); clear hD16 hT16)
              go_roundg (Pn - k)
              case measure => have := HI.out; have := HK2.out; omega
              case rel =>
                refine ⟨k + 1, by first | rfl | simp, ⟨by have := HK2.out; omega, by have := HI.out; have := HK2.out; omega⟩, ⟨?_⟩, T16⟩
                have h16 := H16.out.newer2 H00.out (fun k hk => by
                  rcases hk with hk | hk
                  · exact hk
                  · exact .inr (Nat.le_trans (Nat.le_trans T14.out.size HT.out.size) hk))
                rw [← wipedTo_succ _ _ _ _ HKB.out]
                exact h16
end Go.Proofs.Ytnchdmidaigheaa.ND
