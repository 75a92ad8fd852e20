/- Parts of the proof of the statement DamageLooks, laid together (5 of 8). -/
import Derived.Deep.Upon
import Derived.Test.YtnchdmidaigheaaZDamageLooks3
namespace Go.Proofs.Ytnchdmidaigheaa.Hp
open Go.RowKit Go.Proofs.YtnchdmidaigheaaW.PrintWords Go.Proofs.YtnchdmidaigheaaW.PrintLast Go.Proofs.YtnchdmidaigheaaW.PrintMore
attribute [local go_sem] max2_int min2_int max_two min_two max_three min_three max_four min_four   -- for this text's walks alone
set_option linter.unusedVariables false
set_option linter.unusedSimpArgs false
def geom_Place.f (a0_0 : Int) (a0_1 : Int) (a0_2 : Int) (a1_0 : Int) (a1_1 : Int) : Option (Int) := (geom_Check.f a0_0 a0_1 a0_2).bind fun t115 => (if t115 = 0 then (if a1_0 < 0 then (some (-1)) else (if a1_0 ≥ a0_0 then (some (-1)) else (if a1_1 < 0 then (some (-1)) else (if a1_1 ≥ a0_1 then (some (-1)) else (some (wrap64 ((wrap64 (a1_0 * a0_1)) + a1_1))))))) else (some (-1)))
set_option maxHeartbeats 8000000 in
set_option maxRecDepth 100000 in
theorem geom_Place.calls (a0_0 : Int) (a0_1 : Int) (a0_2 : Int) (a1_0 : Int) (a1_1 : Int) (r : Int) (w : World) (h : geom_Place.f a0_0 a0_1 a0_2 a1_0 a1_1 = some r) :
    Calls Try.prog 69 #[.agg #[.int .i64 a0_0, .int .i64 a0_1, .int .i64 a0_2], .agg #[.int .i64 a1_0, .int .i64 a1_1]] w fun e w' => e = .returned (.int .i64 r) ∧ Below w.heap.size w w' := by
  have hu23 := Try.underlying23
  have hu37 := Try.underlying37
  have HB := Aside0.mk (Below.refl w.heap.size w)
  have H : ((geom_Check.f a0_0 a0_1 a0_2).bind fun t115 => (if t115 = 0 then (if a1_0 < 0 then (some (-1)) else (if a1_0 ≥ a0_0 then (some (-1)) else (if a1_1 < 0 then (some (-1)) else (if a1_1 ≥ a0_1 then (some (-1)) else (some (wrap64 ((wrap64 (a1_0 * a0_1)) + a1_1))))))) else (some (-1)))) = some r := h
  clear h
  replace H := Option.bind_eq_some_iff.mp H
  obtain ⟨t115, A30, H⟩ := H
  replace H : (if t115 = 0 then (if a1_0 < 0 then (some (-1)) else (if a1_0 ≥ a0_0 then (some (-1)) else (if a1_1 < 0 then (some (-1)) else (if a1_1 ≥ a0_1 then (some (-1)) else (some (wrap64 ((wrap64 (a1_0 * a0_1)) + a1_1))))))) else (some (-1))) = some r := H
  have A3 := Aside0.mk A30
  clear A30
  by_cases c4 : t115 = 0
  · rw [if_pos c4] at H
    have c4b0 : (t115 == 0) = true := beq_iff_eq.mpr c4
    have c4b1 : (t115 != 0) = false := bne_eq_false_iff_eq.mpr c4
    clear c4
    by_cases c5 : a1_0 < 0
    · rw [if_pos c5] at H
      have c5b0 : decide (a1_0 < 0) = true := decide_eq_true c5
      clear c5
      obtain rfl := Option.some.inj H
      go_enter Try.func69, Try.ntmps69
      go_wp2_with (first | ((with_reducible refine gate_dst (N := 2) rfl ?_); refine box_event ?hg (N := 2) ?hd (cs := #[.int .i64 a0_0, .int .i64 a0_1, .int .i64 a0_2]) (t := 23) ?hr ?_; (case hd => rfl); (case hg => rfl); (case hr => first | (go_simp; done) | (go_simp; rfl)); intro gb113 hg w6 hbox hb; have n0_ := Aside0.mk (below_step (by repeat (first | (with_reducible first | exact HB.out | apply below_alloc | apply pw_below_drewN | apply below_drew1) | exact HB.out)) hb); have n1_ := Aside0.mk (hbox); have n2_ := Aside0.mk ((by rw [hg]; exact (below_size (by repeat (first | (with_reducible first | exact HB.out | apply below_alloc | apply pw_below_drewN | apply below_drew1) | exact HB.out))) : w.heap.size ≤ gb113)); have n3_ := Aside0.mk ((by rw [hg]; exact (below_size (by repeat (first | (with_reducible first | exact HB.out | apply below_alloc | apply pw_below_drewN | apply below_drew1) | exact HB.out))) : w.heap.size ≤ gb113)); clear HB; have HB := n0_; have BK113 := n1_; have GW113 := n2_; have GE113 := n3_; clear n0_ n1_ n2_ n3_; clear hb hbox hg) | ((with_reducible refine gate_dst (N := 3) rfl ?_); refine box_event ?hg (N := 3) ?hd (cs := #[.int .i64 a1_0, .int .i64 a1_1]) (t := 37) ?hr ?_; (case hd => rfl); (case hg => rfl); (case hr => first | (go_simp; done) | (go_simp; rfl)); intro gb114 hg w7 hbox hb; have n0_ := Aside0.mk (blk_below (g := gb113) (o := .cells #[.int .i64 a0_0, .int .i64 a0_1, .int .i64 a0_2] 23 (0, 0)) (by (with_reducible repeat (first | refine blk_drewN ?_ _ | refine blk_drew ?_ | refine blk_alloc ?_ _)); exact BK113.out) hb); have n1_ := Aside0.mk (below_step (by repeat (first | (with_reducible first | exact HB.out | apply below_alloc | apply pw_below_drewN | apply below_drew1 | refine below_set ?_ GE113.out) | exact HB.out)) hb); have n2_ := Aside0.mk (hbox); have n3_ := Aside0.mk ((by rw [hg]; exact (below_size (by repeat (first | (with_reducible first | exact HB.out | apply below_alloc | apply pw_below_drewN | apply below_drew1 | refine below_set ?_ GE113.out) | exact HB.out))) : w.heap.size ≤ gb114)); have n4_ := Aside0.mk ((by rw [hg]; exact (below_size (by repeat (first | (with_reducible first | exact HB.out | apply below_alloc | apply pw_below_drewN | apply below_drew1 | refine below_set ?_ GE113.out) | exact HB.out))) : w.heap.size ≤ gb114)); have n5_ := Aside0.mk ((by rw [hg]; exact Nat.ne_of_lt (blk_lt (g := gb113) (o := .cells #[.int .i64 a0_0, .int .i64 a0_1, .int .i64 a0_2] 23 (0, 0)) (by (with_reducible repeat (first | refine blk_drewN ?_ _ | refine blk_drew ?_ | refine blk_alloc ?_ _)); exact BK113.out)) : gb113 ≠ gb114)); have n6_ := Aside0.mk ((by rw [hg]; exact Nat.ne_of_gt (blk_lt (g := gb113) (o := .cells #[.int .i64 a0_0, .int .i64 a0_1, .int .i64 a0_2] 23 (0, 0)) (by (with_reducible repeat (first | refine blk_drewN ?_ _ | refine blk_drew ?_ | refine blk_alloc ?_ _)); exact BK113.out)) : gb114 ≠ gb113)); clear BK113; clear HB; have BK113 := n0_; have HB := n1_; have BK114 := n2_; have GW114 := n3_; have GE114 := n4_; have NB113_114 := n5_; have NB114_113 := n6_; clear n0_ n1_ n2_ n3_ n4_ n5_ n6_; clear hb hbox hg; have hnb8 := NB113_114.out; have hnc8 := NB114_113.out; have hcz9_0 : w7.cell? ⟨gb113, 0, none⟩ = some (.int .i64 a0_0) := (blk_cell BK113.out 0).trans rfl; have hcz9_1 : w7.cell? ⟨gb113, 1, none⟩ = some (.int .i64 a0_1) := (blk_cell BK113.out 1).trans rfl; have hcz9_2 : w7.cell? ⟨gb113, 2, none⟩ = some (.int .i64 a0_2) := (blk_cell BK113.out 2).trans rfl; have hfz9_0 := blk_frozen BK113.out 0; have hfz9_1 := blk_frozen BK113.out 1; have hfz9_2 := blk_frozen BK113.out 2) | ((with_reducible refine gate_callee (f := 60) rfl ?_); refine goesL_ (some 6) rfl rfl Try.func60 (by kernel_rfl) rfl #[.agg #[.int .i64 a0_0, .int .i64 a0_1, .int .i64 a0_2]] rfl (by (try simp only [List.map_toArray, List.map_cons, List.map_nil]); first | done | rfl | (simp only [List.length_drop, List.length_take]; rfl)) ?_; (with_reducible refine (geom_Check.calls a0_0 a0_1 a0_2 t115 _ A3.out).mono ?_); rintro e w10 ⟨rfl, hb⟩; refine ⟨_, rfl, ?_⟩; have n0_ := Aside0.mk (blk_below (g := gb113) (o := .cells #[.int .i64 a0_0, .int .i64 a0_1, .int .i64 a0_2] 23 (0, 0)) (by (with_reducible repeat (first | refine blk_drewN ?_ _ | refine blk_drew ?_ | refine blk_alloc ?_ _)); exact BK113.out) hb); have n1_ := Aside0.mk (blk_below (g := gb114) (o := .cells #[.int .i64 a1_0, .int .i64 a1_1] 37 (0, 0)) (by (with_reducible repeat (first | refine blk_drewN ?_ _ | refine blk_drew ?_ | refine blk_alloc ?_ _)); exact BK114.out) hb); have n2_ := Aside0.mk (below_step (by repeat (first | (with_reducible first | exact HB.out | apply below_alloc | apply pw_below_drewN | apply below_drew1 | refine below_set ?_ GE113.out | refine below_set ?_ GE114.out) | exact HB.out)) hb); clear BK113; clear BK114; clear HB; have BK113 := n0_; have BK114 := n1_; have HB := n2_; clear n0_ n1_ n2_; (try clear hb); (try clear hb2); (try clear hk); (try clear hi); have hcz11_0 : w10.cell? ⟨gb114, 0, none⟩ = some (.int .i64 a1_0) := (blk_cell BK114.out 0).trans rfl; have hcz11_1 : w10.cell? ⟨gb114, 1, none⟩ = some (.int .i64 a1_1) := (blk_cell BK114.out 1).trans rfl; have hfz11_0 := blk_frozen BK114.out 0; have hfz11_1 := blk_frozen BK114.out 1))
      go_ret
      exact ⟨by first | rfl | (simp [errW_none, errW_some] <;> rfl) | (simp [*, errW_none, errW_some] <;> rfl), by repeat (first | (with_reducible first | exact HB.out | apply below_alloc | apply pw_below_drewN | apply below_drew1 | refine below_set ?_ GE113.out | refine below_set ?_ GE114.out) | exact HB.out)⟩
    · rw [if_neg c5] at H
      have c5b0 : decide (a1_0 < 0) = false := decide_eq_false c5
      clear c5
      by_cases c12 : a1_0 ≥ a0_0
      · rw [if_pos c12] at H
        have c12b0 : decide (a0_0 ≤ a1_0) = true := decide_eq_true c12
        clear c12
        obtain rfl := Option.some.inj H
        go_enter Try.func69, Try.ntmps69
        go_wp2_with (first | ((with_reducible refine gate_dst (N := 2) rfl ?_); refine box_event ?hg (N := 2) ?hd (cs := #[.int .i64 a0_0, .int .i64 a0_1, .int .i64 a0_2]) (t := 23) ?hr ?_; (case hd => rfl); (case hg => rfl); (case hr => first | (go_simp; done) | (go_simp; rfl)); intro gb113 hg w13 hbox hb; have n0_ := Aside0.mk (below_step (by repeat (first | (with_reducible first | exact HB.out | apply below_alloc | apply pw_below_drewN | apply below_drew1) | exact HB.out)) hb); have n1_ := Aside0.mk (hbox); have n2_ := Aside0.mk ((by rw [hg]; exact (below_size (by repeat (first | (with_reducible first | exact HB.out | apply below_alloc | apply pw_below_drewN | apply below_drew1) | exact HB.out))) : w.heap.size ≤ gb113)); have n3_ := Aside0.mk ((by rw [hg]; exact (below_size (by repeat (first | (with_reducible first | exact HB.out | apply below_alloc | apply pw_below_drewN | apply below_drew1) | exact HB.out))) : w.heap.size ≤ gb113)); clear HB; have HB := n0_; have BK113 := n1_; have GW113 := n2_; have GE113 := n3_; clear n0_ n1_ n2_ n3_; clear hb hbox hg) | ((with_reducible refine gate_dst (N := 3) rfl ?_); refine box_event ?hg (N := 3) ?hd (cs := #[.int .i64 a1_0, .int .i64 a1_1]) (t := 37) ?hr ?_; (case hd => rfl); (case hg => rfl); (case hr => first | (go_simp; done) | (go_simp; rfl)); intro gb114 hg w14 hbox hb; have n0_ := Aside0.mk (blk_below (g := gb113) (o := .cells #[.int .i64 a0_0, .int .i64 a0_1, .int .i64 a0_2] 23 (0, 0)) (by (with_reducible repeat (first | refine blk_drewN ?_ _ | refine blk_drew ?_ | refine blk_alloc ?_ _)); exact BK113.out) hb); have n1_ := Aside0.mk (below_step (by repeat (first | (with_reducible first | exact HB.out | apply below_alloc | apply pw_below_drewN | apply below_drew1 | refine below_set ?_ GE113.out) | exact HB.out)) hb); have n2_ := Aside0.mk (hbox); have n3_ := Aside0.mk ((by rw [hg]; exact (below_size (by repeat (first | (with_reducible first | exact HB.out | apply below_alloc | apply pw_below_drewN | apply below_drew1 | refine below_set ?_ GE113.out) | exact HB.out))) : w.heap.size ≤ gb114)); have n4_ := Aside0.mk ((by rw [hg]; exact (below_size (by repeat (first | (with_reducible first | exact HB.out | apply below_alloc | apply pw_below_drewN | apply below_drew1 | refine below_set ?_ GE113.out) | exact HB.out))) : w.heap.size ≤ gb114)); have n5_ := Aside0.mk ((by rw [hg]; exact Nat.ne_of_lt (blk_lt (g := gb113) (o := .cells #[.int .i64 a0_0, .int .i64 a0_1, .int .i64 a0_2] 23 (0, 0)) (by (with_reducible repeat (first | refine blk_drewN ?_ _ | refine blk_drew ?_ | refine blk_alloc ?_ _)); exact BK113.out)) : gb113 ≠ gb114)); have n6_ := Aside0.mk ((by rw [hg]; exact Nat.ne_of_gt (blk_lt (g := gb113) (o := .cells #[.int .i64 a0_0, .int .i64 a0_1, .int .i64 a0_2] 23 (0, 0)) (by (with_reducible repeat (first | refine blk_drewN ?_ _ | refine blk_drew ?_ | refine blk_alloc ?_ _)); exact BK113.out)) : gb114 ≠ gb113)); clear BK113; clear HB; have BK113 := n0_; have HB := n1_; have BK114 := n2_; have GW114 := n3_; have GE114 := n4_; have NB113_114 := n5_; have NB114_113 := n6_; clear n0_ n1_ n2_ n3_ n4_ n5_ n6_; clear hb hbox hg; have hnb15 := NB113_114.out; have hnc15 := NB114_113.out; have hcz16_0 : w14.cell? ⟨gb113, 0, none⟩ = some (.int .i64 a0_0) := (blk_cell BK113.out 0).trans rfl; have hcz16_1 : w14.cell? ⟨gb113, 1, none⟩ = some (.int .i64 a0_1) := (blk_cell BK113.out 1).trans rfl; have hcz16_2 : w14.cell? ⟨gb113, 2, none⟩ = some (.int .i64 a0_2) := (blk_cell BK113.out 2).trans rfl; have hfz16_0 := blk_frozen BK113.out 0; have hfz16_1 := blk_frozen BK113.out 1; have hfz16_2 := blk_frozen BK113.out 2) | ((with_reducible refine gate_callee (f := 60) rfl ?_); refine goesL_ (some 6) rfl rfl Try.func60 (by kernel_rfl) rfl #[.agg #[.int .i64 a0_0, .int .i64 a0_1, .int .i64 a0_2]] rfl (by (try simp only [List.map_toArray, List.map_cons, List.map_nil]); first | done | rfl | (simp only [List.length_drop, List.length_take]; rfl)) ?_; (with_reducible refine (geom_Check.calls a0_0 a0_1 a0_2 t115 _ A3.out).mono ?_); rintro e w17 ⟨rfl, hb⟩; refine ⟨_, rfl, ?_⟩; have n0_ := Aside0.mk (blk_below (g := gb113) (o := .cells #[.int .i64 a0_0, .int .i64 a0_1, .int .i64 a0_2] 23 (0, 0)) (by (with_reducible repeat (first | refine blk_drewN ?_ _ | refine blk_drew ?_ | refine blk_alloc ?_ _)); exact BK113.out) hb); have n1_ := Aside0.mk (blk_below (g := gb114) (o := .cells #[.int .i64 a1_0, .int .i64 a1_1] 37 (0, 0)) (by (with_reducible repeat (first | refine blk_drewN ?_ _ | refine blk_drew ?_ | refine blk_alloc ?_ _)); exact BK114.out) hb); have n2_ := Aside0.mk (below_step (by repeat (first | (with_reducible first | exact HB.out | apply below_alloc | apply pw_below_drewN | apply below_drew1 | refine below_set ?_ GE113.out | refine below_set ?_ GE114.out) | exact HB.out)) hb); clear BK113; clear BK114; clear HB; have BK113 := n0_; have BK114 := n1_; have HB := n2_; clear n0_ n1_ n2_; (try clear hb); (try clear hb2); (try clear hk); (try clear hi); have hcz18_0 : w17.cell? ⟨gb114, 0, none⟩ = some (.int .i64 a1_0) := (blk_cell BK114.out 0).trans rfl; have hcz18_1 : w17.cell? ⟨gb114, 1, none⟩ = some (.int .i64 a1_1) := (blk_cell BK114.out 1).trans rfl; have hfz18_0 := blk_frozen BK114.out 0; have hfz18_1 := blk_frozen BK114.out 1; have hcz19_0 : w17.cell? ⟨gb113, 0, none⟩ = some (.int .i64 a0_0) := (blk_cell BK113.out 0).trans rfl; have hcz19_1 : w17.cell? ⟨gb113, 1, none⟩ = some (.int .i64 a0_1) := (blk_cell BK113.out 1).trans rfl; have hcz19_2 : w17.cell? ⟨gb113, 2, none⟩ = some (.int .i64 a0_2) := (blk_cell BK113.out 2).trans rfl; have hfz19_0 := blk_frozen BK113.out 0; have hfz19_1 := blk_frozen BK113.out 1; have hfz19_2 := blk_frozen BK113.out 2))
        go_ret
        exact ⟨by first | rfl | (simp [errW_none, errW_some] <;> rfl) | (simp [*, errW_none, errW_some] <;> rfl), by repeat (first | (with_reducible first | exact HB.out | apply below_alloc | apply pw_below_drewN | apply below_drew1 | refine below_set ?_ GE113.out | refine below_set ?_ GE114.out) | exact HB.out)⟩
      · rw [if_neg c12] at H
        have c12b0 : decide (a0_0 ≤ a1_0) = false := decide_eq_false c12
        clear c12
        by_cases c20 : a1_1 < 0
        · rw [if_pos c20] at H
          have c20b0 : decide (a1_1 < 0) = true := decide_eq_true c20
          clear c20
          obtain rfl := Option.some.inj H
          go_enter Try.func69, Try.ntmps69
          go_wp2_with (first | ((with_reducible refine gate_dst (N := 2) rfl ?_); refine box_event ?hg (N := 2) ?hd (cs := #[.int .i64 a0_0, .int .i64 a0_1, .int .i64 a0_2]) (t := 23) ?hr ?_; (case hd => rfl); (case hg => rfl); (case hr => first | (go_simp; done) | (go_simp; rfl)); intro gb113 hg w21 hbox hb; have n0_ := Aside0.mk (below_step (by repeat (first | (with_reducible first | exact HB.out | apply below_alloc | apply pw_below_drewN | apply below_drew1) | exact HB.out)) hb); have n1_ := Aside0.mk (hbox); have n2_ := Aside0.mk ((by rw [hg]; exact (below_size (by repeat (first | (with_reducible first | exact HB.out | apply below_alloc | apply pw_below_drewN | apply below_drew1) | exact HB.out))) : w.heap.size ≤ gb113)); have n3_ := Aside0.mk ((by rw [hg]; exact (below_size (by repeat (first | (with_reducible first | exact HB.out | apply below_alloc | apply pw_below_drewN | apply below_drew1) | exact HB.out))) : w.heap.size ≤ gb113)); clear HB; have HB := n0_; have BK113 := n1_; have GW113 := n2_; have GE113 := n3_; clear n0_ n1_ n2_ n3_; clear hb hbox hg) | ((with_reducible refine gate_dst (N := 3) rfl ?_); refine box_event ?hg (N := 3) ?hd (cs := #[.int .i64 a1_0, .int .i64 a1_1]) (t := 37) ?hr ?_; (case hd => rfl); (case hg => rfl); (case hr => first | (go_simp; done) | (go_simp; rfl)); intro gb114 hg w22 hbox hb; have n0_ := Aside0.mk (blk_below (g := gb113) (o := .cells #[.int .i64 a0_0, .int .i64 a0_1, .int .i64 a0_2] 23 (0, 0)) (by (with_reducible repeat (first | refine blk_drewN ?_ _ | refine blk_drew ?_ | refine blk_alloc ?_ _)); exact BK113.out) hb); have n1_ := Aside0.mk (below_step (by repeat (first | (with_reducible first | exact HB.out | apply below_alloc | apply pw_below_drewN | apply below_drew1 | refine below_set ?_ GE113.out) | exact HB.out)) hb); have n2_ := Aside0.mk (hbox); have n3_ := Aside0.mk ((by rw [hg]; exact (below_size (by repeat (first | (with_reducible first | exact HB.out | apply below_alloc | apply pw_below_drewN | apply below_drew1 | refine below_set ?_ GE113.out) | exact HB.out))) : w.heap.size ≤ gb114)); have n4_ := Aside0.mk ((by rw [hg]; exact (below_size (by repeat (first | (with_reducible first | exact HB.out | apply below_alloc | apply pw_below_drewN | apply below_drew1 | refine below_set ?_ GE113.out) | exact HB.out))) : w.heap.size ≤ gb114)); have n5_ := Aside0.mk ((by rw [hg]; exact Nat.ne_of_lt (blk_lt (g := gb113) (o := .cells #[.int .i64 a0_0, .int .i64 a0_1, .int .i64 a0_2] 23 (0, 0)) (by (with_reducible repeat (first | refine blk_drewN ?_ _ | refine blk_drew ?_ | refine blk_alloc ?_ _)); exact BK113.out)) : gb113 ≠ gb114)); have n6_ := Aside0.mk ((by rw [hg]; exact Nat.ne_of_gt (blk_lt (g := gb113) (o := .cells #[.int .i64 a0_0, .int .i64 a0_1, .int .i64 a0_2] 23 (0, 0)) (by (with_reducible repeat (first | refine blk_drewN ?_ _ | refine blk_drew ?_ | refine blk_alloc ?_ _)); exact BK113.out)) : gb114 ≠ gb113)); clear BK113; clear HB; have BK113 := n0_; have HB := n1_; have BK114 := n2_; have GW114 := n3_; have GE114 := n4_; have NB113_114 := n5_; have NB114_113 := n6_; clear n0_ n1_ n2_ n3_ n4_ n5_ n6_; clear hb hbox hg; have hnb23 := NB113_114.out; have hnc23 := NB114_113.out; have hcz24_0 : w22.cell? ⟨gb113, 0, none⟩ = some (.int .i64 a0_0) := (blk_cell BK113.out 0).trans rfl; have hcz24_1 : w22.cell? ⟨gb113, 1, none⟩ = some (.int .i64 a0_1) := (blk_cell BK113.out 1).trans rfl; have hcz24_2 : w22.cell? ⟨gb113, 2, none⟩ = some (.int .i64 a0_2) := (blk_cell BK113.out 2).trans rfl; have hfz24_0 := blk_frozen BK113.out 0; have hfz24_1 := blk_frozen BK113.out 1; have hfz24_2 := blk_frozen BK113.out 2) | ((with_reducible refine gate_callee (f := 60) rfl ?_); refine goesL_ (some 6) rfl rfl Try.func60 (by kernel_rfl) rfl #[.agg #[.int .i64 a0_0, .int .i64 a0_1, .int .i64 a0_2]] rfl (by (try simp only [List.map_toArray, List.map_cons, List.map_nil]); first | done | rfl | (simp only [List.length_drop, List.length_take]; rfl)) ?_; (with_reducible refine (geom_Check.calls a0_0 a0_1 a0_2 t115 _ A3.out).mono ?_); rintro e w25 ⟨rfl, hb⟩; refine ⟨_, rfl, ?_⟩; have n0_ := Aside0.mk (blk_below (g := gb113) (o := .cells #[.int .i64 a0_0, .int .i64 a0_1, .int .i64 a0_2] 23 (0, 0)) (by (with_reducible repeat (first | refine blk_drewN ?_ _ | refine blk_drew ?_ | refine blk_alloc ?_ _)); exact BK113.out) hb); have n1_ := Aside0.mk (blk_below (g := gb114) (o := .cells #[.int .i64 a1_0, .int .i64 a1_1] 37 (0, 0)) (by (with_reducible repeat (first | refine blk_drewN ?_ _ | refine blk_drew ?_ | refine blk_alloc ?_ _)); exact BK114.out) hb); have n2_ := Aside0.mk (below_step (by repeat (first | (with_reducible first | exact HB.out | apply below_alloc | apply pw_below_drewN | apply below_drew1 | refine below_set ?_ GE113.out | refine below_set ?_ GE114.out) | exact HB.out)) hb); clear BK113; clear BK114; clear HB; have BK113 := n0_; have BK114 := n1_; have HB := n2_; clear n0_ n1_ n2_; (try clear hb); (try clear hb2); (try clear hk); (try clear hi); have hcz26_0 : w25.cell? ⟨gb114, 0, none⟩ = some (.int .i64 a1_0) := (blk_cell BK114.out 0).trans rfl; have hcz26_1 : w25.cell? ⟨gb114, 1, none⟩ = some (.int .i64 a1_1) := (blk_cell BK114.out 1).trans rfl; have hfz26_0 := blk_frozen BK114.out 0; have hfz26_1 := blk_frozen BK114.out 1; have hcz27_0 : w25.cell? ⟨gb113, 0, none⟩ = some (.int .i64 a0_0) := (blk_cell BK113.out 0).trans rfl; have hcz27_1 : w25.cell? ⟨gb113, 1, none⟩ = some (.int .i64 a0_1) := (blk_cell BK113.out 1).trans rfl; have hcz27_2 : w25.cell? ⟨gb113, 2, none⟩ = some (.int .i64 a0_2) := (blk_cell BK113.out 2).trans rfl; have hfz27_0 := blk_frozen BK113.out 0; have hfz27_1 := blk_frozen BK113.out 1; have hfz27_2 := blk_frozen BK113.out 2))
          go_ret
          exact ⟨by first | rfl | (simp [errW_none, errW_some] <;> rfl) | (simp [*, errW_none, errW_some] <;> rfl), by repeat (first | (with_reducible first | exact HB.out | apply below_alloc | apply pw_below_drewN | apply below_drew1 | refine below_set ?_ GE113.out | refine below_set ?_ GE114.out) | exact HB.out)⟩
        · rw [if_neg c20] at H
          have c20b0 : decide (a1_1 < 0) = false := decide_eq_false c20
          clear c20
          by_cases c28 : a1_1 ≥ a0_1
          · rw [if_pos c28] at H
            have c28b0 : decide (a0_1 ≤ a1_1) = true := decide_eq_true c28
            clear c28
            obtain rfl := Option.some.inj H
            go_enter Try.func69, Try.ntmps69
            go_wp2_with (first | ((with_reducible refine gate_dst (N := 2) rfl ?_); refine box_event ?hg (N := 2) ?hd (cs := #[.int .i64 a0_0, .int .i64 a0_1, .int .i64 a0_2]) (t := 23) ?hr ?_; (case hd => rfl); (case hg => rfl); (case hr => first | (go_simp; done) | (go_simp; rfl)); intro gb113 hg w29 hbox hb; have n0_ := Aside0.mk (below_step (by repeat (first | (with_reducible first | exact HB.out | apply below_alloc | apply pw_below_drewN | apply below_drew1) | exact HB.out)) hb); have n1_ := Aside0.mk (hbox); have n2_ := Aside0.mk ((by rw [hg]; exact (below_size (by repeat (first | (with_reducible first | exact HB.out | apply below_alloc | apply pw_below_drewN | apply below_drew1) | exact HB.out))) : w.heap.size ≤ gb113)); have n3_ := Aside0.mk ((by rw [hg]; exact (below_size (by repeat (first | (with_reducible first | exact HB.out | apply below_alloc | apply pw_below_drewN | apply below_drew1) | exact HB.out))) : w.heap.size ≤ gb113)); clear HB; have HB := n0_; have BK113 := n1_; have GW113 := n2_; have GE113 := n3_; clear n0_ n1_ n2_ n3_; clear hb hbox hg) | ((with_reducible refine gate_dst (N := 3) rfl ?_); refine box_event ?hg (N := 3) ?hd (cs := #[.int .i64 a1_0, .int .i64 a1_1]) (t := 37) ?hr ?_; (case hd => rfl); (case hg => rfl); (case hr => first | (go_simp; done) | (go_simp; rfl)); intro gb114 hg w30 hbox hb; have n0_ := Aside0.mk (blk_below (g := gb113) (o := .cells #[.int .i64 a0_0, .int .i64 a0_1, .int .i64 a0_2] 23 (0, 0)) (by (with_reducible repeat (first | refine blk_drewN ?_ _ | refine blk_drew ?_ | refine blk_alloc ?_ _)); exact BK113.out) hb); have n1_ := Aside0.mk (below_step (by repeat (first | (with_reducible first | exact HB.out | apply below_alloc | apply pw_below_drewN | apply below_drew1 | refine below_set ?_ GE113.out) | exact HB.out)) hb); have n2_ := Aside0.mk (hbox); have n3_ := Aside0.mk ((by rw [hg]; exact (below_size (by repeat (first | (with_reducible first | exact HB.out | apply below_alloc | apply pw_below_drewN | apply below_drew1 | refine below_set ?_ GE113.out) | exact HB.out))) : w.heap.size ≤ gb114)); have n4_ := Aside0.mk ((by rw [hg]; exact (below_size (by repeat (first | (with_reducible first | exact HB.out | apply below_alloc | apply pw_below_drewN | apply below_drew1 | refine below_set ?_ GE113.out) | exact HB.out))) : w.heap.size ≤ gb114)); have n5_ := Aside0.mk ((by rw [hg]; exact Nat.ne_of_lt (blk_lt (g := gb113) (o := .cells #[.int .i64 a0_0, .int .i64 a0_1, .int .i64 a0_2] 23 (0, 0)) (by (with_reducible repeat (first | refine blk_drewN ?_ _ | refine blk_drew ?_ | refine blk_alloc ?_ _)); exact BK113.out)) : gb113 ≠ gb114)); have n6_ := Aside0.mk ((by rw [hg]; exact Nat.ne_of_gt (blk_lt (g := gb113) (o := .cells #[.int .i64 a0_0, .int .i64 a0_1, .int .i64 a0_2] 23 (0, 0)) (by (with_reducible repeat (first | refine blk_drewN ?_ _ | refine blk_drew ?_ | refine blk_alloc ?_ _)); exact BK113.out)) : gb114 ≠ gb113)); clear BK113; clear HB; have BK113 := n0_; have HB := n1_; have BK114 := n2_; have GW114 := n3_; have GE114 := n4_; have NB113_114 := n5_; have NB114_113 := n6_; clear n0_ n1_ n2_ n3_ n4_ n5_ n6_; clear hb hbox hg; have hnb31 := NB113_114.out; have hnc31 := NB114_113.out; have hcz32_0 : w30.cell? ⟨gb113, 0, none⟩ = some (.int .i64 a0_0) := (blk_cell BK113.out 0).trans rfl; have hcz32_1 : w30.cell? ⟨gb113, 1, none⟩ = some (.int .i64 a0_1) := (blk_cell BK113.out 1).trans rfl; have hcz32_2 : w30.cell? ⟨gb113, 2, none⟩ = some (.int .i64 a0_2) := (blk_cell BK113.out 2).trans rfl; have hfz32_0 := blk_frozen BK113.out 0; have hfz32_1 := blk_frozen BK113.out 1; have hfz32_2 := blk_frozen BK113.out 2) | ((with_reducible refine gate_callee (f := 60) rfl ?_); refine goesL_ (some 6) rfl rfl Try.func60 (by kernel_rfl) rfl #[.agg #[.int .i64 a0_0, .int .i64 a0_1, .int .i64 a0_2]] rfl (by (try simp only [List.map_toArray, List.map_cons, List.map_nil]); first | done | rfl | (simp only [List.length_drop, List.length_take]; rfl)) ?_; (with_reducible refine (geom_Check.calls a0_0 a0_1 a0_2 t115 _ A3.out).mono ?_); rintro e w33 ⟨rfl, hb⟩; refine ⟨_, rfl, ?_⟩; have n0_ := Aside0.mk (blk_below (g := gb113) (o := .cells #[.int .i64 a0_0, .int .i64 a0_1, .int .i64 a0_2] 23 (0, 0)) (by (with_reducible repeat (first | refine blk_drewN ?_ _ | refine blk_drew ?_ | refine blk_alloc ?_ _)); exact BK113.out) hb); have n1_ := Aside0.mk (blk_below (g := gb114) (o := .cells #[.int .i64 a1_0, .int .i64 a1_1] 37 (0, 0)) (by (with_reducible repeat (first | refine blk_drewN ?_ _ | refine blk_drew ?_ | refine blk_alloc ?_ _)); exact BK114.out) hb); have n2_ := Aside0.mk (below_step (by repeat (first | (with_reducible first | exact HB.out | apply below_alloc | apply pw_below_drewN | apply below_drew1 | refine below_set ?_ GE113.out | refine below_set ?_ GE114.out) | exact HB.out)) hb); clear BK113; clear BK114; clear HB; have BK113 := n0_; have BK114 := n1_; have HB := n2_; clear n0_ n1_ n2_; (try clear hb); (try clear hb2); (try clear hk); (try clear hi); have hcz34_0 : w33.cell? ⟨gb114, 0, none⟩ = some (.int .i64 a1_0) := (blk_cell BK114.out 0).trans rfl; have hcz34_1 : w33.cell? ⟨gb114, 1, none⟩ = some (.int .i64 a1_1) := (blk_cell BK114.out 1).trans rfl; have hfz34_0 := blk_frozen BK114.out 0; have hfz34_1 := blk_frozen BK114.out 1; have hcz35_0 : w33.cell? ⟨gb113, 0, none⟩ = some (.int .i64 a0_0) := (blk_cell BK113.out 0).trans rfl; have hcz35_1 : w33.cell? ⟨gb113, 1, none⟩ = some (.int .i64 a0_1) := (blk_cell BK113.out 1).trans rfl; have hcz35_2 : w33.cell? ⟨gb113, 2, none⟩ = some (.int .i64 a0_2) := (blk_cell BK113.out 2).trans rfl; have hfz35_0 := blk_frozen BK113.out 0; have hfz35_1 := blk_frozen BK113.out 1; have hfz35_2 := blk_frozen BK113.out 2))
            go_ret
            exact ⟨by first | rfl | (simp [errW_none, errW_some] <;> rfl) | (simp [*, errW_none, errW_some] <;> rfl), by repeat (first | (with_reducible first | exact HB.out | apply below_alloc | apply pw_below_drewN | apply below_drew1 | refine below_set ?_ GE113.out | refine below_set ?_ GE114.out) | exact HB.out)⟩
          · rw [if_neg c28] at H
            have c28b0 : decide (a0_1 ≤ a1_1) = false := decide_eq_false c28
            clear c28
            obtain rfl := Option.some.inj H
            go_enter Try.func69, Try.ntmps69
            go_wp2_with (first | ((with_reducible refine gate_dst (N := 2) rfl ?_); refine box_event ?hg (N := 2) ?hd (cs := #[.int .i64 a0_0, .int .i64 a0_1, .int .i64 a0_2]) (t := 23) ?hr ?_; (case hd => rfl); (case hg => rfl); (case hr => first | (go_simp; done) | (go_simp; rfl)); intro gb113 hg w36 hbox hb; have n0_ := Aside0.mk (below_step (by repeat (first | (with_reducible first | exact HB.out | apply below_alloc | apply pw_below_drewN | apply below_drew1) | exact HB.out)) hb); have n1_ := Aside0.mk (hbox); have n2_ := Aside0.mk ((by rw [hg]; exact (below_size (by repeat (first | (with_reducible first | exact HB.out | apply below_alloc | apply pw_below_drewN | apply below_drew1) | exact HB.out))) : w.heap.size ≤ gb113)); have n3_ := Aside0.mk ((by rw [hg]; exact (below_size (by repeat (first | (with_reducible first | exact HB.out | apply below_alloc | apply pw_below_drewN | apply below_drew1) | exact HB.out))) : w.heap.size ≤ gb113)); clear HB; have HB := n0_; have BK113 := n1_; have GW113 := n2_; have GE113 := n3_; clear n0_ n1_ n2_ n3_; clear hb hbox hg) | ((with_reducible refine gate_dst (N := 3) rfl ?_); refine box_event ?hg (N := 3) ?hd (cs := #[.int .i64 a1_0, .int .i64 a1_1]) (t := 37) ?hr ?_; (case hd => rfl); (case hg => rfl); (case hr => first | (go_simp; done) | (go_simp; rfl)); intro gb114 hg w37 hbox hb; have n0_ := Aside0.mk (blk_below (g := gb113) (o := .cells #[.int .i64 a0_0, .int .i64 a0_1, .int .i64 a0_2] 23 (0, 0)) (by (with_reducible repeat (first | refine blk_drewN ?_ _ | refine blk_drew ?_ | refine blk_alloc ?_ _)); exact BK113.out) hb); have n1_ := Aside0.mk (below_step (by repeat (first | (with_reducible first | exact HB.out | apply below_alloc | apply pw_below_drewN | apply below_drew1 | refine below_set ?_ GE113.out) | exact HB.out)) hb); have n2_ := Aside0.mk (hbox); have n3_ := Aside0.mk ((by rw [hg]; exact (below_size (by repeat (first | (with_reducible first | exact HB.out | apply below_alloc | apply pw_below_drewN | apply below_drew1 | refine below_set ?_ GE113.out) | exact HB.out))) : w.heap.size ≤ gb114)); have n4_ := Aside0.mk ((by rw [hg]; exact (below_size (by repeat (first | (with_reducible first | exact HB.out | apply below_alloc | apply pw_below_drewN | apply below_drew1 | refine below_set ?_ GE113.out) | exact HB.out))) : w.heap.size ≤ gb114)); have n5_ := Aside0.mk ((by rw [hg]; exact Nat.ne_of_lt (blk_lt (g := gb113) (o := .cells #[.int .i64 a0_0, .int .i64 a0_1, .int .i64 a0_2] 23 (0, 0)) (by (with_reducible repeat (first | refine blk_drewN ?_ _ | refine blk_drew ?_ | refine blk_alloc ?_ _)); exact BK113.out)) : gb113 ≠ gb114)); have n6_ := Aside0.mk ((by rw [hg]; exact Nat.ne_of_gt (blk_lt (g := gb113) (o := .cells #[.int .i64 a0_0, .int .i64 a0_1, .int .i64 a0_2] 23 (0, 0)) (by (with_reducible repeat (first | refine blk_drewN ?_ _ | refine blk_drew ?_ | refine blk_alloc ?_ _)); exact BK113.out)) : gb114 ≠ gb113)); clear BK113; clear HB; have BK113 := n0_; have HB := n1_; have BK114 := n2_; have GW114 := n3_; have GE114 := n4_; have NB113_114 := n5_; have NB114_113 := n6_; clear n0_ n1_ n2_ n3_ n4_ n5_ n6_; clear hb hbox hg; have hnb38 := NB113_114.out; have hnc38 := NB114_113.out; have hcz39_0 : w37.cell? ⟨gb113, 0, none⟩ = some (.int .i64 a0_0) := (blk_cell BK113.out 0).trans rfl; have hcz39_1 : w37.cell? ⟨gb113, 1, none⟩ = some (.int .i64 a0_1) := (blk_cell BK113.out 1).trans rfl; have hcz39_2 : w37.cell? ⟨gb113, 2, none⟩ = some (.int .i64 a0_2) := (blk_cell BK113.out 2).trans rfl; have hfz39_0 := blk_frozen BK113.out 0; have hfz39_1 := blk_frozen BK113.out 1; have hfz39_2 := blk_frozen BK113.out 2) | ((with_reducible refine gate_callee (f := 60) rfl ?_); refine goesL_ (some 6) rfl rfl Try.func60 (by kernel_rfl) rfl #[.agg #[.int .i64 a0_0, .int .i64 a0_1, .int .i64 a0_2]] rfl (by (try simp only [List.map_toArray, List.map_cons, List.map_nil]); first | done | rfl | (simp only [List.length_drop, List.length_take]; rfl)) ?_; (with_reducible refine (geom_Check.calls a0_0 a0_1 a0_2 t115 _ A3.out).mono ?_); rintro e w40 ⟨rfl, hb⟩; refine ⟨_, rfl, ?_⟩; have n0_ := Aside0.mk (blk_below (g := gb113) (o := .cells #[.int .i64 a0_0, .int .i64 a0_1, .int .i64 a0_2] 23 (0, 0)) (by (with_reducible repeat (first | refine blk_drewN ?_ _ | refine blk_drew ?_ | refine blk_alloc ?_ _)); exact BK113.out) hb); have n1_ := Aside0.mk (blk_below (g := gb114) (o := .cells #[.int .i64 a1_0, .int .i64 a1_1] 37 (0, 0)) (by (with_reducible repeat (first | refine blk_drewN ?_ _ | refine blk_drew ?_ | refine blk_alloc ?_ _)); exact BK114.out) hb); have n2_ := Aside0.mk (below_step (by repeat (first | (with_reducible first | exact HB.out | apply below_alloc | apply pw_below_drewN | apply below_drew1 | refine below_set ?_ GE113.out | refine below_set ?_ GE114.out) | exact HB.out)) hb); clear BK113; clear BK114; clear HB; have BK113 := n0_; have BK114 := n1_; have HB := n2_; clear n0_ n1_ n2_; (try clear hb); (try clear hb2); (try clear hk); (try clear hi); have hcz41_0 : w40.cell? ⟨gb114, 0, none⟩ = some (.int .i64 a1_0) := (blk_cell BK114.out 0).trans rfl; have hcz41_1 : w40.cell? ⟨gb114, 1, none⟩ = some (.int .i64 a1_1) := (blk_cell BK114.out 1).trans rfl; have hfz41_0 := blk_frozen BK114.out 0; have hfz41_1 := blk_frozen BK114.out 1; have hcz42_0 : w40.cell? ⟨gb113, 0, none⟩ = some (.int .i64 a0_0) := (blk_cell BK113.out 0).trans rfl; have hcz42_1 : w40.cell? ⟨gb113, 1, none⟩ = some (.int .i64 a0_1) := (blk_cell BK113.out 1).trans rfl; have hcz42_2 : w40.cell? ⟨gb113, 2, none⟩ = some (.int .i64 a0_2) := (blk_cell BK113.out 2).trans rfl; have hfz42_0 := blk_frozen BK113.out 0; have hfz42_1 := blk_frozen BK113.out 1; have hfz42_2 := blk_frozen BK113.out 2))
            go_ret
            exact ⟨by first | rfl | (simp [errW_none, errW_some] <;> rfl) | (simp [*, errW_none, errW_some] <;> rfl), by repeat (first | (with_reducible first | exact HB.out | apply below_alloc | apply pw_below_drewN | apply below_drew1 | refine below_set ?_ GE113.out | refine below_set ?_ GE114.out) | exact HB.out)⟩
  · rw [if_neg c4] at H
    have c4b0 : (t115 == 0) = false := beq_eq_false_iff_ne.mpr c4
    have c4b1 : (t115 != 0) = true := bne_iff_ne.mpr c4
    obtain rfl := Option.some.inj H
    go_enter Try.func69, Try.ntmps69
    go_wp2_with (first | ((with_reducible refine gate_dst (N := 2) rfl ?_); refine box_event ?hg (N := 2) ?hd (cs := #[.int .i64 a0_0, .int .i64 a0_1, .int .i64 a0_2]) (t := 23) ?hr ?_; (case hd => rfl); (case hg => rfl); (case hr => first | (go_simp; done) | (go_simp; rfl)); intro gb113 hg w43 hbox hb; have n0_ := Aside0.mk (below_step (by repeat (first | (with_reducible first | exact HB.out | apply below_alloc | apply pw_below_drewN | apply below_drew1) | exact HB.out)) hb); have n1_ := Aside0.mk (hbox); have n2_ := Aside0.mk ((by rw [hg]; exact (below_size (by repeat (first | (with_reducible first | exact HB.out | apply below_alloc | apply pw_below_drewN | apply below_drew1) | exact HB.out))) : w.heap.size ≤ gb113)); have n3_ := Aside0.mk ((by rw [hg]; exact (below_size (by repeat (first | (with_reducible first | exact HB.out | apply below_alloc | apply pw_below_drewN | apply below_drew1) | exact HB.out))) : w.heap.size ≤ gb113)); clear HB; have HB := n0_; have BK113 := n1_; have GW113 := n2_; have GE113 := n3_; clear n0_ n1_ n2_ n3_; clear hb hbox hg) | ((with_reducible refine gate_dst (N := 3) rfl ?_); refine box_event ?hg (N := 3) ?hd (cs := #[.int .i64 a1_0, .int .i64 a1_1]) (t := 37) ?hr ?_; (case hd => rfl); (case hg => rfl); (case hr => first | (go_simp; done) | (go_simp; rfl)); intro gb114 hg w44 hbox hb; have n0_ := Aside0.mk (blk_below (g := gb113) (o := .cells #[.int .i64 a0_0, .int .i64 a0_1, .int .i64 a0_2] 23 (0, 0)) (by (with_reducible repeat (first | refine blk_drewN ?_ _ | refine blk_drew ?_ | refine blk_alloc ?_ _)); exact BK113.out) hb); have n1_ := Aside0.mk (below_step (by repeat (first | (with_reducible first | exact HB.out | apply below_alloc | apply pw_below_drewN | apply below_drew1 | refine below_set ?_ GE113.out) | exact HB.out)) hb); have n2_ := Aside0.mk (hbox); have n3_ := Aside0.mk ((by rw [hg]; exact (below_size (by repeat (first | (with_reducible first | exact HB.out | apply below_alloc | apply pw_below_drewN | apply below_drew1 | refine below_set ?_ GE113.out) | exact HB.out))) : w.heap.size ≤ gb114)); have n4_ := Aside0.mk ((by rw [hg]; exact (below_size (by repeat (first | (with_reducible first | exact HB.out | apply below_alloc | apply pw_below_drewN | apply below_drew1 | refine below_set ?_ GE113.out) | exact HB.out))) : w.heap.size ≤ gb114)); have n5_ := Aside0.mk ((by rw [hg]; exact Nat.ne_of_lt (blk_lt (g := gb113) (o := .cells #[.int .i64 a0_0, .int .i64 a0_1, .int .i64 a0_2] 23 (0, 0)) (by (with_reducible repeat (first | refine blk_drewN ?_ _ | refine blk_drew ?_ | refine blk_alloc ?_ _)); exact BK113.out)) : gb113 ≠ gb114)); have n6_ := Aside0.mk ((by rw [hg]; exact Nat.ne_of_gt (blk_lt (g := gb113) (o := .cells #[.int .i64 a0_0, .int .i64 a0_1, .int .i64 a0_2] 23 (0, 0)) (by (with_reducible repeat (first | refine blk_drewN ?_ _ | refine blk_drew ?_ | refine blk_alloc ?_ _)); exact BK113.out)) : gb114 ≠ gb113)); clear BK113; clear HB; have BK113 := n0_; have HB := n1_; have BK114 := n2_; have GW114 := n3_; have GE114 := n4_; have NB113_114 := n5_; have NB114_113 := n6_; clear n0_ n1_ n2_ n3_ n4_ n5_ n6_; clear hb hbox hg; have hnb45 := NB113_114.out; have hnc45 := NB114_113.out; have hcz46_0 : w44.cell? ⟨gb113, 0, none⟩ = some (.int .i64 a0_0) := (blk_cell BK113.out 0).trans rfl; have hcz46_1 : w44.cell? ⟨gb113, 1, none⟩ = some (.int .i64 a0_1) := (blk_cell BK113.out 1).trans rfl; have hcz46_2 : w44.cell? ⟨gb113, 2, none⟩ = some (.int .i64 a0_2) := (blk_cell BK113.out 2).trans rfl; have hfz46_0 := blk_frozen BK113.out 0; have hfz46_1 := blk_frozen BK113.out 1; have hfz46_2 := blk_frozen BK113.out 2) | ((with_reducible refine gate_callee (f := 60) rfl ?_); refine goesL_ (some 6) rfl rfl Try.func60 (by kernel_rfl) rfl #[.agg #[.int .i64 a0_0, .int .i64 a0_1, .int .i64 a0_2]] rfl (by (try simp only [List.map_toArray, List.map_cons, List.map_nil]); first | done | rfl | (simp only [List.length_drop, List.length_take]; rfl)) ?_; (with_reducible refine (geom_Check.calls a0_0 a0_1 a0_2 t115 _ A3.out).mono ?_); rintro e w47 ⟨rfl, hb⟩; refine ⟨_, rfl, ?_⟩; have n0_ := Aside0.mk (blk_below (g := gb113) (o := .cells #[.int .i64 a0_0, .int .i64 a0_1, .int .i64 a0_2] 23 (0, 0)) (by (with_reducible repeat (first | refine blk_drewN ?_ _ | refine blk_drew ?_ | refine blk_alloc ?_ _)); exact BK113.out) hb); have n1_ := Aside0.mk (blk_below (g := gb114) (o := .cells #[.int .i64 a1_0, .int .i64 a1_1] 37 (0, 0)) (by (with_reducible repeat (first | refine blk_drewN ?_ _ | refine blk_drew ?_ | refine blk_alloc ?_ _)); exact BK114.out) hb); have n2_ := Aside0.mk (below_step (by repeat (first | (with_reducible first | exact HB.out | apply below_alloc | apply pw_below_drewN | apply below_drew1 | refine below_set ?_ GE113.out | refine below_set ?_ GE114.out) | exact HB.out)) hb); clear BK113; clear BK114; clear HB; have BK113 := n0_; have BK114 := n1_; have HB := n2_; clear n0_ n1_ n2_; (try clear hb); (try clear hb2); (try clear hk); (try clear hi)))
    go_ret
    exact ⟨by first | rfl | (simp [errW_none, errW_some] <;> rfl) | (simp [*, errW_none, errW_some] <;> rfl), by repeat (first | (with_reducible first | exact HB.out | apply below_alloc | apply pw_below_drewN | apply below_drew1 | refine below_set ?_ GE113.out | refine below_set ?_ GE114.out) | exact HB.out)⟩
end Go.Proofs.Ytnchdmidaigheaa.Hp
namespace Go.Proofs.Ytnchdmidaigheaa.ND
set_option linter.unusedVariables false
set_option linter.unusedSimpArgs false
open Go.RowKit Go.Proofs.Ytnchdmidaigheaa.Hp Go.Proofs.YtnchdmidaigheaaW.PrintWords Go.Proofs.YtnchdmidaigheaaW.PrintLast Go.Proofs.YtnchdmidaigheaaW.PrintMore
def prog4.T4 : Bool × List (List Nat × List Nat) := (true, [([], []), ([0], [0]), ([1], [1]), ([2], [2]), ([], []), ([3, 4], [3, 4]), ([5, 5, 0, 1, 2, 3, 4, 5], [5])])
def prog4.B4 : List Nat := [0, 1, 3, 7, 0, 31, 63]
theorem prog4.tab4 : rtab .any (opsOf Try.f17 4) = prog4.T4 := by kernel_rfl
theorem prog4.bits4 : waitsOk prog4.T4.2 prog4.B4 = true := by kernel_rfl
def prog7.T7 : Bool × List (List Nat × List Nat) := (true, [([], []), ([0], [0]), ([1], [1]), ([2], [2]), ([], []), ([4], [4]), ([3, 5], [3, 5]), ([6], [6]), ([7], [7])])
def prog7.B7 : List Nat := [0, 1, 3, 7, 0, 16, 63, 127, 255]
def prog12.T12 : Bool × List (List Nat × List Nat) := (true, [([], []), ([0], [0]), ([1], [1]), ([2], [2]), ([], []), ([4], [4]), ([3, 5], [3, 5]), ([6], [6]), ([7], [7]), ([3, 5, 0, 1, 2, 3, 4, 5, 6, 7, 8], [3, 5]), ([9, 8, 0, 1, 2, 3, 4, 5, 6, 7, 8], [8, 9])])
def prog12.B12 : List Nat := [0, 1, 3, 7, 0, 16, 63, 127, 255, 511, 1023]
end Go.Proofs.Ytnchdmidaigheaa.ND
namespace Go.Proofs.Ytnchdmidaigheaa.ND
set_option linter.unusedVariables false
set_option linter.unusedSimpArgs false
open Go.RowKit Go.Proofs.Ytnchdmidaigheaa.Hp Go.Proofs.YtnchdmidaigheaaW.PrintWords Go.Proofs.YtnchdmidaigheaaW.PrintLast Go.Proofs.YtnchdmidaigheaaW.PrintMore
def read4.T4 : Bool × List (List Nat × List Nat) := (true, [([], []), ([0], [0]), ([1], [1]), ([2], [2]), ([], []), ([3, 4], [3, 4]), ([5, 5, 0, 1, 2, 3, 4, 5], [5])])
def read4.B4 : List Nat := [0, 1, 3, 7, 0, 31, 63]
theorem read4.tab4 : rtab .any (opsOf Try.f21 4) = read4.T4 := by kernel_rfl
theorem read4.bits4 : waitsOk read4.T4.2 read4.B4 = true := by kernel_rfl
end Go.Proofs.Ytnchdmidaigheaa.ND
namespace Go.Proofs.Ytnchdmidaigheaa.ND
set_option linter.unusedVariables false
set_option linter.unusedSimpArgs false
open Go.RowKit Go.Proofs.Ytnchdmidaigheaa.Hp Go.Proofs.YtnchdmidaigheaaW.PrintWords Go.Proofs.YtnchdmidaigheaaW.PrintLast Go.Proofs.YtnchdmidaigheaaW.PrintMore
theorem results_c {P : Program} {fn : Func} {p : Tmp} {ty : TypeId} (h : fn.results = #[.cell p ty]) (tmps : Array Value) (w : World) (g : Nat) (t : TypeId) (cs : Array Value) (fr : Nat × Nat) (d : TypeDesc)
    (hp : tmps.getD p undef = .pointer (some ⟨g, 0, none⟩)) (hg : w.heap[g]? = some (.cells cs t fr))
    (hu : P.underlying ty = some d) (hd : (match d with | .struct _ | .array _ _ => true | _ => false) = true) (hi : (P.info? ty).map (·.size) = some cs.size) :
    (results fn tmps).run P w = .ok (.agg cs) w := by
  have hp' : tmps[p]?.getD undef = .pointer (some ⟨g, 0, none⟩) := by simpa using hp
  simp [results, h, hp', asAddr, run_loadVar_row w g t ty cs fr d hg hu hd hi]
end Go.Proofs.Ytnchdmidaigheaa.ND
namespace Go.Proofs.Ytnchdmidaigheaa.QS
set_option linter.unusedVariables false
set_option linter.unusedSimpArgs false
open Go.RowKit Go.Proofs.Ytnchdmidaigheaa.SS Go.Proofs.Ytnchdmidaigheaa.Hp Go.Proofs.YtnchdmidaigheaaW.PrintWords Go.Proofs.YtnchdmidaigheaaW.PrintLast Go.Proofs.YtnchdmidaigheaaW.PrintMore
theorem inf_flt : (Try.prog.info? 65).map (fun i => (i.zero, i.size, i.bytes)) = some (some (.agg #[(.int .i64 0), (.int .i64 0), (.slice none 0 0)]), 3, 40) := by kernel_rfl
def OwnF (w w' : World) (e : Ending) (x : R0) : Prop := ∃ A c, e = .returned (.agg #[.int .i64 x.f0, .int .i64 x.f1, .slice A x.f2.length c]) ∧ (Kd.int .u8).R 5 w' w.heap.size (fun k => w.heap.size ≤ k) (.slice A x.f2.length c) x.f2 ∧ Below w.heap.size w w'
set_option maxHeartbeats 2000000 in
set_option maxRecDepth 100000 in
theorem own_calls (x : R0) (A : Option Addr) (cp : Nat) (w : World) (hn : x.f2.length ≤ 100000) (hC : Kd.C (Kd.int .u8) w A x.f2.length x.f2) :
    Calls Try.prog 106 #[.agg #[.int .i64 x.f0, .int .i64 x.f1, .slice A x.f2.length cp]] w fun e w' => OwnF w w' e x := by
  have hz1 := heap_alloc_new w (.cells #[.int .i64 x.f0, .int .i64 x.f1, .slice A x.f2.length cp] 65)
  have hb1 := below_alloc (Below.refl w.heap.size w) (.cells #[.int .i64 x.f0, .int .i64 x.f1, .slice A x.f2.length cp] 65)
  have hg1 : ∃ g, g = w.heap.size := ⟨_, rfl⟩
  obtain ⟨g1, hg1⟩ := hg1
  have hz2 := heap_alloc_new (w.alloc (.cells #[.int .i64 x.f0, .int .i64 x.f1, .slice A x.f2.length cp] 65)) (.cells #[.int .i64 0, .int .i64 0, .slice none 0 0] 65)
  have hz1' := blk_below hz1 (below_alloc (Below.refl _ _) (.cells #[.int .i64 0, .int .i64 0, .slice none 0 0] 65))
  have hb2 := below_alloc hb1 (.cells #[.int .i64 0, .int .i64 0, .slice none 0 0] 65)
  have hsz : (w.alloc (.cells #[.int .i64 x.f0, .int .i64 x.f1, .slice A x.f2.length cp] 65)).heap.size = w.heap.size + 1 := by simp
  rw [hsz] at hz2
  go_enter Try.func106, Try.ntmps106
  go_upto_region 1 with fail
  generalize (w.alloc (.cells #[.int .i64 x.f0, .int .i64 x.f1, .slice A x.f2.length cp] 65)).alloc (.cells #[.int .i64 0, .int .i64 0, .slice none 0 0] 65) = W1 at hz2 hz1' hb2 ⊢
  clear hz1 hb1 hsz
  rw [← hg1] at hz1' hz2 ⊢
  have HG := Aside0.mk hg1
  have HZ1 := Aside0.mk hz1'
  have HZ2 := Aside0.mk hz2
  have HB2 := Aside0.mk (show Below w.heap.size w W1 from hb2)
  have HIC := Aside0.mk (bclone_calls A cp x.f2 W1 hn (Kd.C_below hC hb2))
  have c2 := blk_cell hz1' 2
  clear hz1' hz2 hb2 hg1 hn hC
  go_upto_region 2 with (go_at_call 118; refine HIC.out.mono ?_; rintro e w3 ⟨v2, rfl, h2, hb⟩; obtain ⟨A2, cp2, rfl⟩ := Kd.R_slice h2; have H2 := Aside0.mk h2; have HZ13 := Aside0.mk (blk_below HZ1.out hb); have HZ23 := Aside0.mk (blk_below HZ2.out hb); have HB3 := Aside0.mk hb; clear hb h2 c2; have c2 := blk_cell HZ13.out 2; have f2 := blk_frozen HZ13.out 2)
  have hp1 := blk_put HZ13.out 2 (.slice A2 x.f2.length cp2) (cs' := #[.int .i64 x.f0, .int .i64 x.f1, .slice A2 x.f2.length cp2]) rfl
  have hp2 := blk_far (p := ⟨g1, 2, none⟩) HZ23.out (by simp) (.slice A2 x.f2.length cp2)
  have hlt1 : g1 < W1.heap.size ∧ g1 + 1 < W1.heap.size := ⟨blk_lt HZ1.out, blk_lt HZ2.out⟩
  have hR1 := Kd.R_far (p := ⟨g1, 2, none⟩) H2.out (fun k hk => by show k ≠ g1; omega) (.slice A2 x.f2.length cp2)
  have hB1 := (below_then HB2.out HB2.out.size HB3.out).setCell (p := ⟨g1, 2, none⟩) (Nat.le_of_eq HG.out.symm) (.slice A2 x.f2.length cp2)
  generalize w3.setCell ⟨g1, 2, none⟩ (.slice A2 x.f2.length cp2) = W4 at hp1 hp2 hR1 hB1 ⊢
  have q0 := blk_put hp2 0 (.int .i64 x.f0) (cs' := #[.int .i64 x.f0, .int .i64 0, .slice none 0 0]) rfl
  have q1 := blk_put q0 1 (.int .i64 x.f1) (cs' := #[.int .i64 x.f0, .int .i64 x.f1, .slice none 0 0]) rfl
  have q2 := blk_put q1 2 (.slice A2 x.f2.length cp2) (cs' := #[.int .i64 x.f0, .int .i64 x.f1, .slice A2 x.f2.length cp2]) rfl
  have hne : ∀ k, W1.heap.size ≤ k → k ≠ g1 + 1 := fun k hk => by omega
  have r0 := Kd.R_far (p := ⟨g1 + 1, 0, none⟩) hR1 hne (.int .i64 x.f0)
  have r1 := Kd.R_far (p := ⟨g1 + 1, 1, none⟩) r0 hne (.int .i64 x.f1)
  have r2 := Kd.R_far (p := ⟨g1 + 1, 2, none⟩) r1 hne (.slice A2 x.f2.length cp2)
  have hgl : w.heap.size ≤ g1 + 1 := by have := HG.out; omega
  have s2 := ((hB1.setCell (p := ⟨g1 + 1, 0, none⟩) hgl (.int .i64 x.f0)).setCell (p := ⟨g1 + 1, 1, none⟩) hgl (.int .i64 x.f1)).setCell (p := ⟨g1 + 1, 2, none⟩) hgl (.slice A2 x.f2.length cp2)
  have Q2 := Aside0.mk q2
  have HR2 := Aside0.mk r2
  have HS2 := Aside0.mk s2
  have d0 := blk_cell hp1 0
  have d1 := blk_cell hp1 1
  have d2 := blk_cell hp1 2
  have e0 := blk_cell hp2 0
  have e1 := blk_cell hp2 1
  have e2 := blk_cell hp2 2
  have k0 := blk_frozen hp2 0
  have k1 := blk_frozen hp2 1
  have k2 := blk_frozen hp2 2
  have HLT := Aside0.mk hlt1
  clear q0 q1 q2 r0 r1 r2 s2 hp1 hp2 hR1 hB1 hne hgl c2 f2 hlt1
  go_wp2_with fail
  (try simp only [Exit.inBlock, Exit.then])
  refine bodyPost_ret (ND.results_c rfl _ _ (g1 + 1) 65 _ (0, 0) _ rfl Q2.out Try.underlying65 rfl (by kernel_rfl)) rfl ?_
  refine ⟨A2, cp2, rfl, ?_, HS2.out⟩
  exact Kd.R_mono (Kd.R_lower HR2.out HB2.out.size) (fun k hk => Nat.le_trans HB2.out.size hk)
set_option maxHeartbeats 4000000 in
set_option maxRecDepth 100000 in
theorem some_calls (K : FuncId) (fn : Func) (caps : Array Value) (hK : Try.prog.funcs[K]? = some fn) (hname : (fn.name == "runtime.NumGoroutine") = false) (hbody : fn.body.isSome = true) (so : R0 → Bool) (l : List R0) (A : Option Addr) (cp : Nat) (w : World) (hn : l.length ≤ 1000) (hp : ∀ x ∈ l, x.f2.length ≤ 1000) (hC : Kd.C k65 w A l.length l)
    (hso : ∀ W, Below w.heap.size w W → ∀ (x : R0) (Ap : Option Addr) (cpp : Nat), Calls Try.prog K (#[.agg #[.int .i64 x.f0, .int .i64 x.f1, .slice Ap x.f2.length cpp]] ++ caps) W fun e w' => e = .returned (.bool (so x)) ∧ Below W.heap.size W w') :
    Calls Try.prog 80 #[.slice A l.length cp, .func (.func K) #[] caps] w fun e w' => ∃ v, e = .returned v ∧ Kd.R k65 65 w' w.heap.size (fun k => w.heap.size ≤ k) v (l.filter so) ∧ Below w.heap.size w w' := by
  have HR := Aside0.mk hC
  have HN := Aside0.mk (And.intro hn hp)
  have HSO := Aside0.mk hso
  have hcf := fun (args : Array Value) (W : World) => enters_ (P := Try.prog) hK hname hbody args W
  clear hC hn hp hso hK hname hbody
  go_enter Try.func80, Try.ntmps80
  go_wp2_with fail
  go_loopg [5, 10] (l.length + 1) (fun kq v5 v10 w' => ∃ i : Nat, v10 = .int .i64 (i : Int) ∧ Aside0 (i ≤ l.length ∧ kq + i = l.length + 1) ∧ Aside0 (Kd.R k65 65 w' w.heap.size (fun k => w.heap.size ≤ k) v5 ((l.take i).filter so)) ∧ Aside0 (Below w.heap.size w w'))
  case atStart => exact ⟨0, rfl, ⟨Nat.zero_le _, rfl⟩, ⟨Kd.R_nil _ _ _ _ _⟩, ⟨Below.refl _ _⟩⟩
  case round =>
    obtain ⟨i, rfl, HI, HO, BB⟩ := hrel
    by_cases hi : i < l.length
    case neg =>
      have hie : i = l.length := by have := HI.out; omega
      subst hie
      have t1 : decide ((l.length : Int) < (l.length : Int)) = false := decide_eq_false (by omega)
      have ho := HO.out
      rw [List.take_length] at ho
      replace ho := Aside0.mk ho
      clear HO hi
      go_wp2_with fail
      go_ret
      exact ⟨_, rfl, ho.out, BB.out⟩
    case pos =>
      have t1 : decide ((i : Int) < (l.length : Int)) = true := decide_eq_true (by omega)
      have t2 : decide (i < l.length) = true := decide_eq_true hi
      obtain ⟨ad, Ap, cpp, rfl, hx0, hx1, hx2, hlp, hCp⟩ := at_T65 (Kd.C_below HR.out BB.out) (i : Int) (by omega) (by omega)
      obtain ⟨x, hxe⟩ : ∃ x, x = l[i] := ⟨_, rfl⟩
      have hrd : rd_T65 l (i : Int) = x := by
        unfold rd_T65
        rw [hxe, Int.toNat_natCast, List.getD_eq_getElem?_getD, List.getElem?_eq_getElem hi]
        rfl
      rw [hrd] at hx0 hx1 hx2 hlp hCp
      rw [Int.toNat_natCast] at hx0 hx1 hx2
      have hxp := HN.out.2 x (by rw [hxe]; exact List.getElem_mem hi)
      have p1 : (0 : Int) ≤ (i : Int) := by omega
      have q1 : (i : Int) < (l.length : Int) := by omega
      replace p1 := eq_true p1
      replace q1 := eq_true q1
      have HCP := Aside0.mk (And.intro hlp (And.intro hCp hxp))
      have hfil : (l.take (i + 1)).filter so = (l.take i).filter so ++ (if so x = true then [x] else []) := by
        rw [List.take_add_one, List.getElem?_eq_getElem hi, List.filter_append, ← hxe]
        by_cases h : so x = true
        · rw [if_pos h]; simp [h]
        · rw [if_neg h]; simp [h]
      have HFI := Aside0.mk hfil
      have HI2 := Aside0.mk hi
      have HWI : IntKind.i64.wrap ((i : Int) + 1) = ((i + 1 : Nat) : Int) := by rw [i64_w]; unfold wrap64; have := HN.out.1; omega
      clear hlp hCp hxp hrd hxe hfil hi
      have hbx := heap_alloc_new wr (.cells #[.int .i64 x.f0, .int .i64 x.f1, .slice Ap x.f2.length cpp] 65)
      have hbb := below_alloc BB.out (.cells #[.int .i64 x.f0, .int .i64 x.f1, .slice Ap x.f2.length cpp] 65)
      have hsc := Aside0.mk (HSO.out _ hbb x Ap cpp)
      have HOb := Kd.R_mono (Kd.R_bound HO.out) (fun k hk => (⟨hk.1, hk.2.2.1⟩ : w.heap.size ≤ k ∧ k < wr.heap.size))
      have HO1 := Aside0.mk (Kd.R_alloc HOb (.cells #[.int .i64 x.f0, .int .i64 x.f1, .slice Ap x.f2.length cpp] 65))
      have HCP1 := Aside0.mk (Kd.C_below HCP.out.2.1 (below_alloc (Below.refl wr.heap.size wr) (.cells #[.int .i64 x.f0, .int .i64 x.f1, .slice Ap x.f2.length cpp] 65)))
      have HLT := Aside0.mk (Kd.R_lt HO.out)
      clear HOb
      replace hbx := Aside0.mk hbx
      replace hbb := Aside0.mk hbb
      have HSZ : Aside0 (wr.heap.size < (wr.alloc (.cells #[.int .i64 x.f0, .int .i64 x.f1, .slice Ap x.f2.length cpp] 65)).heap.size) := ⟨by simp⟩
      go_upto_region 5 with fail
      generalize wr.alloc (.cells #[.int .i64 x.f0, .int .i64 x.f1, .slice Ap x.f2.length cpp] 65) = W1 at hbx hbb hsc HO1 HCP1 HSZ ⊢
      clear hx0 hx1 hx2 p1 q1 t1 t2 HO
      have c0 := blk_cell hbx.out 0
      have c1 := blk_cell hbx.out 1
      have c2 := blk_cell hbx.out 2
      cases hsx : so x with
      | false =>
        rw [hsx] at hsc
        have hfl : (l.take (i + 1)).filter so = (l.take i).filter so := by rw [HFI.out, if_neg (by rw [hsx]; simp), List.append_nil]
        replace hfl := Aside0.mk hfl
        clear hsx
        go_wp2_with (refine hsc.out.mono ?_; rintro e w2 ⟨rfl, hb⟩; replace hb := Aside0.mk hb)
        go_roundg (l.length - i)
        case measure => have := HI.out; have := HI2.out; omega
        case rel => exact ⟨i + 1, by first | rfl | (rw [← i64_w, HWI]) | (simp; unfold wrap64; have := HI2.out; have := HN.out.1; omega), ⟨by have := HI2.out; omega, by have := HI.out; have := HI2.out; omega⟩, ⟨by rw [hfl.out]; exact Kd.R_mono (Kd.R_below HO1.out hb.out) (fun _ hk => hk.1)⟩, ⟨below_then hbb.out hbb.out.size hb.out⟩⟩
      | true =>
        rw [hsx] at hsc
        have hfl : (l.take (i + 1)).filter so = (l.take i).filter so ++ [x] := by rw [HFI.out, if_pos (by rw [hsx])]
        replace hfl := Aside0.mk hfl
        clear hsx
        go_upto_region 6 with (refine hsc.out.mono ?_; rintro e w2 ⟨rfl, hb⟩)
        clear c0 c1 c2
        have hbx2 := blk_below hbx.out hb
        have c0 := blk_cell hbx2 0
        have c1 := blk_cell hbx2 1
        have c2 := blk_cell hbx2 2
        have HOC := Aside0.mk (own_calls x Ap cpp w2 (by have := HCP.out.2.2; omega) (Kd.C_below HCP1.out hb))
        have HO2 := Aside0.mk (Kd.R_below HO1.out hb)
        have HB2 := Aside0.mk (below_then hbb.out hbb.out.size hb)
        have HSZ2 : Aside0 (wr.heap.size < w2.heap.size) := ⟨Nat.lt_of_lt_of_le HSZ.out hb.size⟩
        clear hbx hbx2 hb HO1 hbb HCP1 HSZ hsc
        have HNW : Aside0 (∀ k, w2.heap.size ≤ k → w.heap.size ≤ k ∧ some k ≠ u5.ownBlock) := ⟨fun k hk => ⟨by have := HSZ2.out; have := BB.out.size; omega, fun h => by have := HLT.out k h.symm; have := HSZ2.out; omega⟩⟩
        have HLN : Aside0 (((l.take i).filter so).length ≤ 1000) := ⟨by have h1 := List.length_filter_le so (l.take i); have h2 := List.length_take_le i l; have := HN.out.1; rw [List.length_take] at h1; omega⟩
        go_wp2_with (first | (go_at_call 106; refine HOC.out.mono ?_; rintro e w4 ⟨A2, cp2, rfl, h2, hb⟩; have HM := Aside0.mk (k65_mkM w4 w.heap.size _ x (Kd.R_lower h2 HB2.out.size)); have HO3 := Aside0.mk (Kd.R_mono (Kd.R_below HO2.out hb) (fun _ hk => hk.1)); have HB3 := Aside0.mk (below_then HB2.out HB2.out.size hb); have HSZ4 := Aside0.mk hb.size; clear hb h2 c0 c1 c2) | (at_builtin; (refine Kd.R_append k65 w.heap.size rfl _ _ 25 65 _ 40 rfl Try.underlying25 inf_flt rfl (by decide) (by decide) u5 _ x _ (fun k => w.heap.size ≤ k) (fun k => w2.heap.size ≤ k) rfl rfl HM.out HNW.out (fun k hk => Nat.le_trans HB3.out.size hk) HO3.out HB3.out HB3.out.size (Nat.le_trans (Nat.mul_le_mul_right 40 (Nat.succ_le_succ HLN.out)) (by decide)) ?_); intro v1 w5 ho5 hb5 hg5 _; replace ho5 := Aside0.mk ho5; replace hb5 := Aside0.mk hb5; clear hg5))
        go_roundg (l.length - i)
        case measure => have := HI.out; have := HI2.out; omega
        case rel => exact ⟨i + 1, by first | rfl | (rw [← i64_w, HWI]) | (simp; unfold wrap64; have := HI2.out; have := HN.out.1; omega), ⟨by have := HI2.out; omega, by have := HI.out; have := HI2.out; omega⟩, ⟨by rw [hfl.out]; exact ho5.out⟩, hb5⟩
end Go.Proofs.Ytnchdmidaigheaa.QS
namespace Go.Proofs.Ytnchdmidaigheaa.Hp
open Go.RowKit Go.Proofs.YtnchdmidaigheaaW.PrintWords Go.Proofs.YtnchdmidaigheaaW.PrintLast Go.Proofs.YtnchdmidaigheaaW.PrintMore
attribute [local go_sem] max2_int min2_int max_two min_two max_three min_three max_four min_four   -- for this text's walks alone
set_option linter.unusedVariables false
set_option linter.unusedSimpArgs false
def wagtaillaw43_light.l0 : Nat → List (S65) → Int → Option (Bool)
  | 0, _, _ => none
  | k + 1, x0, x3 => if x3 < (x0.length : Int) then (if 0 ≤ x3 then (if (((rd_T65 x0 x3).f2).length : Int) > 300 then (some false) else (wagtaillaw43_light.l0 k x0 (wrap64 (x3 + 1)))) else (none)) else (some (decide ((x0.length : Int) ≤ 40)))
def wagtaillaw43_light.f (k : Nat) (l0 : List (S65)) : Option (Bool) := wagtaillaw43_light.l0 k l0 0
theorem wagtaillaw43_light.mono_l : ∀ k, (∀ y0 y1, LeO (wagtaillaw43_light.l0 k y0 y1) (wagtaillaw43_light.l0 (k + 1) y0 y1))
  | 0 => fun _ _ r h => by simp [wagtaillaw43_light.l0] at h
  | k + 1 => by
    have ih0 := wagtaillaw43_light.mono_l k
    · intro y0 y1
      unfold wagtaillaw43_light.l0
      repeat' first
      | (with_reducible exact ih0 _ _)
      | (with_reducible exact LeO.refl _)
      | (with_reducible exact LeO.none _)
      | (with_reducible refine LeO.ite ?_ ?_)
      | (with_reducible refine LeO.bind ?_ (fun _ => ?_))
      | exact ih0 _ _
      | exact LeO.none _
      | refine LeO.ite ?_ ?_
      | refine LeO.bind ?_ (fun _ => ?_)
theorem wagtaillaw43_light.mono : ∀ a0 k, LeO (wagtaillaw43_light.f k a0) (wagtaillaw43_light.f (k + 1) a0) := by
  intro a0 k
  have ih0 := wagtaillaw43_light.mono_l k
  unfold wagtaillaw43_light.f
  repeat' first
      | (with_reducible exact ih0 _ _)
      | (with_reducible exact LeO.refl _)
      | (with_reducible exact LeO.none _)
      | (with_reducible refine LeO.ite ?_ ?_)
      | (with_reducible refine LeO.bind ?_ (fun _ => ?_))
      | exact ih0 _ _
      | exact LeO.none _
      | refine LeO.ite ?_ ?_
      | refine LeO.bind ?_ (fun _ => ?_)
set_option maxHeartbeats 8000000 in
set_option maxRecDepth 100000 in
theorem wagtaillaw43_light.calls (k : Nat) (A0 : Option Addr) (c0 : Nat) (l0 : List (S65)) (r : Bool) (w : World) (hr0 : Kd.C k65 w A0 l0.length l0) (hc0 : l0.length ≤ c0) (h : wagtaillaw43_light.f k l0 = some r) :
    Calls Try.prog 33 #[.slice A0 l0.length c0] w fun e w' => e = .returned (.bool r) ∧ Drawn0 w w' := by
  have HR0 := Aside0.mk hr0
  have HC0 := Aside0.mk hc0
  clear hr0 hc0
  have H : (wagtaillaw43_light.l0 k l0 0) = some r := h
  clear h
  have H' := Aside0.mk H
  clear H
  go_enter Try.func33, Try.ntmps33
  go_wp2
  go_loopg [3] k (fun kq v3 w' => ∃ (x3_1 : Int), v3 = .int .i64 x3_1 ∧ Aside0 (wagtaillaw43_light.l0 kq l0 x3_1 = some r) ∧ Aside0 (kq ≤ k) ∧ Drawn0 w w')
  case atStart => exact ⟨(0), (by first | rfl | (simp; done) | (simp [*]; done)), H', ⟨Nat.le_refl _⟩, by repeat (first | exact Drawn0.refl _ | apply Drawn0.step)⟩
  case round =>
    clear H'
    obtain ⟨x3_1, rfl, HA, HK1, ⟨m1, rfl⟩⟩ := hrel
    cases gk with
    | zero => exact absurd HA.out (by simp [wagtaillaw43_light.l0])
    | succ k1 =>
      have H := HA.out
      clear HA
      simp only [wagtaillaw43_light.l0] at H
      by_cases c2 : x3_1 < (l0.length : Int)
      · rw [if_pos c2] at H
        have c2b0 : decide (x3_1 < (l0.length : Int)) = true := decide_eq_true c2
        clear c2
        by_cases c3 : 0 ≤ x3_1
        · rw [if_pos c3] at H
          have c3b0 : decide (0 ≤ x3_1) = true := decide_eq_true c3
          clear c3
          by_cases c4 : (((rd_T65 l0 x3_1).f2).length : Int) > 300
          · rw [if_pos c4] at H
            have c4b0 : decide (300 < (((rd_T65 l0 x3_1).f2).length : Int)) = true := decide_eq_true c4
            have c4b1 : decide (300 < ((rd_T65 l0 x3_1).f2).length) = true := decide_eq_true (by omega)
            clear c4
            obtain rfl := Option.some.inj H
            have p202 : 0 ≤ (x3_1 : Int) := of_decide_eq_true (by first | (with_reducible assumption) | assumption)
            have q202 : x3_1 < (l0.length : Int) := of_decide_eq_true (by first | (with_reducible assumption) | assumption)
            obtain ⟨ad202, A202_2, c202_2, e202, hx202_0, hx202_1, hx202_2, hl202_2, hi202_2⟩ := at_T65 HR0.out x3_1 p202 q202
            cases e202
            have HR202_2 := Aside0.mk hi202_2
            have HC202_2 := Aside0.mk hl202_2
            clear hi202_2 hl202_2
            replace p202 := eq_true p202
            replace q202 := eq_true q202
            go_wp2
            go_ret
            exact ⟨by first | rfl | (simp; done) | (simp [*]; done), by repeat (first | exact Drawn0.refl _ | apply Drawn0.step)⟩
          · rw [if_neg c4] at H
            have c4b0 : decide (300 < (((rd_T65 l0 x3_1).f2).length : Int)) = false := decide_eq_false c4
            have c4b1 : decide (300 < ((rd_T65 l0 x3_1).f2).length) = false := decide_eq_false (by omega)
            clear c4
            have H' := Aside0.mk H
            clear H
            have p202 : 0 ≤ (x3_1 : Int) := of_decide_eq_true (by first | (with_reducible assumption) | assumption)
            have q202 : x3_1 < (l0.length : Int) := of_decide_eq_true (by first | (with_reducible assumption) | assumption)
            obtain ⟨ad202, A202_2, c202_2, e202, hx202_0, hx202_1, hx202_2, hl202_2, hi202_2⟩ := at_T65 HR0.out x3_1 p202 q202
            cases e202
            have HR202_2 := Aside0.mk hi202_2
            have HC202_2 := Aside0.mk hl202_2
            clear hi202_2 hl202_2
            replace p202 := eq_true p202
            replace q202 := eq_true q202
            go_wp2
            go_roundg k1
            case measure => have := HK1.out; omega
            case rel => exact ⟨(wrap64 (x3_1 + 1)), (by first | rfl | (simp; done) | (simp [*]; done)), H', ⟨by have := HK1.out; omega⟩, by repeat (first | exact Drawn0.refl _ | apply Drawn0.step)⟩
        · rw [if_neg c3] at H
          exact absurd H (by simp)
      · rw [if_neg c2] at H
        have c2b0 : decide (x3_1 < (l0.length : Int)) = false := decide_eq_false c2
        clear c2
        obtain rfl := Option.some.inj H
        go_wp2
        go_ret
        exact ⟨by first | rfl | (simp; done) | (simp [*]; done), by repeat (first | exact Drawn0.refl _ | apply Drawn0.step)⟩
def damage_kind.f (a0 : Int) : Option (Bool) := if a0 = 1 then (some true) else (some (a0 == 2))
set_option maxHeartbeats 8000000 in
set_option maxRecDepth 100000 in
theorem damage_kind.calls (a0 : Int) (r : Bool) (w : World) (h : damage_kind.f a0 = some r) :
    Calls Try.prog 82 #[.int .i64 a0] w fun e w' => e = .returned (.bool r) ∧ Drawn0 w w' := by
  have H : (if a0 = 1 then (some true) else (some (a0 == 2))) = some r := h
  clear h
  by_cases c2 : a0 = 1
  · rw [if_pos c2] at H
    have c2b0 : (a0 == 1) = true := beq_iff_eq.mpr c2
    have c2b1 : (a0 != 1) = false := bne_eq_false_iff_eq.mpr c2
    clear c2
    obtain rfl := Option.some.inj H
    go_enter Try.func82, Try.ntmps82
    go_wp2
    go_ret
    exact ⟨by first | rfl | (simp; done) | (simp [*]; done), by repeat (first | exact Drawn0.refl _ | apply Drawn0.step)⟩
  · rw [if_neg c2] at H
    have c2b0 : (a0 == 1) = false := beq_eq_false_iff_ne.mpr c2
    have c2b1 : (a0 != 1) = true := bne_iff_ne.mpr c2
    obtain rfl := Option.some.inj H
    go_enter Try.func82, Try.ntmps82
    go_wp2
    go_ret
    exact ⟨by first | rfl | (simp; done) | (simp [*]; done), by repeat (first | exact Drawn0.refl _ | apply Drawn0.step)⟩
def damage_Check.l0 : Nat → List (S65) → Int → Int → Option (Int)
  | 0, _, _, _ => none
  | k + 1, x5, x6, x7 => if x7 < x6 then (if 0 ≤ x7 then (if x7 < (x5.length : Int) then ((damage_kind.f ((rd_T65 x5 x7).f1)).bind fun t207 => (if t207 = true then (if ((rd_T65 x5 x7).f0) < 0 then (some 3) else (damage_Check.l0 k x5 x6 (wrap64 (x7 + 1)))) else (some 2))) else (none)) else (none)) else (some 0)
def damage_Check.f (k : Nat) (l0 : List (S65)) : Option (Int) := damage_Check.l0 k l0 (l0.length : Int) 0
theorem damage_Check.mono_l : ∀ k, (∀ y0 y1 y2, LeO (damage_Check.l0 k y0 y1 y2) (damage_Check.l0 (k + 1) y0 y1 y2))
  | 0 => fun _ _ _ r h => by simp [damage_Check.l0] at h
  | k + 1 => by
    have ih0 := damage_Check.mono_l k
    · intro y0 y1 y2
      unfold damage_Check.l0
      repeat' first
      | (with_reducible exact ih0 _ _ _)
      | (with_reducible exact LeO.refl _)
      | (with_reducible exact LeO.none _)
      | (with_reducible refine LeO.ite ?_ ?_)
      | (with_reducible refine LeO.bind ?_ (fun _ => ?_))
      | exact ih0 _ _ _
      | exact LeO.none _
      | refine LeO.ite ?_ ?_
      | refine LeO.bind ?_ (fun _ => ?_)
theorem damage_Check.mono : ∀ a0 k, LeO (damage_Check.f k a0) (damage_Check.f (k + 1) a0) := by
  intro a0 k
  have ih0 := damage_Check.mono_l k
  unfold damage_Check.f
  repeat' first
      | (with_reducible exact ih0 _ _ _)
      | (with_reducible exact LeO.refl _)
      | (with_reducible exact LeO.none _)
      | (with_reducible refine LeO.ite ?_ ?_)
      | (with_reducible refine LeO.bind ?_ (fun _ => ?_))
      | exact ih0 _ _ _
      | exact LeO.none _
      | refine LeO.ite ?_ ?_
      | refine LeO.bind ?_ (fun _ => ?_)
set_option maxHeartbeats 8000000 in
set_option maxRecDepth 100000 in
theorem damage_Check.calls (k : Nat) (A0 : Option Addr) (c0 : Nat) (l0 : List (S65)) (r : Int) (w : World) (hr0 : Kd.C k65 w A0 l0.length l0) (hc0 : l0.length ≤ c0) (h : damage_Check.f k l0 = some r) :
    Calls Try.prog 38 #[.slice A0 l0.length c0] w fun e w' => e = .returned (.int .i64 r) ∧ Below w.heap.size w w' := by
  have hu65 := Try.underlying65
  have HR0 := Aside0.mk hr0
  have HC0 := Aside0.mk hc0
  clear hr0 hc0
  have HB := Aside0.mk (Below.refl w.heap.size w)
  have H : (damage_Check.l0 k l0 (l0.length : Int) 0) = some r := h
  clear h
  have H' := Aside0.mk H
  clear H
  go_enter Try.func38, Try.ntmps38
  go_wp2
  go_loopg [7] k (fun kq v7 w' => ∃ (x7_1 : Int), v7 = .int .i64 x7_1 ∧ Aside0 (damage_Check.l0 kq l0 (l0.length : Int) x7_1 = some r) ∧ Aside0 (kq ≤ k) ∧ Aside0 (Below w.heap.size w w'))
  case atStart => exact ⟨(0), (by first | rfl | (simp; done) | (simp [*]; done)), H', ⟨Nat.le_refl _⟩, ⟨by repeat (first | (with_reducible first | exact HB.out | apply below_alloc | apply pw_below_drewN | apply below_drew1) | exact HB.out)⟩⟩
  case round =>
    clear H'
    obtain ⟨x7_1, rfl, HA, HK1, HB⟩ := hrel
    cases gk with
    | zero => exact absurd HA.out (by simp [damage_Check.l0])
    | succ k1 =>
      have H := HA.out
      clear HA
      simp only [damage_Check.l0] at H
      by_cases c2 : x7_1 < (l0.length : Int)
      · rw [if_pos c2] at H
        have c2b0 : decide (x7_1 < (l0.length : Int)) = true := decide_eq_true c2
        clear c2
        by_cases c3 : 0 ≤ x7_1
        · rw [if_pos c3] at H
          have c3b0 : decide (0 ≤ x7_1) = true := decide_eq_true c3
          clear c3
          by_cases c4 : x7_1 < (l0.length : Int)
          · rw [if_pos c4] at H
            have c4b0 : decide (x7_1 < (l0.length : Int)) = true := decide_eq_true c4
            clear c4
            replace H := Option.bind_eq_some_iff.mp H
            obtain ⟨t207, A50, H⟩ := H
            replace H : (if t207 = true then (if ((rd_T65 l0 x7_1).f0) < 0 then (some 3) else (damage_Check.l0 k1 l0 (l0.length : Int) (wrap64 (x7_1 + 1)))) else (some 2)) = some r := H
            have A5 := Aside0.mk A50
            clear A50
            by_cases c6 : t207 = true
            · subst c6
              have H1 : (if ((rd_T65 l0 x7_1).f0) < 0 then (some 3) else (damage_Check.l0 k1 l0 (l0.length : Int) (wrap64 (x7_1 + 1)))) = some r := by rw [if_pos rfl] at H; exact H
              clear H
              have H := H1
              clear H1
              by_cases c7 : ((rd_T65 l0 x7_1).f0) < 0
              · rw [if_pos c7] at H
                have c7b0 : decide (((rd_T65 l0 x7_1).f0) < 0) = true := decide_eq_true c7
                clear c7
                obtain rfl := Option.some.inj H
                have p205 : 0 ≤ (x7_1 : Int) := of_decide_eq_true (by first | (with_reducible assumption) | assumption)
                have q205 : x7_1 < (l0.length : Int) := of_decide_eq_true (by first | (with_reducible assumption) | assumption)
                obtain ⟨ad205, A205_2, c205_2, e205, hx205_0, hx205_1, hx205_2, hl205_2, hi205_2⟩ := at_T65 HR0.out x7_1 p205 q205
                cases e205
                replace hx205_0 := (HB.out.cell (World.block_lt_of_cell? w _ hx205_0)).trans hx205_0
                replace hx205_1 := (HB.out.cell (World.block_lt_of_cell? w _ hx205_1)).trans hx205_1
                replace hx205_2 := (HB.out.cell (World.block_lt_of_cell? w _ hx205_2)).trans hx205_2
                have HR205_2 := Aside0.mk hi205_2
                have HC205_2 := Aside0.mk hl205_2
                clear hi205_2 hl205_2
                replace p205 := eq_true p205
                replace q205 := eq_true q205
                go_wp2_with (first | ((with_reducible refine gate_dst (N := 4) rfl ?_); refine box_event ?hg (N := 4) ?hd (cs := #[.int .i64 0, .int .i64 0, .slice none 0 0]) (t := 65) ?hr ?_; (case hd => rfl); (case hg => rfl); (case hr => first | (go_simp; done) | (go_simp; rfl)); intro gb206 hg w8 hbox hb; have n0_ := Aside0.mk (below_step (by repeat (first | (with_reducible first | exact HB.out | apply below_alloc | apply pw_below_drewN | apply below_drew1) | exact HB.out)) hb); have n1_ := Aside0.mk (hbox); have n2_ := Aside0.mk ((by rw [hg]; exact (below_size (by repeat (first | (with_reducible first | exact HB.out | apply below_alloc | apply pw_below_drewN | apply below_drew1) | exact HB.out))) : w.heap.size ≤ gb206)); have n3_ := Aside0.mk ((by rw [hg]; exact (below_size (by repeat (first | (with_reducible first | exact HB.out | apply below_alloc | apply pw_below_drewN | apply below_drew1) | exact HB.out))) : w.heap.size ≤ gb206)); clear HB; have HB := n0_; have BK206 := n1_; have GW206 := n2_; have GE206 := n3_; clear n0_ n1_ n2_ n3_; clear hb hbox hg; have hcz9_0 : w8.cell? ⟨gb206, 0, none⟩ = some (.int .i64 0) := (blk_cell BK206.out 0).trans rfl; have hcz9_1 : w8.cell? ⟨gb206, 1, none⟩ = some (.int .i64 0) := (blk_cell BK206.out 1).trans rfl; have hcz9_2 : w8.cell? ⟨gb206, 2, none⟩ = some (.slice none 0 0) := (blk_cell BK206.out 2).trans rfl; have hfz9_0 := blk_frozen BK206.out 0; have hfz9_1 := blk_frozen BK206.out 1; have hfz9_2 := blk_frozen BK206.out 2) | ((with_reducible refine gate_callee (f := 82) rfl ?_); refine goesL_ (some 14) rfl rfl Try.func82 (by kernel_rfl) rfl #[.int .i64 ((rd_T65 l0 x7_1).f1)] rfl (by (try simp only [List.map_toArray, List.map_cons, List.map_nil]); first | done | rfl | (simp only [List.length_drop, List.length_take]; rfl)) ?_; (with_reducible refine (damage_kind.calls ((rd_T65 l0 x7_1).f1) true _ A5.out).mono ?_); rintro e w' ⟨rfl, ⟨nd, rfl⟩⟩; refine ⟨_, rfl, ?_⟩))
                go_ret
                exact ⟨by first | rfl | (simp [errW_none, errW_some] <;> rfl) | (simp [*, errW_none, errW_some] <;> rfl), by repeat (first | (with_reducible first | exact HB.out | apply below_alloc | apply pw_below_drewN | apply below_drew1 | refine below_set ?_ GE206.out) | exact HB.out)⟩
              · rw [if_neg c7] at H
                have c7b0 : decide (((rd_T65 l0 x7_1).f0) < 0) = false := decide_eq_false c7
                clear c7
                have H' := Aside0.mk H
                clear H
                have p205 : 0 ≤ (x7_1 : Int) := of_decide_eq_true (by first | (with_reducible assumption) | assumption)
                have q205 : x7_1 < (l0.length : Int) := of_decide_eq_true (by first | (with_reducible assumption) | assumption)
                obtain ⟨ad205, A205_2, c205_2, e205, hx205_0, hx205_1, hx205_2, hl205_2, hi205_2⟩ := at_T65 HR0.out x7_1 p205 q205
                cases e205
                replace hx205_0 := (HB.out.cell (World.block_lt_of_cell? w _ hx205_0)).trans hx205_0
                replace hx205_1 := (HB.out.cell (World.block_lt_of_cell? w _ hx205_1)).trans hx205_1
                replace hx205_2 := (HB.out.cell (World.block_lt_of_cell? w _ hx205_2)).trans hx205_2
                have HR205_2 := Aside0.mk hi205_2
                have HC205_2 := Aside0.mk hl205_2
                clear hi205_2 hl205_2
                replace p205 := eq_true p205
                replace q205 := eq_true q205
                go_wp2_with (first | ((with_reducible refine gate_dst (N := 4) rfl ?_); refine box_event ?hg (N := 4) ?hd (cs := #[.int .i64 0, .int .i64 0, .slice none 0 0]) (t := 65) ?hr ?_; (case hd => rfl); (case hg => rfl); (case hr => first | (go_simp; done) | (go_simp; rfl)); intro gb206 hg w10 hbox hb; have n0_ := Aside0.mk (below_step (by repeat (first | (with_reducible first | exact HB.out | apply below_alloc | apply pw_below_drewN | apply below_drew1) | exact HB.out)) hb); have n1_ := Aside0.mk (hbox); have n2_ := Aside0.mk ((by rw [hg]; exact (below_size (by repeat (first | (with_reducible first | exact HB.out | apply below_alloc | apply pw_below_drewN | apply below_drew1) | exact HB.out))) : w.heap.size ≤ gb206)); have n3_ := Aside0.mk ((by rw [hg]; exact (below_size (by repeat (first | (with_reducible first | exact HB.out | apply below_alloc | apply pw_below_drewN | apply below_drew1) | exact HB.out))) : w.heap.size ≤ gb206)); clear HB; have HB := n0_; have BK206 := n1_; have GW206 := n2_; have GE206 := n3_; clear n0_ n1_ n2_ n3_; clear hb hbox hg; have hcz11_0 : w10.cell? ⟨gb206, 0, none⟩ = some (.int .i64 0) := (blk_cell BK206.out 0).trans rfl; have hcz11_1 : w10.cell? ⟨gb206, 1, none⟩ = some (.int .i64 0) := (blk_cell BK206.out 1).trans rfl; have hcz11_2 : w10.cell? ⟨gb206, 2, none⟩ = some (.slice none 0 0) := (blk_cell BK206.out 2).trans rfl; have hfz11_0 := blk_frozen BK206.out 0; have hfz11_1 := blk_frozen BK206.out 1; have hfz11_2 := blk_frozen BK206.out 2) | ((with_reducible refine gate_callee (f := 82) rfl ?_); refine goesL_ (some 14) rfl rfl Try.func82 (by kernel_rfl) rfl #[.int .i64 ((rd_T65 l0 x7_1).f1)] rfl (by (try simp only [List.map_toArray, List.map_cons, List.map_nil]); first | done | rfl | (simp only [List.length_drop, List.length_take]; rfl)) ?_; (with_reducible refine (damage_kind.calls ((rd_T65 l0 x7_1).f1) true _ A5.out).mono ?_); rintro e w' ⟨rfl, ⟨nd, rfl⟩⟩; refine ⟨_, rfl, ?_⟩))
                go_roundg k1
                case measure => have := HK1.out; omega
                case rel => exact ⟨(wrap64 (x7_1 + 1)), (by first | rfl | (simp; done) | (simp [*]; done)), H', ⟨by have := HK1.out; omega⟩, ⟨by repeat (first | (with_reducible first | exact HB.out | apply below_alloc | apply pw_below_drewN | apply below_drew1 | refine below_set ?_ GE206.out) | exact HB.out)⟩⟩
            · replace c6 := Bool.eq_false_iff.mpr c6
              subst c6
              have H1 : (some 2) = some r := by rw [if_neg (show ¬ (false = true) by decide)] at H; exact H
              clear H
              have H := H1
              clear H1
              obtain rfl := Option.some.inj H
              have p205 : 0 ≤ (x7_1 : Int) := of_decide_eq_true (by first | (with_reducible assumption) | assumption)
              have q205 : x7_1 < (l0.length : Int) := of_decide_eq_true (by first | (with_reducible assumption) | assumption)
              obtain ⟨ad205, A205_2, c205_2, e205, hx205_0, hx205_1, hx205_2, hl205_2, hi205_2⟩ := at_T65 HR0.out x7_1 p205 q205
              cases e205
              replace hx205_0 := (HB.out.cell (World.block_lt_of_cell? w _ hx205_0)).trans hx205_0
              replace hx205_1 := (HB.out.cell (World.block_lt_of_cell? w _ hx205_1)).trans hx205_1
              replace hx205_2 := (HB.out.cell (World.block_lt_of_cell? w _ hx205_2)).trans hx205_2
              have HR205_2 := Aside0.mk hi205_2
              have HC205_2 := Aside0.mk hl205_2
              clear hi205_2 hl205_2
              replace p205 := eq_true p205
              replace q205 := eq_true q205
              go_wp2_with (first | ((with_reducible refine gate_dst (N := 4) rfl ?_); refine box_event ?hg (N := 4) ?hd (cs := #[.int .i64 0, .int .i64 0, .slice none 0 0]) (t := 65) ?hr ?_; (case hd => rfl); (case hg => rfl); (case hr => first | (go_simp; done) | (go_simp; rfl)); intro gb206 hg w12 hbox hb; have n0_ := Aside0.mk (below_step (by repeat (first | (with_reducible first | exact HB.out | apply below_alloc | apply pw_below_drewN | apply below_drew1) | exact HB.out)) hb); have n1_ := Aside0.mk (hbox); have n2_ := Aside0.mk ((by rw [hg]; exact (below_size (by repeat (first | (with_reducible first | exact HB.out | apply below_alloc | apply pw_below_drewN | apply below_drew1) | exact HB.out))) : w.heap.size ≤ gb206)); have n3_ := Aside0.mk ((by rw [hg]; exact (below_size (by repeat (first | (with_reducible first | exact HB.out | apply below_alloc | apply pw_below_drewN | apply below_drew1) | exact HB.out))) : w.heap.size ≤ gb206)); clear HB; have HB := n0_; have BK206 := n1_; have GW206 := n2_; have GE206 := n3_; clear n0_ n1_ n2_ n3_; clear hb hbox hg; have hcz13_0 : w12.cell? ⟨gb206, 0, none⟩ = some (.int .i64 0) := (blk_cell BK206.out 0).trans rfl; have hcz13_1 : w12.cell? ⟨gb206, 1, none⟩ = some (.int .i64 0) := (blk_cell BK206.out 1).trans rfl; have hcz13_2 : w12.cell? ⟨gb206, 2, none⟩ = some (.slice none 0 0) := (blk_cell BK206.out 2).trans rfl; have hfz13_0 := blk_frozen BK206.out 0; have hfz13_1 := blk_frozen BK206.out 1; have hfz13_2 := blk_frozen BK206.out 2) | ((with_reducible refine gate_callee (f := 82) rfl ?_); refine goesL_ (some 14) rfl rfl Try.func82 (by kernel_rfl) rfl #[.int .i64 ((rd_T65 l0 x7_1).f1)] rfl (by (try simp only [List.map_toArray, List.map_cons, List.map_nil]); first | done | rfl | (simp only [List.length_drop, List.length_take]; rfl)) ?_; (with_reducible refine (damage_kind.calls ((rd_T65 l0 x7_1).f1) false _ A5.out).mono ?_); rintro e w' ⟨rfl, ⟨nd, rfl⟩⟩; refine ⟨_, rfl, ?_⟩))
              go_ret
              exact ⟨by first | rfl | (simp [errW_none, errW_some] <;> rfl) | (simp [*, errW_none, errW_some] <;> rfl), by repeat (first | (with_reducible first | exact HB.out | apply below_alloc | apply pw_below_drewN | apply below_drew1 | refine below_set ?_ GE206.out) | exact HB.out)⟩
          · rw [if_neg c4] at H
            exact absurd H (by simp)
        · rw [if_neg c3] at H
          exact absurd H (by simp)
      · rw [if_neg c2] at H
        have c2b0 : decide (x7_1 < (l0.length : Int)) = false := decide_eq_false c2
        clear c2
        obtain rfl := Option.some.inj H
        go_wp2
        go_ret
        exact ⟨by first | rfl | (simp [errW_none, errW_some] <;> rfl) | (simp [*, errW_none, errW_some] <;> rfl), by repeat (first | (with_reducible first | exact HB.out | apply below_alloc | apply pw_below_drewN | apply below_drew1) | exact HB.out)⟩
def wagtailref43_Find.l0 : Nat → List (S65) → Int → Bool → Int → Option (Int)
  | 0, _, _, _, _ => none
  | k + 1, x0, x1, x2, x7 => if x7 < (x0.length : Int) then (if 0 ≤ x7 then (if ((rd_T65 x0 x7).f0) = x1 then (if x2 = true then (some x7) else (if ((rd_T65 x0 x7).f1) = 1 then (some x7) else (if ((rd_T65 x0 x7).f1) = 2 then (some x7) else (wagtailref43_Find.l0 k x0 x1 x2 (wrap64 (x7 + 1)))))) else (wagtailref43_Find.l0 k x0 x1 x2 (wrap64 (x7 + 1)))) else (none)) else (some (-1))
def wagtailref43_Find.f (k : Nat) (l0 : List (S65)) (a1 : Int) (a2 : Bool) : Option (Int) := wagtailref43_Find.l0 k l0 a1 a2 0
theorem wagtailref43_Find.mono_l : ∀ k, (∀ y0 y1 y2 y3, LeO (wagtailref43_Find.l0 k y0 y1 y2 y3) (wagtailref43_Find.l0 (k + 1) y0 y1 y2 y3))
  | 0 => fun _ _ _ _ r h => by simp [wagtailref43_Find.l0] at h
  | k + 1 => by
    have ih0 := wagtailref43_Find.mono_l k
    · intro y0 y1 y2 y3
      unfold wagtailref43_Find.l0
      repeat' first
      | (with_reducible exact ih0 _ _ _ _)
      | (with_reducible exact LeO.refl _)
      | (with_reducible exact LeO.none _)
      | (with_reducible refine LeO.ite ?_ ?_)
      | (with_reducible refine LeO.bind ?_ (fun _ => ?_))
      | exact ih0 _ _ _ _
      | exact LeO.none _
      | refine LeO.ite ?_ ?_
      | refine LeO.bind ?_ (fun _ => ?_)
theorem wagtailref43_Find.mono : ∀ a0 a1 a2 k, LeO (wagtailref43_Find.f k a0 a1 a2) (wagtailref43_Find.f (k + 1) a0 a1 a2) := by
  intro a0 a1 a2 k
  have ih0 := wagtailref43_Find.mono_l k
  unfold wagtailref43_Find.f
  repeat' first
      | (with_reducible exact ih0 _ _ _ _)
      | (with_reducible exact LeO.refl _)
      | (with_reducible exact LeO.none _)
      | (with_reducible refine LeO.ite ?_ ?_)
      | (with_reducible refine LeO.bind ?_ (fun _ => ?_))
      | exact ih0 _ _ _ _
      | exact LeO.none _
      | refine LeO.ite ?_ ?_
      | refine LeO.bind ?_ (fun _ => ?_)
set_option maxHeartbeats 8000000 in
set_option maxRecDepth 100000 in
theorem wagtailref43_Find.calls (k : Nat) (A0 : Option Addr) (c0 : Nat) (l0 : List (S65)) (a1 : Int) (a2 : Bool) (r : Int) (w : World) (hr0 : Kd.C k65 w A0 l0.length l0) (hc0 : l0.length ≤ c0) (h : wagtailref43_Find.f k l0 a1 a2 = some r) :
    Calls Try.prog 36 #[.slice A0 l0.length c0, .int .i64 a1, .bool a2] w fun e w' => e = .returned (.int .i64 r) ∧ Drawn0 w w' := by
  have HR0 := Aside0.mk hr0
  have HC0 := Aside0.mk hc0
  clear hr0 hc0
  have H : (wagtailref43_Find.l0 k l0 a1 a2 0) = some r := h
  clear h
  have H' := Aside0.mk H
  clear H
  go_enter Try.func36, Try.ntmps36
  go_wp2
  go_loopg [7] k (fun kq v7 w' => ∃ (x7_1 : Int), v7 = .int .i64 x7_1 ∧ Aside0 (wagtailref43_Find.l0 kq l0 a1 a2 x7_1 = some r) ∧ Aside0 (kq ≤ k) ∧ Drawn0 w w')
  case atStart => exact ⟨(0), (by first | rfl | (simp; done) | (simp [*]; done)), H', ⟨Nat.le_refl _⟩, by repeat (first | exact Drawn0.refl _ | apply Drawn0.step)⟩
  case round =>
    clear H'
    try clear p2
    try clear c3
    obtain ⟨x7_1, rfl, HA, HK1, ⟨m1, rfl⟩⟩ := hrel
    cases gk with
    | zero => exact absurd HA.out (by simp [wagtailref43_Find.l0])
    | succ k1 =>
      have H := HA.out
      clear HA
      simp only [wagtailref43_Find.l0] at H
      by_cases c4 : x7_1 < (l0.length : Int)
      · rw [if_pos c4] at H
        have c4b0 : decide (x7_1 < (l0.length : Int)) = true := decide_eq_true c4
        clear c4
        by_cases c5 : 0 ≤ x7_1
        · rw [if_pos c5] at H
          have c5b0 : decide (0 ≤ x7_1) = true := decide_eq_true c5
          clear c5
          by_cases c6 : ((rd_T65 l0 x7_1).f0) = a1
          · rw [if_pos c6] at H
            have c6b0 : (((rd_T65 l0 x7_1).f0) == a1) = true := beq_iff_eq.mpr c6
            have c6b1 : (((rd_T65 l0 x7_1).f0) != a1) = false := bne_eq_false_iff_eq.mpr c6
            clear c6
            by_cases c7 : a2 = true
            · subst c7
              have H1 : (some x7_1) = some r := by rw [if_pos rfl] at H; exact H
              clear H
              have H := H1
              clear H1
              obtain rfl := Option.some.inj H
              have p214 : 0 ≤ (x7_1 : Int) := of_decide_eq_true (by first | (with_reducible assumption) | assumption)
              have q214 : x7_1 < (l0.length : Int) := of_decide_eq_true (by first | (with_reducible assumption) | assumption)
              obtain ⟨ad214, A214_2, c214_2, e214, hx214_0, hx214_1, hx214_2, hl214_2, hi214_2⟩ := at_T65 HR0.out x7_1 p214 q214
              cases e214
              have HR214_2 := Aside0.mk hi214_2
              have HC214_2 := Aside0.mk hl214_2
              clear hi214_2 hl214_2
              replace p214 := eq_true p214
              replace q214 := eq_true q214
              go_wp2
              go_ret
              exact ⟨by first | rfl | (simp; done) | (simp [*]; done), by repeat (first | exact Drawn0.refl _ | apply Drawn0.step)⟩
            · replace c7 := Bool.eq_false_iff.mpr c7
              subst c7
              have H1 : (if ((rd_T65 l0 x7_1).f1) = 1 then (some x7_1) else (if ((rd_T65 l0 x7_1).f1) = 2 then (some x7_1) else (wagtailref43_Find.l0 k1 l0 a1 false (wrap64 (x7_1 + 1))))) = some r := by rw [if_neg (show ¬ (false = true) by decide)] at H; exact H
              clear H
              have H := H1
              clear H1
              by_cases c8 : ((rd_T65 l0 x7_1).f1) = 1
              · rw [if_pos c8] at H
                have c8b0 : (((rd_T65 l0 x7_1).f1) == 1) = true := beq_iff_eq.mpr c8
                have c8b1 : (((rd_T65 l0 x7_1).f1) != 1) = false := bne_eq_false_iff_eq.mpr c8
                clear c8
                obtain rfl := Option.some.inj H
                have p214 : 0 ≤ (x7_1 : Int) := of_decide_eq_true (by first | (with_reducible assumption) | assumption)
                have q214 : x7_1 < (l0.length : Int) := of_decide_eq_true (by first | (with_reducible assumption) | assumption)
                obtain ⟨ad214, A214_2, c214_2, e214, hx214_0, hx214_1, hx214_2, hl214_2, hi214_2⟩ := at_T65 HR0.out x7_1 p214 q214
                cases e214
                have HR214_2 := Aside0.mk hi214_2
                have HC214_2 := Aside0.mk hl214_2
                clear hi214_2 hl214_2
                replace p214 := eq_true p214
                replace q214 := eq_true q214
                have p215 : 0 ≤ (x7_1 : Int) := of_decide_eq_true (by first | (with_reducible assumption) | assumption)
                have q215 : x7_1 < (l0.length : Int) := of_decide_eq_true (by first | (with_reducible assumption) | assumption)
                obtain ⟨ad215, A215_2, c215_2, e215, hx215_0, hx215_1, hx215_2, hl215_2, hi215_2⟩ := at_T65 HR0.out x7_1 p215 q215
                obtain rfl : ad214 = ad215 := (by injection e215)
                have HR215_2 := Aside0.mk hi215_2
                have HC215_2 := Aside0.mk hl215_2
                clear hi215_2 hl215_2
                replace p215 := eq_true p215
                replace q215 := eq_true q215
                have ea_ := Option.some.inj (hx214_2.symm.trans hx215_2)
                injection ea_ with ea_ en_ ec_
                subst ea_
                subst ec_
                clear en_
                go_wp2
                go_ret
                exact ⟨by first | rfl | (simp; done) | (simp [*]; done), by repeat (first | exact Drawn0.refl _ | apply Drawn0.step)⟩
              · rw [if_neg c8] at H
                have c8b0 : (((rd_T65 l0 x7_1).f1) == 1) = false := beq_eq_false_iff_ne.mpr c8
                have c8b1 : (((rd_T65 l0 x7_1).f1) != 1) = true := bne_iff_ne.mpr c8
                by_cases c9 : ((rd_T65 l0 x7_1).f1) = 2
                · rw [if_pos c9] at H
                  have c9b0 : (((rd_T65 l0 x7_1).f1) == 2) = true := beq_iff_eq.mpr c9
                  have c9b1 : (((rd_T65 l0 x7_1).f1) != 2) = false := bne_eq_false_iff_eq.mpr c9
                  clear c9
                  obtain rfl := Option.some.inj H
                  have p214 : 0 ≤ (x7_1 : Int) := of_decide_eq_true (by first | (with_reducible assumption) | assumption)
                  have q214 : x7_1 < (l0.length : Int) := of_decide_eq_true (by first | (with_reducible assumption) | assumption)
                  obtain ⟨ad214, A214_2, c214_2, e214, hx214_0, hx214_1, hx214_2, hl214_2, hi214_2⟩ := at_T65 HR0.out x7_1 p214 q214
                  cases e214
                  have HR214_2 := Aside0.mk hi214_2
                  have HC214_2 := Aside0.mk hl214_2
                  clear hi214_2 hl214_2
                  replace p214 := eq_true p214
                  replace q214 := eq_true q214
                  have p215 : 0 ≤ (x7_1 : Int) := of_decide_eq_true (by first | (with_reducible assumption) | assumption)
                  have q215 : x7_1 < (l0.length : Int) := of_decide_eq_true (by first | (with_reducible assumption) | assumption)
                  obtain ⟨ad215, A215_2, c215_2, e215, hx215_0, hx215_1, hx215_2, hl215_2, hi215_2⟩ := at_T65 HR0.out x7_1 p215 q215
                  obtain rfl : ad214 = ad215 := (by injection e215)
                  have HR215_2 := Aside0.mk hi215_2
                  have HC215_2 := Aside0.mk hl215_2
                  clear hi215_2 hl215_2
                  replace p215 := eq_true p215
                  replace q215 := eq_true q215
                  have ea_ := Option.some.inj (hx214_2.symm.trans hx215_2)
                  injection ea_ with ea_ en_ ec_
                  subst ea_
                  subst ec_
                  clear en_
                  have p216 : 0 ≤ (x7_1 : Int) := of_decide_eq_true (by first | (with_reducible assumption) | assumption)
                  have q216 : x7_1 < (l0.length : Int) := of_decide_eq_true (by first | (with_reducible assumption) | assumption)
                  obtain ⟨ad216, A216_2, c216_2, e216, hx216_0, hx216_1, hx216_2, hl216_2, hi216_2⟩ := at_T65 HR0.out x7_1 p216 q216
                  obtain rfl : ad214 = ad216 := (by injection e216)
                  have HR216_2 := Aside0.mk hi216_2
                  have HC216_2 := Aside0.mk hl216_2
                  clear hi216_2 hl216_2
                  replace p216 := eq_true p216
                  replace q216 := eq_true q216
                  have ea_ := Option.some.inj (hx214_2.symm.trans hx216_2)
                  injection ea_ with ea_ en_ ec_
                  subst ea_
                  subst ec_
                  clear en_
                  go_wp2
                  go_ret
                  exact ⟨by first | rfl | (simp; done) | (simp [*]; done), by repeat (first | exact Drawn0.refl _ | apply Drawn0.step)⟩
                · rw [if_neg c9] at H
                  have c9b0 : (((rd_T65 l0 x7_1).f1) == 2) = false := beq_eq_false_iff_ne.mpr c9
                  have c9b1 : (((rd_T65 l0 x7_1).f1) != 2) = true := bne_iff_ne.mpr c9
                  have H' := Aside0.mk H
                  clear H
                  have p214 : 0 ≤ (x7_1 : Int) := of_decide_eq_true (by first | (with_reducible assumption) | assumption)
                  have q214 : x7_1 < (l0.length : Int) := of_decide_eq_true (by first | (with_reducible assumption) | assumption)
                  obtain ⟨ad214, A214_2, c214_2, e214, hx214_0, hx214_1, hx214_2, hl214_2, hi214_2⟩ := at_T65 HR0.out x7_1 p214 q214
                  cases e214
                  have HR214_2 := Aside0.mk hi214_2
                  have HC214_2 := Aside0.mk hl214_2
                  clear hi214_2 hl214_2
                  replace p214 := eq_true p214
                  replace q214 := eq_true q214
                  have p215 : 0 ≤ (x7_1 : Int) := of_decide_eq_true (by first | (with_reducible assumption) | assumption)
                  have q215 : x7_1 < (l0.length : Int) := of_decide_eq_true (by first | (with_reducible assumption) | assumption)
                  obtain ⟨ad215, A215_2, c215_2, e215, hx215_0, hx215_1, hx215_2, hl215_2, hi215_2⟩ := at_T65 HR0.out x7_1 p215 q215
                  obtain rfl : ad214 = ad215 := (by injection e215)
                  have HR215_2 := Aside0.mk hi215_2
                  have HC215_2 := Aside0.mk hl215_2
                  clear hi215_2 hl215_2
                  replace p215 := eq_true p215
                  replace q215 := eq_true q215
                  have ea_ := Option.some.inj (hx214_2.symm.trans hx215_2)
                  injection ea_ with ea_ en_ ec_
                  subst ea_
                  subst ec_
                  clear en_
                  have p216 : 0 ≤ (x7_1 : Int) := of_decide_eq_true (by first | (with_reducible assumption) | assumption)
                  have q216 : x7_1 < (l0.length : Int) := of_decide_eq_true (by first | (with_reducible assumption) | assumption)
                  obtain ⟨ad216, A216_2, c216_2, e216, hx216_0, hx216_1, hx216_2, hl216_2, hi216_2⟩ := at_T65 HR0.out x7_1 p216 q216
                  obtain rfl : ad214 = ad216 := (by injection e216)
                  have HR216_2 := Aside0.mk hi216_2
                  have HC216_2 := Aside0.mk hl216_2
                  clear hi216_2 hl216_2
                  replace p216 := eq_true p216
                  replace q216 := eq_true q216
                  have ea_ := Option.some.inj (hx214_2.symm.trans hx216_2)
                  injection ea_ with ea_ en_ ec_
                  subst ea_
                  subst ec_
                  clear en_
                  go_wp2
                  go_roundg k1
                  case measure => have := HK1.out; omega
                  case rel => exact ⟨(wrap64 (x7_1 + 1)), (by first | rfl | (simp; done) | (simp [*]; done)), H', ⟨by have := HK1.out; omega⟩, by repeat (first | exact Drawn0.refl _ | apply Drawn0.step)⟩
          · rw [if_neg c6] at H
            have c6b0 : (((rd_T65 l0 x7_1).f0) == a1) = false := beq_eq_false_iff_ne.mpr c6
            have c6b1 : (((rd_T65 l0 x7_1).f0) != a1) = true := bne_iff_ne.mpr c6
            have H' := Aside0.mk H
            clear H
            have p214 : 0 ≤ (x7_1 : Int) := of_decide_eq_true (by first | (with_reducible assumption) | assumption)
            have q214 : x7_1 < (l0.length : Int) := of_decide_eq_true (by first | (with_reducible assumption) | assumption)
            obtain ⟨ad214, A214_2, c214_2, e214, hx214_0, hx214_1, hx214_2, hl214_2, hi214_2⟩ := at_T65 HR0.out x7_1 p214 q214
            cases e214
            have HR214_2 := Aside0.mk hi214_2
            have HC214_2 := Aside0.mk hl214_2
            clear hi214_2 hl214_2
            replace p214 := eq_true p214
            replace q214 := eq_true q214
            go_wp2
            go_roundg k1
            case measure => have := HK1.out; omega
            case rel => exact ⟨(wrap64 (x7_1 + 1)), (by first | rfl | (simp; done) | (simp [*]; done)), H', ⟨by have := HK1.out; omega⟩, by repeat (first | exact Drawn0.refl _ | apply Drawn0.step)⟩
        · rw [if_neg c5] at H
          exact absurd H (by simp)
      · rw [if_neg c4] at H
        have c4b0 : decide (x7_1 < (l0.length : Int)) = false := decide_eq_false c4
        clear c4
        obtain rfl := Option.some.inj H
        go_wp2
        go_ret
        exact ⟨by first | rfl | (simp; done) | (simp [*]; done), by repeat (first | exact Drawn0.refl _ | apply Drawn0.step)⟩
end Go.Proofs.Ytnchdmidaigheaa.Hp
namespace Go.Proofs.Ytnchdmidaigheaa.Hp
open Go.RowKit Go.Proofs.YtnchdmidaigheaaW.PrintWords Go.Proofs.YtnchdmidaigheaaW.PrintLast Go.Proofs.YtnchdmidaigheaaW.PrintMore
attribute [local go_sem] max2_int min2_int max_two min_two max_three min_three max_four min_four   -- for this text's walks alone
set_option linter.unusedVariables false
set_option linter.unusedSimpArgs false
def wagtailref43_One.f (a0_0 : Int) (a0_1 : Int) (l0_2 : List Int) (a1_0 : Int) (a1_1 : Int) (l1_2 : List Int) : Option (Bool) := if a0_0 = a1_0 then (if a0_1 = a1_1 then (some ((strOfNums l0_2).toList == (strOfNums l1_2).toList)) else (some false)) else (some false)
set_option maxHeartbeats 8000000 in
set_option maxRecDepth 100000 in
theorem wagtailref43_One.calls (a0_0 : Int) (a0_1 : Int) (A0_2 : Option Addr) (c0_2 : Nat) (l0_2 : List Int) (a1_0 : Int) (a1_1 : Int) (A1_2 : Option Addr) (c1_2 : Nat) (l1_2 : List Int) (r : Bool) (w : World) (hr0_2 : Kd.C (Kd.int .u8) w A0_2 l0_2.length l0_2) (hc0_2 : l0_2.length ≤ c0_2) (hr1_2 : Kd.C (Kd.int .u8) w A1_2 l1_2.length l1_2) (hc1_2 : l1_2.length ≤ c1_2) (h : wagtailref43_One.f a0_0 a0_1 l0_2 a1_0 a1_1 l1_2 = some r) :
    Calls Try.prog 37 #[.agg #[.int .i64 a0_0, .int .i64 a0_1, .slice A0_2 l0_2.length c0_2], .agg #[.int .i64 a1_0, .int .i64 a1_1, .slice A1_2 l1_2.length c1_2]] w fun e w' => e = .returned (.bool r) ∧ Below w.heap.size w w' := by
  have hu65 := Try.underlying65
  have HR0_2 := Aside0.mk hr0_2
  have HC0_2 := Aside0.mk hc0_2
  clear hr0_2 hc0_2
  have HR1_2 := Aside0.mk hr1_2
  have HC1_2 := Aside0.mk hc1_2
  clear hr1_2 hc1_2
  have HB := Aside0.mk (Below.refl w.heap.size w)
  have H : (if a0_0 = a1_0 then (if a0_1 = a1_1 then (some ((strOfNums l0_2).toList == (strOfNums l1_2).toList)) else (some false)) else (some false)) = some r := h
  clear h
  by_cases c3 : a0_0 = a1_0
  · rw [if_pos c3] at H
    have c3b0 : (a0_0 == a1_0) = true := beq_iff_eq.mpr c3
    have c3b1 : (a0_0 != a1_0) = false := bne_eq_false_iff_eq.mpr c3
    clear c3
    by_cases c4 : a0_1 = a1_1
    · rw [if_pos c4] at H
      have c4b0 : (a0_1 == a1_1) = true := beq_iff_eq.mpr c4
      have c4b1 : (a0_1 != a1_1) = false := bne_eq_false_iff_eq.mpr c4
      clear c4
      obtain rfl := Option.some.inj H
      go_enter Try.func37, Try.ntmps37
      go_wp2_with (first | ((with_reducible refine gate_dst (N := 2) rfl ?_); refine box_event ?hg (N := 2) ?hd (cs := #[.int .i64 a0_0, .int .i64 a0_1, .slice A0_2 l0_2.length c0_2]) (t := 65) ?hr ?_; (case hd => rfl); (case hg => rfl); (case hr => first | (go_simp; done) | (go_simp; rfl)); intro gb217 hg w5 hbox hb; have n0_ := Aside0.mk (below_step (by repeat (first | (with_reducible first | exact HB.out | apply below_alloc | apply pw_below_drewN | apply below_drew1) | exact HB.out)) hb); have n1_ := Aside0.mk (hbox); have n2_ := Aside0.mk ((by rw [hg]; exact (below_size (by repeat (first | (with_reducible first | exact HB.out | apply below_alloc | apply pw_below_drewN | apply below_drew1) | exact HB.out))) : w.heap.size ≤ gb217)); have n3_ := Aside0.mk ((by rw [hg]; exact (below_size (by repeat (first | (with_reducible first | exact HB.out | apply below_alloc | apply pw_below_drewN | apply below_drew1) | exact HB.out))) : w.heap.size ≤ gb217)); clear HB; have HB := n0_; have BK217 := n1_; have GW217 := n2_; have GE217 := n3_; clear n0_ n1_ n2_ n3_; clear hb hbox hg) | ((with_reducible refine gate_dst (N := 3) rfl ?_); refine box_event ?hg (N := 3) ?hd (cs := #[.int .i64 a1_0, .int .i64 a1_1, .slice A1_2 l1_2.length c1_2]) (t := 65) ?hr ?_; (case hd => rfl); (case hg => rfl); (case hr => first | (go_simp; done) | (go_simp; rfl)); intro gb218 hg w6 hbox hb; have n0_ := Aside0.mk (blk_below (g := gb217) (o := .cells #[.int .i64 a0_0, .int .i64 a0_1, .slice A0_2 l0_2.length c0_2] 65 (0, 0)) (by (with_reducible repeat (first | refine blk_drewN ?_ _ | refine blk_drew ?_ | refine blk_alloc ?_ _)); exact BK217.out) hb); have n1_ := Aside0.mk (below_step (by repeat (first | (with_reducible first | exact HB.out | apply below_alloc | apply pw_below_drewN | apply below_drew1 | refine below_set ?_ GE217.out) | exact HB.out)) hb); have n2_ := Aside0.mk (hbox); have n3_ := Aside0.mk ((by rw [hg]; exact (below_size (by repeat (first | (with_reducible first | exact HB.out | apply below_alloc | apply pw_below_drewN | apply below_drew1 | refine below_set ?_ GE217.out) | exact HB.out))) : w.heap.size ≤ gb218)); have n4_ := Aside0.mk ((by rw [hg]; exact (below_size (by repeat (first | (with_reducible first | exact HB.out | apply below_alloc | apply pw_below_drewN | apply below_drew1 | refine below_set ?_ GE217.out) | exact HB.out))) : w.heap.size ≤ gb218)); have n5_ := Aside0.mk ((by rw [hg]; exact Nat.ne_of_lt (blk_lt (g := gb217) (o := .cells #[.int .i64 a0_0, .int .i64 a0_1, .slice A0_2 l0_2.length c0_2] 65 (0, 0)) (by (with_reducible repeat (first | refine blk_drewN ?_ _ | refine blk_drew ?_ | refine blk_alloc ?_ _)); exact BK217.out)) : gb217 ≠ gb218)); have n6_ := Aside0.mk ((by rw [hg]; exact Nat.ne_of_gt (blk_lt (g := gb217) (o := .cells #[.int .i64 a0_0, .int .i64 a0_1, .slice A0_2 l0_2.length c0_2] 65 (0, 0)) (by (with_reducible repeat (first | refine blk_drewN ?_ _ | refine blk_drew ?_ | refine blk_alloc ?_ _)); exact BK217.out)) : gb218 ≠ gb217)); clear BK217; clear HB; have BK217 := n0_; have HB := n1_; have BK218 := n2_; have GW218 := n3_; have GE218 := n4_; have NB217_218 := n5_; have NB218_217 := n6_; clear n0_ n1_ n2_ n3_ n4_ n5_ n6_; clear hb hbox hg; have hnb7 := NB217_218.out; have hnc7 := NB218_217.out; have hcz8_0 : w6.cell? ⟨gb217, 0, none⟩ = some (.int .i64 a0_0) := (blk_cell BK217.out 0).trans rfl; have hcz8_1 : w6.cell? ⟨gb217, 1, none⟩ = some (.int .i64 a0_1) := (blk_cell BK217.out 1).trans rfl; have hcz8_2 : w6.cell? ⟨gb217, 2, none⟩ = some (.slice A0_2 l0_2.length c0_2) := (blk_cell BK217.out 2).trans rfl; have hfz8_0 := blk_frozen BK217.out 0; have hfz8_1 := blk_frozen BK217.out 1; have hfz8_2 := blk_frozen BK217.out 2; have hcz9_0 : w6.cell? ⟨gb218, 0, none⟩ = some (.int .i64 a1_0) := (blk_cell BK218.out 0).trans rfl; have hcz9_1 : w6.cell? ⟨gb218, 1, none⟩ = some (.int .i64 a1_1) := (blk_cell BK218.out 1).trans rfl; have hcz9_2 : w6.cell? ⟨gb218, 2, none⟩ = some (.slice A1_2 l1_2.length c1_2) := (blk_cell BK218.out 2).trans rfl; have hfz9_0 := blk_frozen BK218.out 0; have hfz9_1 := blk_frozen BK218.out 1; have hfz9_2 := blk_frozen BK218.out 2; have hcv10 := Kd.C_string (P := Try.prog) (A := A0_2) (c := c0_2) Try.underlying38 Try.underlying5 Try.underlying9 (Kd.C_below HR0_2.out HB.out); have hcv11 := Kd.C_string (P := Try.prog) (A := A1_2) (c := c1_2) Try.underlying38 Try.underlying5 Try.underlying9 (Kd.C_below HR1_2.out HB.out)))
      go_ret
      exact ⟨by first | rfl | (simp [errW_none, errW_some] <;> rfl) | (simp [*, errW_none, errW_some] <;> rfl), by repeat (first | (with_reducible first | exact HB.out | apply below_alloc | apply pw_below_drewN | apply below_drew1 | refine below_set ?_ GE217.out | refine below_set ?_ GE218.out) | exact HB.out)⟩
    · rw [if_neg c4] at H
      have c4b0 : (a0_1 == a1_1) = false := beq_eq_false_iff_ne.mpr c4
      have c4b1 : (a0_1 != a1_1) = true := bne_iff_ne.mpr c4
      obtain rfl := Option.some.inj H
      go_enter Try.func37, Try.ntmps37
      go_wp2_with (first | ((with_reducible refine gate_dst (N := 2) rfl ?_); refine box_event ?hg (N := 2) ?hd (cs := #[.int .i64 a0_0, .int .i64 a0_1, .slice A0_2 l0_2.length c0_2]) (t := 65) ?hr ?_; (case hd => rfl); (case hg => rfl); (case hr => first | (go_simp; done) | (go_simp; rfl)); intro gb217 hg w12 hbox hb; have n0_ := Aside0.mk (below_step (by repeat (first | (with_reducible first | exact HB.out | apply below_alloc | apply pw_below_drewN | apply below_drew1) | exact HB.out)) hb); have n1_ := Aside0.mk (hbox); have n2_ := Aside0.mk ((by rw [hg]; exact (below_size (by repeat (first | (with_reducible first | exact HB.out | apply below_alloc | apply pw_below_drewN | apply below_drew1) | exact HB.out))) : w.heap.size ≤ gb217)); have n3_ := Aside0.mk ((by rw [hg]; exact (below_size (by repeat (first | (with_reducible first | exact HB.out | apply below_alloc | apply pw_below_drewN | apply below_drew1) | exact HB.out))) : w.heap.size ≤ gb217)); clear HB; have HB := n0_; have BK217 := n1_; have GW217 := n2_; have GE217 := n3_; clear n0_ n1_ n2_ n3_; clear hb hbox hg) | ((with_reducible refine gate_dst (N := 3) rfl ?_); refine box_event ?hg (N := 3) ?hd (cs := #[.int .i64 a1_0, .int .i64 a1_1, .slice A1_2 l1_2.length c1_2]) (t := 65) ?hr ?_; (case hd => rfl); (case hg => rfl); (case hr => first | (go_simp; done) | (go_simp; rfl)); intro gb218 hg w13 hbox hb; have n0_ := Aside0.mk (blk_below (g := gb217) (o := .cells #[.int .i64 a0_0, .int .i64 a0_1, .slice A0_2 l0_2.length c0_2] 65 (0, 0)) (by (with_reducible repeat (first | refine blk_drewN ?_ _ | refine blk_drew ?_ | refine blk_alloc ?_ _)); exact BK217.out) hb); have n1_ := Aside0.mk (below_step (by repeat (first | (with_reducible first | exact HB.out | apply below_alloc | apply pw_below_drewN | apply below_drew1 | refine below_set ?_ GE217.out) | exact HB.out)) hb); have n2_ := Aside0.mk (hbox); have n3_ := Aside0.mk ((by rw [hg]; exact (below_size (by repeat (first | (with_reducible first | exact HB.out | apply below_alloc | apply pw_below_drewN | apply below_drew1 | refine below_set ?_ GE217.out) | exact HB.out))) : w.heap.size ≤ gb218)); have n4_ := Aside0.mk ((by rw [hg]; exact (below_size (by repeat (first | (with_reducible first | exact HB.out | apply below_alloc | apply pw_below_drewN | apply below_drew1 | refine below_set ?_ GE217.out) | exact HB.out))) : w.heap.size ≤ gb218)); have n5_ := Aside0.mk ((by rw [hg]; exact Nat.ne_of_lt (blk_lt (g := gb217) (o := .cells #[.int .i64 a0_0, .int .i64 a0_1, .slice A0_2 l0_2.length c0_2] 65 (0, 0)) (by (with_reducible repeat (first | refine blk_drewN ?_ _ | refine blk_drew ?_ | refine blk_alloc ?_ _)); exact BK217.out)) : gb217 ≠ gb218)); have n6_ := Aside0.mk ((by rw [hg]; exact Nat.ne_of_gt (blk_lt (g := gb217) (o := .cells #[.int .i64 a0_0, .int .i64 a0_1, .slice A0_2 l0_2.length c0_2] 65 (0, 0)) (by (with_reducible repeat (first | refine blk_drewN ?_ _ | refine blk_drew ?_ | refine blk_alloc ?_ _)); exact BK217.out)) : gb218 ≠ gb217)); clear BK217; clear HB; have BK217 := n0_; have HB := n1_; have BK218 := n2_; have GW218 := n3_; have GE218 := n4_; have NB217_218 := n5_; have NB218_217 := n6_; clear n0_ n1_ n2_ n3_ n4_ n5_ n6_; clear hb hbox hg; have hnb14 := NB217_218.out; have hnc14 := NB218_217.out; have hcz15_0 : w13.cell? ⟨gb217, 0, none⟩ = some (.int .i64 a0_0) := (blk_cell BK217.out 0).trans rfl; have hcz15_1 : w13.cell? ⟨gb217, 1, none⟩ = some (.int .i64 a0_1) := (blk_cell BK217.out 1).trans rfl; have hcz15_2 : w13.cell? ⟨gb217, 2, none⟩ = some (.slice A0_2 l0_2.length c0_2) := (blk_cell BK217.out 2).trans rfl; have hfz15_0 := blk_frozen BK217.out 0; have hfz15_1 := blk_frozen BK217.out 1; have hfz15_2 := blk_frozen BK217.out 2; have hcz16_0 : w13.cell? ⟨gb218, 0, none⟩ = some (.int .i64 a1_0) := (blk_cell BK218.out 0).trans rfl; have hcz16_1 : w13.cell? ⟨gb218, 1, none⟩ = some (.int .i64 a1_1) := (blk_cell BK218.out 1).trans rfl; have hcz16_2 : w13.cell? ⟨gb218, 2, none⟩ = some (.slice A1_2 l1_2.length c1_2) := (blk_cell BK218.out 2).trans rfl; have hfz16_0 := blk_frozen BK218.out 0; have hfz16_1 := blk_frozen BK218.out 1; have hfz16_2 := blk_frozen BK218.out 2))
      go_ret
      exact ⟨by first | rfl | (simp [errW_none, errW_some] <;> rfl) | (simp [*, errW_none, errW_some] <;> rfl), by repeat (first | (with_reducible first | exact HB.out | apply below_alloc | apply pw_below_drewN | apply below_drew1 | refine below_set ?_ GE217.out | refine below_set ?_ GE218.out) | exact HB.out)⟩
  · rw [if_neg c3] at H
    have c3b0 : (a0_0 == a1_0) = false := beq_eq_false_iff_ne.mpr c3
    have c3b1 : (a0_0 != a1_0) = true := bne_iff_ne.mpr c3
    obtain rfl := Option.some.inj H
    go_enter Try.func37, Try.ntmps37
    go_wp2_with (first | ((with_reducible refine gate_dst (N := 2) rfl ?_); refine box_event ?hg (N := 2) ?hd (cs := #[.int .i64 a0_0, .int .i64 a0_1, .slice A0_2 l0_2.length c0_2]) (t := 65) ?hr ?_; (case hd => rfl); (case hg => rfl); (case hr => first | (go_simp; done) | (go_simp; rfl)); intro gb217 hg w17 hbox hb; have n0_ := Aside0.mk (below_step (by repeat (first | (with_reducible first | exact HB.out | apply below_alloc | apply pw_below_drewN | apply below_drew1) | exact HB.out)) hb); have n1_ := Aside0.mk (hbox); have n2_ := Aside0.mk ((by rw [hg]; exact (below_size (by repeat (first | (with_reducible first | exact HB.out | apply below_alloc | apply pw_below_drewN | apply below_drew1) | exact HB.out))) : w.heap.size ≤ gb217)); have n3_ := Aside0.mk ((by rw [hg]; exact (below_size (by repeat (first | (with_reducible first | exact HB.out | apply below_alloc | apply pw_below_drewN | apply below_drew1) | exact HB.out))) : w.heap.size ≤ gb217)); clear HB; have HB := n0_; have BK217 := n1_; have GW217 := n2_; have GE217 := n3_; clear n0_ n1_ n2_ n3_; clear hb hbox hg) | ((with_reducible refine gate_dst (N := 3) rfl ?_); refine box_event ?hg (N := 3) ?hd (cs := #[.int .i64 a1_0, .int .i64 a1_1, .slice A1_2 l1_2.length c1_2]) (t := 65) ?hr ?_; (case hd => rfl); (case hg => rfl); (case hr => first | (go_simp; done) | (go_simp; rfl)); intro gb218 hg w18 hbox hb; have n0_ := Aside0.mk (blk_below (g := gb217) (o := .cells #[.int .i64 a0_0, .int .i64 a0_1, .slice A0_2 l0_2.length c0_2] 65 (0, 0)) (by (with_reducible repeat (first | refine blk_drewN ?_ _ | refine blk_drew ?_ | refine blk_alloc ?_ _)); exact BK217.out) hb); have n1_ := Aside0.mk (below_step (by repeat (first | (with_reducible first | exact HB.out | apply below_alloc | apply pw_below_drewN | apply below_drew1 | refine below_set ?_ GE217.out) | exact HB.out)) hb); have n2_ := Aside0.mk (hbox); have n3_ := Aside0.mk ((by rw [hg]; exact (below_size (by repeat (first | (with_reducible first | exact HB.out | apply below_alloc | apply pw_below_drewN | apply below_drew1 | refine below_set ?_ GE217.out) | exact HB.out))) : w.heap.size ≤ gb218)); have n4_ := Aside0.mk ((by rw [hg]; exact (below_size (by repeat (first | (with_reducible first | exact HB.out | apply below_alloc | apply pw_below_drewN | apply below_drew1 | refine below_set ?_ GE217.out) | exact HB.out))) : w.heap.size ≤ gb218)); have n5_ := Aside0.mk ((by rw [hg]; exact Nat.ne_of_lt (blk_lt (g := gb217) (o := .cells #[.int .i64 a0_0, .int .i64 a0_1, .slice A0_2 l0_2.length c0_2] 65 (0, 0)) (by (with_reducible repeat (first | refine blk_drewN ?_ _ | refine blk_drew ?_ | refine blk_alloc ?_ _)); exact BK217.out)) : gb217 ≠ gb218)); have n6_ := Aside0.mk ((by rw [hg]; exact Nat.ne_of_gt (blk_lt (g := gb217) (o := .cells #[.int .i64 a0_0, .int .i64 a0_1, .slice A0_2 l0_2.length c0_2] 65 (0, 0)) (by (with_reducible repeat (first | refine blk_drewN ?_ _ | refine blk_drew ?_ | refine blk_alloc ?_ _)); exact BK217.out)) : gb218 ≠ gb217)); clear BK217; clear HB; have BK217 := n0_; have HB := n1_; have BK218 := n2_; have GW218 := n3_; have GE218 := n4_; have NB217_218 := n5_; have NB218_217 := n6_; clear n0_ n1_ n2_ n3_ n4_ n5_ n6_; clear hb hbox hg; have hnb19 := NB217_218.out; have hnc19 := NB218_217.out; have hcz20_0 : w18.cell? ⟨gb217, 0, none⟩ = some (.int .i64 a0_0) := (blk_cell BK217.out 0).trans rfl; have hcz20_1 : w18.cell? ⟨gb217, 1, none⟩ = some (.int .i64 a0_1) := (blk_cell BK217.out 1).trans rfl; have hcz20_2 : w18.cell? ⟨gb217, 2, none⟩ = some (.slice A0_2 l0_2.length c0_2) := (blk_cell BK217.out 2).trans rfl; have hfz20_0 := blk_frozen BK217.out 0; have hfz20_1 := blk_frozen BK217.out 1; have hfz20_2 := blk_frozen BK217.out 2; have hcz21_0 : w18.cell? ⟨gb218, 0, none⟩ = some (.int .i64 a1_0) := (blk_cell BK218.out 0).trans rfl; have hcz21_1 : w18.cell? ⟨gb218, 1, none⟩ = some (.int .i64 a1_1) := (blk_cell BK218.out 1).trans rfl; have hcz21_2 : w18.cell? ⟨gb218, 2, none⟩ = some (.slice A1_2 l1_2.length c1_2) := (blk_cell BK218.out 2).trans rfl; have hfz21_0 := blk_frozen BK218.out 0; have hfz21_1 := blk_frozen BK218.out 1; have hfz21_2 := blk_frozen BK218.out 2))
    go_ret
    exact ⟨by first | rfl | (simp [errW_none, errW_some] <;> rfl) | (simp [*, errW_none, errW_some] <;> rfl), by repeat (first | (with_reducible first | exact HB.out | apply below_alloc | apply pw_below_drewN | apply below_drew1 | refine below_set ?_ GE217.out | refine below_set ?_ GE218.out) | exact HB.out)⟩
end Go.Proofs.Ytnchdmidaigheaa.Hp
namespace Go.Proofs.Ytnchdmidaigheaa.Hp
open Go.RowKit Go.Proofs.YtnchdmidaigheaaW.PrintWords Go.Proofs.YtnchdmidaigheaaW.PrintLast Go.Proofs.YtnchdmidaigheaaW.PrintMore
attribute [local go_sem] max2_int min2_int max_two min_two max_three min_three max_four min_four   -- for this text's walks alone
set_option linter.unusedVariables false
set_option linter.unusedSimpArgs false
def wagtailref43_Same.l0 : Nat → List (S65) → List (S65) → Int → Option (Bool)
  | 0, _, _, _ => none
  | k + 1, x0, x1, x5 => if x5 < (x0.length : Int) then (if 0 ≤ x5 then (if x5 < (x1.length : Int) then ((wagtailref43_One.f ((rd_T65 x0 x5).f0) ((rd_T65 x0 x5).f1) ((rd_T65 x0 x5).f2) ((rd_T65 x1 x5).f0) ((rd_T65 x1 x5).f1) ((rd_T65 x1 x5).f2)).bind fun t221 => (if t221 = true then (wagtailref43_Same.l0 k x0 x1 (wrap64 (x5 + 1))) else (some false))) else (none)) else (none)) else (some true)
def wagtailref43_Same.f (k : Nat) (l0 : List (S65)) (l1 : List (S65)) : Option (Bool) := if (l0.length : Int) = (l1.length : Int) then (wagtailref43_Same.l0 k l0 l1 0) else (some false)
theorem wagtailref43_Same.mono_l : ∀ k, (∀ y0 y1 y2, LeO (wagtailref43_Same.l0 k y0 y1 y2) (wagtailref43_Same.l0 (k + 1) y0 y1 y2))
  | 0 => fun _ _ _ r h => by simp [wagtailref43_Same.l0] at h
  | k + 1 => by
    have ih0 := wagtailref43_Same.mono_l k
    · intro y0 y1 y2
      unfold wagtailref43_Same.l0
      repeat' first
      | (with_reducible exact ih0 _ _ _)
      | (with_reducible exact LeO.refl _)
      | (with_reducible exact LeO.none _)
      | (with_reducible refine LeO.ite ?_ ?_)
      | (with_reducible refine LeO.bind ?_ (fun _ => ?_))
      | exact ih0 _ _ _
      | exact LeO.none _
      | refine LeO.ite ?_ ?_
      | refine LeO.bind ?_ (fun _ => ?_)
theorem wagtailref43_Same.mono : ∀ a0 a1 k, LeO (wagtailref43_Same.f k a0 a1) (wagtailref43_Same.f (k + 1) a0 a1) := by
  intro a0 a1 k
  have ih0 := wagtailref43_Same.mono_l k
  unfold wagtailref43_Same.f
  repeat' first
      | (with_reducible exact ih0 _ _ _)
      | (with_reducible exact LeO.refl _)
      | (with_reducible exact LeO.none _)
      | (with_reducible refine LeO.ite ?_ ?_)
      | (with_reducible refine LeO.bind ?_ (fun _ => ?_))
      | exact ih0 _ _ _
      | exact LeO.none _
      | refine LeO.ite ?_ ?_
      | refine LeO.bind ?_ (fun _ => ?_)
def wagtailref43_Same.T6 : Bool × List (List Nat × List Nat) := (true, [([], []), ([], []), ([0, 1], [0, 1]), ([2], [2]), ([], []), ([], []), ([4, 5], [4, 5]), ([6], [6]), ([3, 7], [3, 7]), ([8], [8])])
def wagtailref43_Same.B6 : List Nat := [0, 0, 3, 7, 0, 0, 48, 112, 255, 511]
theorem wagtailref43_Same.tab6 : rtab .any (opsOf Try.f39 6) = wagtailref43_Same.T6 := by kernel_rfl
theorem wagtailref43_Same.bits6 : waitsOk wagtailref43_Same.T6.2 wagtailref43_Same.B6 = true := by kernel_rfl
set_option maxHeartbeats 8000000 in
set_option maxRecDepth 100000 in
theorem wagtailref43_Same.calls (k : Nat) (A0 : Option Addr) (c0 : Nat) (l0 : List (S65)) (A1 : Option Addr) (c1 : Nat) (l1 : List (S65)) (r : Bool) (w : World) (hr0 : Kd.C k65 w A0 l0.length l0) (hc0 : l0.length ≤ c0) (hr1 : Kd.C k65 w A1 l1.length l1) (hc1 : l1.length ≤ c1) (h : wagtailref43_Same.f k l0 l1 = some r) :
    Calls Try.prog 39 #[.slice A0 l0.length c0, .slice A1 l1.length c1] w fun e w' => e = .returned (.bool r) ∧ Below w.heap.size w w' := by
  have hu65 := Try.underlying65
  have HR0 := Aside0.mk hr0
  have HC0 := Aside0.mk hc0
  clear hr0 hc0
  have HR1 := Aside0.mk hr1
  have HC1 := Aside0.mk hc1
  clear hr1 hc1
  have HB := Aside0.mk (Below.refl w.heap.size w)
  have H : (if (l0.length : Int) = (l1.length : Int) then (wagtailref43_Same.l0 k l0 l1 0) else (some false)) = some r := h
  clear h
  by_cases c3 : (l0.length : Int) = (l1.length : Int)
  · rw [if_pos c3] at H
    have c3b0 : ((l0.length : Int) == (l1.length : Int)) = true := beq_iff_eq.mpr c3
    have c3b1 : ((l0.length : Int) != (l1.length : Int)) = false := bne_eq_false_iff_eq.mpr c3
    have c3b2 : (l0.length == l1.length) = true := by first | simpa using c3 | (simp at c3 ⊢; omega)
    clear c3
    have H' := Aside0.mk H
    clear H
    go_enter Try.func39, Try.ntmps39
    go_wp2
    go_loopg [5] k (fun kq v5 w' => ∃ (x5_1 : Int), v5 = .int .i64 x5_1 ∧ Aside0 (wagtailref43_Same.l0 kq l0 l1 x5_1 = some r) ∧ Aside0 (kq ≤ k) ∧ Aside0 (Below w.heap.size w w'))
    case atStart => exact ⟨(0), (by first | rfl | (simp; done) | (simp [*]; done)), H', ⟨Nat.le_refl _⟩, ⟨by repeat (first | (with_reducible first | exact HB.out | apply below_alloc | apply pw_below_drewN | apply below_drew1) | exact HB.out)⟩⟩
    case round =>
      clear H'
      try clear c1
      try clear p2
      try clear c3
      try clear c3b0
      try clear c3b1
      try clear c3b2
      obtain ⟨x5_1, rfl, HA, HK1, HB⟩ := hrel
      cases gk with
      | zero => exact absurd HA.out (by simp [wagtailref43_Same.l0])
      | succ k1 =>
        have H := HA.out
        clear HA
        simp only [wagtailref43_Same.l0] at H
        by_cases c4 : x5_1 < (l0.length : Int)
        · rw [if_pos c4] at H
          have c4b0 : decide (x5_1 < (l0.length : Int)) = true := decide_eq_true c4
          clear c4
          by_cases c5 : 0 ≤ x5_1
          · rw [if_pos c5] at H
            have c5b0 : decide (0 ≤ x5_1) = true := decide_eq_true c5
            clear c5
            by_cases c6 : x5_1 < (l1.length : Int)
            · rw [if_pos c6] at H
              have c6b0 : decide (x5_1 < (l1.length : Int)) = true := decide_eq_true c6
              clear c6
              replace H := Option.bind_eq_some_iff.mp H
              obtain ⟨t221, A70, H⟩ := H
              replace H : (if t221 = true then (wagtailref43_Same.l0 k1 l0 l1 (wrap64 (x5_1 + 1))) else (some false)) = some r := H
              have A7 := Aside0.mk A70
              clear A70
              by_cases c8 : t221 = true
              · subst c8
                have H1 : (wagtailref43_Same.l0 k1 l0 l1 (wrap64 (x5_1 + 1))) = some r := by rw [if_pos rfl] at H; exact H
                clear H
                have H := H1
                clear H1
                have H' := Aside0.mk H
                clear H
                try go_wp2
                have n0_ := Aside0.mk (below_drew1 HB.out)
                clear HB
                have HB := n0_
                clear n0_
                have p219 : 0 ≤ (x5_1 : Int) := of_decide_eq_true (by first | (with_reducible assumption) | assumption)
                have q219 : x5_1 < (l0.length : Int) := of_decide_eq_true (by first | (with_reducible assumption) | assumption)
                obtain ⟨ad219, A219_2, c219_2, e219, hx219_0, hx219_1, hx219_2, hl219_2, hi219_2⟩ := at_T65 HR0.out x5_1 p219 q219
                have hw219_2 := hx219_2
                have hw219_1 := hx219_1
                have hw219_0 := hx219_0
                cases e219
                replace hx219_0 := (HB.out.cell (World.block_lt_of_cell? w _ hx219_0)).trans hx219_0
                replace hx219_1 := (HB.out.cell (World.block_lt_of_cell? w _ hx219_1)).trans hx219_1
                replace hx219_2 := (HB.out.cell (World.block_lt_of_cell? w _ hx219_2)).trans hx219_2
                have HR219_2 := Aside0.mk hi219_2
                have HC219_2 := Aside0.mk hl219_2
                clear hi219_2 hl219_2
                replace p219 := eq_true p219
                replace q219 := eq_true q219
                have p220 : 0 ≤ (x5_1 : Int) := of_decide_eq_true (by first | (with_reducible assumption) | assumption)
                have q220 : x5_1 < (l1.length : Int) := of_decide_eq_true (by first | (with_reducible assumption) | assumption)
                obtain ⟨ad220, A220_2, c220_2, e220, hx220_0, hx220_1, hx220_2, hl220_2, hi220_2⟩ := at_T65 HR1.out x5_1 p220 q220
                have hw220_2 := hx220_2
                have hw220_1 := hx220_1
                have hw220_0 := hx220_0
                cases e220
                replace hx220_0 := (HB.out.cell (World.block_lt_of_cell? w _ hx220_0)).trans hx220_0
                replace hx220_1 := (HB.out.cell (World.block_lt_of_cell? w _ hx220_1)).trans hx220_1
                replace hx220_2 := (HB.out.cell (World.block_lt_of_cell? w _ hx220_2)).trans hx220_2
                have HR220_2 := Aside0.mk hi220_2
                have HC220_2 := Aside0.mk hl220_2
                clear hi220_2 hl220_2
                replace p220 := eq_true p220
                replace q220 := eq_true q220
                refine start_ (n := 10) (S := fun w' => w'.cell? (ad219.add ((x5_1).toNat * 3)) = some (.int .i64 ((rd_T65 l0 x5_1).f0)) ∧ w'.cell? ⟨(ad219.add ((x5_1).toNat * 3)).block, (ad219.add ((x5_1).toNat * 3)).off + 1, none⟩ = some (.int .i64 ((rd_T65 l0 x5_1).f1)) ∧ w'.cell? ⟨(ad219.add ((x5_1).toNat * 3)).block, (ad219.add ((x5_1).toNat * 3)).off + 2, none⟩ = some (.slice A219_2 ((rd_T65 l0 x5_1).f2).length c219_2) ∧ w'.cell? (ad220.add ((x5_1).toNat * 3)) = some (.int .i64 ((rd_T65 l1 x5_1).f0)) ∧ w'.cell? ⟨(ad220.add ((x5_1).toNat * 3)).block, (ad220.add ((x5_1).toNat * 3)).off + 1, none⟩ = some (.int .i64 ((rd_T65 l1 x5_1).f1)) ∧ w'.cell? ⟨(ad220.add ((x5_1).toNat * 3)).block, (ad220.add ((x5_1).toNat * 3)).off + 2, none⟩ = some (.slice A220_2 ((rd_T65 l1 x5_1).f2).length c220_2)) (ds := []) #[false, false, false, false, false, false, false, false, false, false] (by kernel_rfl) rfl rfl ⟨((HB.out.cell (World.block_lt_of_cell? w _ hw219_0)).trans hw219_0), ((HB.out.cell (World.block_lt_of_cell? w _ hw219_1)).trans hw219_1), ((HB.out.cell (World.block_lt_of_cell? w _ hw219_2)).trans hw219_2), ((HB.out.cell (World.block_lt_of_cell? w _ hw220_0)).trans hw220_0), ((HB.out.cell (World.block_lt_of_cell? w _ hw220_1)).trans hw220_1), ((HB.out.cell (World.block_lt_of_cell? w _ hw220_2)).trans hw220_2)⟩ (fun hHeld => ?_); refine with_tabW wagtailref43_Same.tab6 wagtailref43_Same.bits6 (fun HT_ HW_ => ?_)
                generalize wr.drew = w9 at HB HR219_2 HR220_2 hx219_0 hx219_1 hx219_2 hx220_0 hx220_1 hx220_2 hHeld ⊢
                refine pure_ (i := 0) (N := some 17) (v := ?_) (a' := ?_) #[true, false, false, false, false, false, false, false, false, false] rfl rfl (any_of HT_.out (by kernel_rfl)) (fun _ _ _ h => h) (Or.inl ⟨by rfl, ?_⟩) ?_ ?_
                rotate_left
                · intro w'
                  go_simp
                  with_reducible rfl
                rotate_left
                · simp only [Act.put, List.setIfInBounds_toArray, List.set_cons_zero, List.set_cons_succ, i64_w, i32_w]
                  rfl
                refine pure_ (i := 1) (N := some 18) (v := ?_) (a' := ?_) #[true, true, false, false, false, false, false, false, false, false] rfl rfl (any_of HT_.out (by kernel_rfl)) (fun _ _ _ h => h) (Or.inl ⟨by rfl, ?_⟩) ?_ ?_
                rotate_left
                · intro w'
                  go_simp
                  with_reducible rfl
                rotate_left
                · simp only [Act.put, List.setIfInBounds_toArray, List.set_cons_zero, List.set_cons_succ, i64_w, i32_w]
                  rfl
                refine pure_ (i := 2) (N := some 19) (v := ?_) (a' := ?_) #[true, true, true, false, false, false, false, false, false, false] rfl rfl (any_of HT_.out (by kernel_rfl)) (fun _ _ _ h => h) (Or.inl ⟨by rfl, ?_⟩) ?_ ?_
                rotate_left
                · intro w'
                  go_simp
                  with_reducible rfl
                rotate_left
                · simp only [Act.put, List.setIfInBounds_toArray, List.set_cons_zero, List.set_cons_succ, i64_w, i32_w]
                  rfl
                refine pure_ (i := 4) (N := some 21) (v := ?_) (a' := ?_) #[true, true, true, false, true, false, false, false, false, false] rfl rfl (any_of HT_.out (by kernel_rfl)) (fun _ _ _ h => h) (Or.inl ⟨by rfl, ?_⟩) ?_ ?_
                rotate_left
                · intro w'
                  go_simp
                  with_reducible rfl
                rotate_left
                · simp only [Act.put, List.setIfInBounds_toArray, List.set_cons_zero, List.set_cons_succ, i64_w, i32_w]
                  rfl
                refine pure_ (i := 5) (N := some 22) (v := ?_) (a' := ?_) #[true, true, true, false, true, true, false, false, false, false] rfl rfl (any_of HT_.out (by kernel_rfl)) (fun _ _ _ h => h) (Or.inl ⟨by rfl, ?_⟩) ?_ ?_
                rotate_left
                · intro w'
                  go_simp
                  with_reducible rfl
                rotate_left
                · simp only [Act.put, List.setIfInBounds_toArray, List.set_cons_zero, List.set_cons_succ, i64_w, i32_w]
                  rfl
                refine pure_ (i := 6) (N := some 23) (v := ?_) (a' := ?_) #[true, true, true, false, true, true, true, false, false, false] rfl rfl (any_of HT_.out (by kernel_rfl)) (fun _ _ _ h => h) (Or.inl ⟨by rfl, ?_⟩) ?_ ?_
                rotate_left
                · intro w'
                  go_simp
                  with_reducible rfl
                rotate_left
                · simp only [Act.put, List.setIfInBounds_toArray, List.set_cons_zero, List.set_cons_succ, i64_w, i32_w]
                  rfl
                refine take_ (i := 3) (N := some 20) (v := ?_) (a' := ?_) #[true, true, true, true, true, true, true, false, false, false] rfl rfl (take_ofW HT_.out HW_.out (by kernel_rfl)) (fun _ _ _ h => h) (Or.inl ⟨by rfl, ?_⟩) hHeld ?_ ?_
                rotate_left
                · rintro w' ⟨s0, s1, s2, s3, s4, s5⟩
                  go_simp
                  with_reducible rfl
                rotate_left
                · simp only [Act.put, List.setIfInBounds_toArray, List.set_cons_zero, List.set_cons_succ, i64_w, i32_w]
                  rfl
                refine take_ (i := 7) (N := some 24) (v := ?_) (a' := ?_) #[true, true, true, true, true, true, true, true, false, false] rfl rfl (take_ofW HT_.out HW_.out (by kernel_rfl)) (fun _ _ _ h => h) (Or.inl ⟨by rfl, ?_⟩) hHeld ?_ ?_
                rotate_left
                · rintro w' ⟨s0, s1, s2, s3, s4, s5⟩
                  go_simp
                  with_reducible rfl
                rotate_left
                · simp only [Act.put, List.setIfInBounds_toArray, List.set_cons_zero, List.set_cons_succ, i64_w, i32_w]
                  rfl
                refine one_ (i := 8) (N := some 25) #[true, true, true, true, true, true, true, true, true, false] rfl rfl (one_of HT_.out (by kernel_rfl)) (by decide) (fun K hK => ?_)
                refine goes_ Try.func37 (by kernel_rfl) rfl #[.agg #[.int .i64 ((rd_T65 l0 x5_1).f0), .int .i64 ((rd_T65 l0 x5_1).f1), .slice A219_2 ((rd_T65 l0 x5_1).f2).length c219_2], .agg #[.int .i64 ((rd_T65 l1 x5_1).f0), .int .i64 ((rd_T65 l1 x5_1).f1), .slice A220_2 ((rd_T65 l1 x5_1).f2).length c220_2]] (by rfl) rfl rfl (by (try simp only [List.map_toArray, List.map_cons, List.map_nil]); first | done | rfl | (simp only [List.length_drop, List.length_take]; rfl)) ?_
                with_reducible refine (wagtailref43_One.calls ((rd_T65 l0 x5_1).f0) ((rd_T65 l0 x5_1).f1) _ _ ((rd_T65 l0 x5_1).f2) ((rd_T65 l1 x5_1).f0) ((rd_T65 l1 x5_1).f1) _ _ ((rd_T65 l1 x5_1).f2) true _ ?side1 ?side2 ?side3 ?side4 A7.out).mono ?_
                (case side1 => repeat (first | exact (Kd.C_below HR219_2.out HB.out) | (with_reducible refine Kd.C_alloc ?_ _) | (with_reducible refine Kd.C_drewN ?_ _) | (with_reducible refine Kd.C_drew ?_)))
                (case side2 => exact HC219_2.out)
                (case side3 => repeat (first | exact (Kd.C_below HR220_2.out HB.out) | (with_reducible refine Kd.C_alloc ?_ _) | (with_reducible refine Kd.C_drewN ?_ _) | (with_reducible refine Kd.C_drew ?_)))
                (case side4 => exact HC220_2.out)
                rintro e w10 ⟨rfl, hb⟩
                refine ⟨_, rfl, ?_⟩
                have n0_ := Aside0.mk (below_step (by repeat (first | (with_reducible first | exact HB.out | apply below_alloc | apply pw_below_drewN | apply below_drew1) | exact HB.out)) hb)
                clear HB
                have HB := n0_
                clear n0_
                (try clear hb)
                (try clear hb2)
                (try clear hk)
                (try clear hi)
                refine hK.out _ _ ⟨((HB.out.cell (World.block_lt_of_cell? w _ hw219_0)).trans hw219_0), ((HB.out.cell (World.block_lt_of_cell? w _ hw219_1)).trans hw219_1), ((HB.out.cell (World.block_lt_of_cell? w _ hw219_2)).trans hw219_2), ((HB.out.cell (World.block_lt_of_cell? w _ hw220_0)).trans hw220_0), ((HB.out.cell (World.block_lt_of_cell? w _ hw220_1)).trans hw220_1), ((HB.out.cell (World.block_lt_of_cell? w _ hw220_2)).trans hw220_2)⟩ (fun hHeld => ?_)
                clear hK K
                refine norm_ (a' := ?_) ?_ ?_
                rotate_left
                · show Act.put _ (some 25) _ = _
                  simp only [Act.put, List.setIfInBounds_toArray, List.set_cons_zero, List.set_cons_succ, i64_w, i32_w]
                  rfl
                refine pure_ (i := 9) (N := some 26) (v := ?_) (a' := ?_) #[true, true, true, true, true, true, true, true, true, true] rfl rfl (any_of HT_.out (by kernel_rfl)) (fun _ _ _ h => h) (Or.inl ⟨by rfl, ?_⟩) ?_ ?_
                rotate_left
                · intro w'
                  go_simp
                  with_reducible rfl
                rotate_left
                · simp only [Act.put, List.setIfInBounds_toArray, List.set_cons_zero, List.set_cons_succ, i64_w, i32_w]
                  rfl
                refine done_ (done_of HT_.out (by kernel_rfl)) ?_
                try go_wp2
                go_roundg k1
                case measure => have := HK1.out; omega
                case rel => exact ⟨(wrap64 (x5_1 + 1)), (by first | rfl | (simp; done) | (simp [*]; done)), H', ⟨by have := HK1.out; omega⟩, ⟨by repeat (first | (with_reducible first | exact HB.out | apply below_alloc | apply pw_below_drewN | apply below_drew1) | exact HB.out)⟩⟩
              · replace c8 := Bool.eq_false_iff.mpr c8
                subst c8
                have H1 : (some false) = some r := by rw [if_neg (show ¬ (false = true) by decide)] at H; exact H
                clear H
                have H := H1
                clear H1
                obtain rfl := Option.some.inj H
                try go_wp2
                have n0_ := Aside0.mk (below_drew1 HB.out)
                clear HB
                have HB := n0_
                clear n0_
                have p219 : 0 ≤ (x5_1 : Int) := of_decide_eq_true (by first | (with_reducible assumption) | assumption)
                have q219 : x5_1 < (l0.length : Int) := of_decide_eq_true (by first | (with_reducible assumption) | assumption)
                obtain ⟨ad219, A219_2, c219_2, e219, hx219_0, hx219_1, hx219_2, hl219_2, hi219_2⟩ := at_T65 HR0.out x5_1 p219 q219
                have hw219_2 := hx219_2
                have hw219_1 := hx219_1
                have hw219_0 := hx219_0
                cases e219
                replace hx219_0 := (HB.out.cell (World.block_lt_of_cell? w _ hx219_0)).trans hx219_0
                replace hx219_1 := (HB.out.cell (World.block_lt_of_cell? w _ hx219_1)).trans hx219_1
                replace hx219_2 := (HB.out.cell (World.block_lt_of_cell? w _ hx219_2)).trans hx219_2
                have HR219_2 := Aside0.mk hi219_2
                have HC219_2 := Aside0.mk hl219_2
                clear hi219_2 hl219_2
                replace p219 := eq_true p219
                replace q219 := eq_true q219
                have p220 : 0 ≤ (x5_1 : Int) := of_decide_eq_true (by first | (with_reducible assumption) | assumption)
                have q220 : x5_1 < (l1.length : Int) := of_decide_eq_true (by first | (with_reducible assumption) | assumption)
                obtain ⟨ad220, A220_2, c220_2, e220, hx220_0, hx220_1, hx220_2, hl220_2, hi220_2⟩ := at_T65 HR1.out x5_1 p220 q220
                have hw220_2 := hx220_2
                have hw220_1 := hx220_1
                have hw220_0 := hx220_0
                cases e220
                replace hx220_0 := (HB.out.cell (World.block_lt_of_cell? w _ hx220_0)).trans hx220_0
                replace hx220_1 := (HB.out.cell (World.block_lt_of_cell? w _ hx220_1)).trans hx220_1
                replace hx220_2 := (HB.out.cell (World.block_lt_of_cell? w _ hx220_2)).trans hx220_2
                have HR220_2 := Aside0.mk hi220_2
                have HC220_2 := Aside0.mk hl220_2
                clear hi220_2 hl220_2
                replace p220 := eq_true p220
                replace q220 := eq_true q220
                refine start_ (n := 10) (S := fun w' => w'.cell? (ad219.add ((x5_1).toNat * 3)) = some (.int .i64 ((rd_T65 l0 x5_1).f0)) ∧ w'.cell? ⟨(ad219.add ((x5_1).toNat * 3)).block, (ad219.add ((x5_1).toNat * 3)).off + 1, none⟩ = some (.int .i64 ((rd_T65 l0 x5_1).f1)) ∧ w'.cell? ⟨(ad219.add ((x5_1).toNat * 3)).block, (ad219.add ((x5_1).toNat * 3)).off + 2, none⟩ = some (.slice A219_2 ((rd_T65 l0 x5_1).f2).length c219_2) ∧ w'.cell? (ad220.add ((x5_1).toNat * 3)) = some (.int .i64 ((rd_T65 l1 x5_1).f0)) ∧ w'.cell? ⟨(ad220.add ((x5_1).toNat * 3)).block, (ad220.add ((x5_1).toNat * 3)).off + 1, none⟩ = some (.int .i64 ((rd_T65 l1 x5_1).f1)) ∧ w'.cell? ⟨(ad220.add ((x5_1).toNat * 3)).block, (ad220.add ((x5_1).toNat * 3)).off + 2, none⟩ = some (.slice A220_2 ((rd_T65 l1 x5_1).f2).length c220_2)) (ds := []) #[false, false, false, false, false, false, false, false, false, false] (by kernel_rfl) rfl rfl ⟨((HB.out.cell (World.block_lt_of_cell? w _ hw219_0)).trans hw219_0), ((HB.out.cell (World.block_lt_of_cell? w _ hw219_1)).trans hw219_1), ((HB.out.cell (World.block_lt_of_cell? w _ hw219_2)).trans hw219_2), ((HB.out.cell (World.block_lt_of_cell? w _ hw220_0)).trans hw220_0), ((HB.out.cell (World.block_lt_of_cell? w _ hw220_1)).trans hw220_1), ((HB.out.cell (World.block_lt_of_cell? w _ hw220_2)).trans hw220_2)⟩ (fun hHeld => ?_); refine with_tabW wagtailref43_Same.tab6 wagtailref43_Same.bits6 (fun HT_ HW_ => ?_)
                generalize wr.drew = w11 at HB HR219_2 HR220_2 hx219_0 hx219_1 hx219_2 hx220_0 hx220_1 hx220_2 hHeld ⊢
                refine pure_ (i := 0) (N := some 17) (v := ?_) (a' := ?_) #[true, false, false, false, false, false, false, false, false, false] rfl rfl (any_of HT_.out (by kernel_rfl)) (fun _ _ _ h => h) (Or.inl ⟨by rfl, ?_⟩) ?_ ?_
                rotate_left
                · intro w'
                  go_simp
                  with_reducible rfl
                rotate_left
                · simp only [Act.put, List.setIfInBounds_toArray, List.set_cons_zero, List.set_cons_succ, i64_w, i32_w]
                  rfl
                refine pure_ (i := 1) (N := some 18) (v := ?_) (a' := ?_) #[true, true, false, false, false, false, false, false, false, false] rfl rfl (any_of HT_.out (by kernel_rfl)) (fun _ _ _ h => h) (Or.inl ⟨by rfl, ?_⟩) ?_ ?_
                rotate_left
                · intro w'
                  go_simp
                  with_reducible rfl
                rotate_left
                · simp only [Act.put, List.setIfInBounds_toArray, List.set_cons_zero, List.set_cons_succ, i64_w, i32_w]
                  rfl
                refine pure_ (i := 2) (N := some 19) (v := ?_) (a' := ?_) #[true, true, true, false, false, false, false, false, false, false] rfl rfl (any_of HT_.out (by kernel_rfl)) (fun _ _ _ h => h) (Or.inl ⟨by rfl, ?_⟩) ?_ ?_
                rotate_left
                · intro w'
                  go_simp
                  with_reducible rfl
                rotate_left
                · simp only [Act.put, List.setIfInBounds_toArray, List.set_cons_zero, List.set_cons_succ, i64_w, i32_w]
                  rfl
                refine pure_ (i := 4) (N := some 21) (v := ?_) (a' := ?_) #[true, true, true, false, true, false, false, false, false, false] rfl rfl (any_of HT_.out (by kernel_rfl)) (fun _ _ _ h => h) (Or.inl ⟨by rfl, ?_⟩) ?_ ?_
                rotate_left
                · intro w'
                  go_simp
                  with_reducible rfl
                rotate_left
                · simp only [Act.put, List.setIfInBounds_toArray, List.set_cons_zero, List.set_cons_succ, i64_w, i32_w]
                  rfl
                refine pure_ (i := 5) (N := some 22) (v := ?_) (a' := ?_) #[true, true, true, false, true, true, false, false, false, false] rfl rfl (any_of HT_.out (by kernel_rfl)) (fun _ _ _ h => h) (Or.inl ⟨by rfl, ?_⟩) ?_ ?_
                rotate_left
                · intro w'
                  go_simp
                  with_reducible rfl
                rotate_left
                · simp only [Act.put, List.setIfInBounds_toArray, List.set_cons_zero, List.set_cons_succ, i64_w, i32_w]
                  rfl
                refine pure_ (i := 6) (N := some 23) (v := ?_) (a' := ?_) #[true, true, true, false, true, true, true, false, false, false] rfl rfl (any_of HT_.out (by kernel_rfl)) (fun _ _ _ h => h) (Or.inl ⟨by rfl, ?_⟩) ?_ ?_
                rotate_left
                · intro w'
                  go_simp
                  with_reducible rfl
                rotate_left
                · simp only [Act.put, List.setIfInBounds_toArray, List.set_cons_zero, List.set_cons_succ, i64_w, i32_w]
                  rfl
                refine take_ (i := 3) (N := some 20) (v := ?_) (a' := ?_) #[true, true, true, true, true, true, true, false, false, false] rfl rfl (take_ofW HT_.out HW_.out (by kernel_rfl)) (fun _ _ _ h => h) (Or.inl ⟨by rfl, ?_⟩) hHeld ?_ ?_
                rotate_left
                · rintro w' ⟨s0, s1, s2, s3, s4, s5⟩
                  go_simp
                  with_reducible rfl
                rotate_left
                · simp only [Act.put, List.setIfInBounds_toArray, List.set_cons_zero, List.set_cons_succ, i64_w, i32_w]
                  rfl
                refine take_ (i := 7) (N := some 24) (v := ?_) (a' := ?_) #[true, true, true, true, true, true, true, true, false, false] rfl rfl (take_ofW HT_.out HW_.out (by kernel_rfl)) (fun _ _ _ h => h) (Or.inl ⟨by rfl, ?_⟩) hHeld ?_ ?_
                rotate_left
                · rintro w' ⟨s0, s1, s2, s3, s4, s5⟩
                  go_simp
                  with_reducible rfl
                rotate_left
                · simp only [Act.put, List.setIfInBounds_toArray, List.set_cons_zero, List.set_cons_succ, i64_w, i32_w]
                  rfl
                refine one_ (i := 8) (N := some 25) #[true, true, true, true, true, true, true, true, true, false] rfl rfl (one_of HT_.out (by kernel_rfl)) (by decide) (fun K hK => ?_)
                refine goes_ Try.func37 (by kernel_rfl) rfl #[.agg #[.int .i64 ((rd_T65 l0 x5_1).f0), .int .i64 ((rd_T65 l0 x5_1).f1), .slice A219_2 ((rd_T65 l0 x5_1).f2).length c219_2], .agg #[.int .i64 ((rd_T65 l1 x5_1).f0), .int .i64 ((rd_T65 l1 x5_1).f1), .slice A220_2 ((rd_T65 l1 x5_1).f2).length c220_2]] (by rfl) rfl rfl (by (try simp only [List.map_toArray, List.map_cons, List.map_nil]); first | done | rfl | (simp only [List.length_drop, List.length_take]; rfl)) ?_
                with_reducible refine (wagtailref43_One.calls ((rd_T65 l0 x5_1).f0) ((rd_T65 l0 x5_1).f1) _ _ ((rd_T65 l0 x5_1).f2) ((rd_T65 l1 x5_1).f0) ((rd_T65 l1 x5_1).f1) _ _ ((rd_T65 l1 x5_1).f2) false _ ?side1 ?side2 ?side3 ?side4 A7.out).mono ?_
                (case side1 => repeat (first | exact (Kd.C_below HR219_2.out HB.out) | (with_reducible refine Kd.C_alloc ?_ _) | (with_reducible refine Kd.C_drewN ?_ _) | (with_reducible refine Kd.C_drew ?_)))
                (case side2 => exact HC219_2.out)
                (case side3 => repeat (first | exact (Kd.C_below HR220_2.out HB.out) | (with_reducible refine Kd.C_alloc ?_ _) | (with_reducible refine Kd.C_drewN ?_ _) | (with_reducible refine Kd.C_drew ?_)))
                (case side4 => exact HC220_2.out)
                rintro e w12 ⟨rfl, hb⟩
                refine ⟨_, rfl, ?_⟩
                have n0_ := Aside0.mk (below_step (by repeat (first | (with_reducible first | exact HB.out | apply below_alloc | apply pw_below_drewN | apply below_drew1) | exact HB.out)) hb)
                clear HB
                have HB := n0_
                clear n0_
                (try clear hb)
                (try clear hb2)
                (try clear hk)
                (try clear hi)
                refine hK.out _ _ ⟨((HB.out.cell (World.block_lt_of_cell? w _ hw219_0)).trans hw219_0), ((HB.out.cell (World.block_lt_of_cell? w _ hw219_1)).trans hw219_1), ((HB.out.cell (World.block_lt_of_cell? w _ hw219_2)).trans hw219_2), ((HB.out.cell (World.block_lt_of_cell? w _ hw220_0)).trans hw220_0), ((HB.out.cell (World.block_lt_of_cell? w _ hw220_1)).trans hw220_1), ((HB.out.cell (World.block_lt_of_cell? w _ hw220_2)).trans hw220_2)⟩ (fun hHeld => ?_)
                clear hK K
                refine norm_ (a' := ?_) ?_ ?_
                rotate_left
                · show Act.put _ (some 25) _ = _
                  simp only [Act.put, List.setIfInBounds_toArray, List.set_cons_zero, List.set_cons_succ, i64_w, i32_w]
                  rfl
                refine pure_ (i := 9) (N := some 26) (v := ?_) (a' := ?_) #[true, true, true, true, true, true, true, true, true, true] rfl rfl (any_of HT_.out (by kernel_rfl)) (fun _ _ _ h => h) (Or.inl ⟨by rfl, ?_⟩) ?_ ?_
                rotate_left
                · intro w'
                  go_simp
                  with_reducible rfl
                rotate_left
                · simp only [Act.put, List.setIfInBounds_toArray, List.set_cons_zero, List.set_cons_succ, i64_w, i32_w]
                  rfl
                refine done_ (done_of HT_.out (by kernel_rfl)) ?_
                try go_wp2
                go_ret
                exact ⟨by first | rfl | (simp [errW_none, errW_some] <;> rfl) | (simp [*, errW_none, errW_some] <;> rfl), by repeat (first | (with_reducible first | exact HB.out | apply below_alloc | apply pw_below_drewN | apply below_drew1) | exact HB.out)⟩
            · rw [if_neg c6] at H
              exact absurd H (by simp)
          · rw [if_neg c5] at H
            exact absurd H (by simp)
        · rw [if_neg c4] at H
          have c4b0 : decide (x5_1 < (l0.length : Int)) = false := decide_eq_false c4
          clear c4
          obtain rfl := Option.some.inj H
          go_wp2
          go_ret
          exact ⟨by first | rfl | (simp [errW_none, errW_some] <;> rfl) | (simp [*, errW_none, errW_some] <;> rfl), by repeat (first | (with_reducible first | exact HB.out | apply below_alloc | apply pw_below_drewN | apply below_drew1) | exact HB.out)⟩
  · rw [if_neg c3] at H
    have c3b0 : ((l0.length : Int) == (l1.length : Int)) = false := beq_eq_false_iff_ne.mpr c3
    have c3b1 : ((l0.length : Int) != (l1.length : Int)) = true := bne_iff_ne.mpr c3
    have c3b2 : (l0.length == l1.length) = false := by first | simpa using c3 | (simp at c3 ⊢; omega)
    obtain rfl := Option.some.inj H
    go_enter Try.func39, Try.ntmps39
    go_wp2
    go_ret
    exact ⟨by first | rfl | (simp [errW_none, errW_some] <;> rfl) | (simp [*, errW_none, errW_some] <;> rfl), by repeat (first | (with_reducible first | exact HB.out | apply below_alloc | apply pw_below_drewN | apply below_drew1) | exact HB.out)⟩
def cmp_isNaN_int.f (a0 : Int) : Option (Bool) := some (a0 != a0)
set_option maxHeartbeats 8000000 in
set_option maxRecDepth 100000 in
theorem cmp_isNaN_int.calls (a0 : Int) (r : Bool) (w : World) (h : cmp_isNaN_int.f a0 = some r) :
    Calls Try.prog 108 #[.int .i64 a0] w fun e w' => e = .returned (.bool r) ∧ Drawn0 w w' := by
  have H : (some (a0 != a0)) = some r := h
  clear h
  obtain rfl := Option.some.inj H
  go_enter Try.func108, Try.ntmps108
  go_wp2
  go_ret
  exact ⟨by first | rfl | (simp; done) | (simp [*]; done), by repeat (first | exact Drawn0.refl _ | apply Drawn0.step)⟩
def cmp_Compare_int.f (a0 : Int) (a1 : Int) : Option (Int) := (cmp_isNaN_int.f a0).bind fun t222 => ((cmp_isNaN_int.f a1).bind fun t223 => (if t222 = true then (if t223 = true then (some 0) else (some (-1))) else (if t223 = true then (some 1) else (if a0 < a1 then (some (-1)) else (if a0 > a1 then (some 1) else (some 0))))))
set_option maxHeartbeats 8000000 in
set_option maxRecDepth 100000 in
theorem cmp_Compare_int.calls (a0 : Int) (a1 : Int) (r : Int) (w : World) (h : cmp_Compare_int.f a0 a1 = some r) :
    Calls Try.prog 86 #[.int .i64 a0, .int .i64 a1] w fun e w' => e = .returned (.int .i64 r) ∧ Drawn0 w w' := by
  have H : ((cmp_isNaN_int.f a0).bind fun t222 => ((cmp_isNaN_int.f a1).bind fun t223 => (if t222 = true then (if t223 = true then (some 0) else (some (-1))) else (if t223 = true then (some 1) else (if a0 < a1 then (some (-1)) else (if a0 > a1 then (some 1) else (some 0))))))) = some r := h
  clear h
  replace H := Option.bind_eq_some_iff.mp H
  obtain ⟨t222, A30, H⟩ := H
  replace H : ((cmp_isNaN_int.f a1).bind fun t223 => (if t222 = true then (if t223 = true then (some 0) else (some (-1))) else (if t223 = true then (some 1) else (if a0 < a1 then (some (-1)) else (if a0 > a1 then (some 1) else (some 0)))))) = some r := H
  have A3 := Aside0.mk A30
  clear A30
  replace H := Option.bind_eq_some_iff.mp H
  obtain ⟨t223, A40, H⟩ := H
  replace H : (if t222 = true then (if t223 = true then (some 0) else (some (-1))) else (if t223 = true then (some 1) else (if a0 < a1 then (some (-1)) else (if a0 > a1 then (some 1) else (some 0))))) = some r := H
  have A4 := Aside0.mk A40
  clear A40
  by_cases c5 : t222 = true
  · subst c5
    have H1 : (if t223 = true then (some 0) else (some (-1))) = some r := by rw [if_pos rfl] at H; exact H
    clear H
    have H := H1
    clear H1
    by_cases c6 : t223 = true
    · subst c6
      have H1 : (some 0) = some r := by rw [if_pos rfl] at H; exact H
      clear H
      have H := H1
      clear H1
      obtain rfl := Option.some.inj H
      go_enter Try.func86, Try.ntmps86
      go_wp2_with (first | ((with_reducible refine gate_callee (f := 108) rfl ?_); refine goesL_ (some 8) rfl rfl Try.func108 (by kernel_rfl) rfl #[.int .i64 a0] rfl (by (try simp only [List.map_toArray, List.map_cons, List.map_nil]); first | done | rfl | (simp only [List.length_drop, List.length_take]; rfl)) ?_; (with_reducible refine (cmp_isNaN_int.calls a0 true _ A3.out).mono ?_); rintro e w' ⟨rfl, ⟨nd, rfl⟩⟩; refine ⟨_, rfl, ?_⟩) | ((with_reducible refine gate_callee (f := 108) rfl ?_); refine goesL_ (some 10) rfl rfl Try.func108 (by kernel_rfl) rfl #[.int .i64 a1] rfl (by (try simp only [List.map_toArray, List.map_cons, List.map_nil]); first | done | rfl | (simp only [List.length_drop, List.length_take]; rfl)) ?_; (with_reducible refine (cmp_isNaN_int.calls a1 true _ A4.out).mono ?_); rintro e w' ⟨rfl, ⟨nd, rfl⟩⟩; refine ⟨_, rfl, ?_⟩))
      go_ret
      exact ⟨by first | rfl | (simp; done) | (simp [*]; done), by repeat (first | exact Drawn0.refl _ | apply Drawn0.step)⟩
    · replace c6 := Bool.eq_false_iff.mpr c6
      subst c6
      have H1 : (some (-1)) = some r := by rw [if_neg (show ¬ (false = true) by decide)] at H; exact H
      clear H
      have H := H1
      clear H1
      obtain rfl := Option.some.inj H
      go_enter Try.func86, Try.ntmps86
      go_wp2_with (first | ((with_reducible refine gate_callee (f := 108) rfl ?_); refine goesL_ (some 8) rfl rfl Try.func108 (by kernel_rfl) rfl #[.int .i64 a0] rfl (by (try simp only [List.map_toArray, List.map_cons, List.map_nil]); first | done | rfl | (simp only [List.length_drop, List.length_take]; rfl)) ?_; (with_reducible refine (cmp_isNaN_int.calls a0 true _ A3.out).mono ?_); rintro e w' ⟨rfl, ⟨nd, rfl⟩⟩; refine ⟨_, rfl, ?_⟩) | ((with_reducible refine gate_callee (f := 108) rfl ?_); refine goesL_ (some 10) rfl rfl Try.func108 (by kernel_rfl) rfl #[.int .i64 a1] rfl (by (try simp only [List.map_toArray, List.map_cons, List.map_nil]); first | done | rfl | (simp only [List.length_drop, List.length_take]; rfl)) ?_; (with_reducible refine (cmp_isNaN_int.calls a1 false _ A4.out).mono ?_); rintro e w' ⟨rfl, ⟨nd, rfl⟩⟩; refine ⟨_, rfl, ?_⟩))
      go_ret
      exact ⟨by first | rfl | (simp; done) | (simp [*]; done), by repeat (first | exact Drawn0.refl _ | apply Drawn0.step)⟩
  · replace c5 := Bool.eq_false_iff.mpr c5
    subst c5
    have H1 : (if t223 = true then (some 1) else (if a0 < a1 then (some (-1)) else (if a0 > a1 then (some 1) else (some 0)))) = some r := by rw [if_neg (show ¬ (false = true) by decide)] at H; exact H
    clear H
    have H := H1
    clear H1
    by_cases c7 : t223 = true
    · subst c7
      have H1 : (some 1) = some r := by rw [if_pos rfl] at H; exact H
      clear H
      have H := H1
      clear H1
      obtain rfl := Option.some.inj H
      go_enter Try.func86, Try.ntmps86
      go_wp2_with (first | ((with_reducible refine gate_callee (f := 108) rfl ?_); refine goesL_ (some 8) rfl rfl Try.func108 (by kernel_rfl) rfl #[.int .i64 a0] rfl (by (try simp only [List.map_toArray, List.map_cons, List.map_nil]); first | done | rfl | (simp only [List.length_drop, List.length_take]; rfl)) ?_; (with_reducible refine (cmp_isNaN_int.calls a0 false _ A3.out).mono ?_); rintro e w' ⟨rfl, ⟨nd, rfl⟩⟩; refine ⟨_, rfl, ?_⟩) | ((with_reducible refine gate_callee (f := 108) rfl ?_); refine goesL_ (some 10) rfl rfl Try.func108 (by kernel_rfl) rfl #[.int .i64 a1] rfl (by (try simp only [List.map_toArray, List.map_cons, List.map_nil]); first | done | rfl | (simp only [List.length_drop, List.length_take]; rfl)) ?_; (with_reducible refine (cmp_isNaN_int.calls a1 true _ A4.out).mono ?_); rintro e w' ⟨rfl, ⟨nd, rfl⟩⟩; refine ⟨_, rfl, ?_⟩))
      go_ret
      exact ⟨by first | rfl | (simp; done) | (simp [*]; done), by repeat (first | exact Drawn0.refl _ | apply Drawn0.step)⟩
    · replace c7 := Bool.eq_false_iff.mpr c7
      subst c7
      have H1 : (if a0 < a1 then (some (-1)) else (if a0 > a1 then (some 1) else (some 0))) = some r := by rw [if_neg (show ¬ (false = true) by decide)] at H; exact H
      clear H
      have H := H1
      clear H1
      by_cases c8 : a0 < a1
      · rw [if_pos c8] at H
        have c8b0 : decide (a0 < a1) = true := decide_eq_true c8
        clear c8
        obtain rfl := Option.some.inj H
        go_enter Try.func86, Try.ntmps86
        go_wp2_with (first | ((with_reducible refine gate_callee (f := 108) rfl ?_); refine goesL_ (some 8) rfl rfl Try.func108 (by kernel_rfl) rfl #[.int .i64 a0] rfl (by (try simp only [List.map_toArray, List.map_cons, List.map_nil]); first | done | rfl | (simp only [List.length_drop, List.length_take]; rfl)) ?_; (with_reducible refine (cmp_isNaN_int.calls a0 false _ A3.out).mono ?_); rintro e w' ⟨rfl, ⟨nd, rfl⟩⟩; refine ⟨_, rfl, ?_⟩) | ((with_reducible refine gate_callee (f := 108) rfl ?_); refine goesL_ (some 10) rfl rfl Try.func108 (by kernel_rfl) rfl #[.int .i64 a1] rfl (by (try simp only [List.map_toArray, List.map_cons, List.map_nil]); first | done | rfl | (simp only [List.length_drop, List.length_take]; rfl)) ?_; (with_reducible refine (cmp_isNaN_int.calls a1 false _ A4.out).mono ?_); rintro e w' ⟨rfl, ⟨nd, rfl⟩⟩; refine ⟨_, rfl, ?_⟩))
        go_ret
        exact ⟨by first | rfl | (simp; done) | (simp [*]; done), by repeat (first | exact Drawn0.refl _ | apply Drawn0.step)⟩
      · rw [if_neg c8] at H
        have c8b0 : decide (a0 < a1) = false := decide_eq_false c8
        clear c8
        by_cases c9 : a0 > a1
        · rw [if_pos c9] at H
          have c9b0 : decide (a1 < a0) = true := decide_eq_true c9
          clear c9
          obtain rfl := Option.some.inj H
          go_enter Try.func86, Try.ntmps86
          go_wp2_with (first | ((with_reducible refine gate_callee (f := 108) rfl ?_); refine goesL_ (some 8) rfl rfl Try.func108 (by kernel_rfl) rfl #[.int .i64 a0] rfl (by (try simp only [List.map_toArray, List.map_cons, List.map_nil]); first | done | rfl | (simp only [List.length_drop, List.length_take]; rfl)) ?_; (with_reducible refine (cmp_isNaN_int.calls a0 false _ A3.out).mono ?_); rintro e w' ⟨rfl, ⟨nd, rfl⟩⟩; refine ⟨_, rfl, ?_⟩) | ((with_reducible refine gate_callee (f := 108) rfl ?_); refine goesL_ (some 10) rfl rfl Try.func108 (by kernel_rfl) rfl #[.int .i64 a1] rfl (by (try simp only [List.map_toArray, List.map_cons, List.map_nil]); first | done | rfl | (simp only [List.length_drop, List.length_take]; rfl)) ?_; (with_reducible refine (cmp_isNaN_int.calls a1 false _ A4.out).mono ?_); rintro e w' ⟨rfl, ⟨nd, rfl⟩⟩; refine ⟨_, rfl, ?_⟩))
          go_ret
          exact ⟨by first | rfl | (simp; done) | (simp [*]; done), by repeat (first | exact Drawn0.refl _ | apply Drawn0.step)⟩
        · rw [if_neg c9] at H
          have c9b0 : decide (a1 < a0) = false := decide_eq_false c9
          clear c9
          obtain rfl := Option.some.inj H
          go_enter Try.func86, Try.ntmps86
          go_wp2_with (first | ((with_reducible refine gate_callee (f := 108) rfl ?_); refine goesL_ (some 8) rfl rfl Try.func108 (by kernel_rfl) rfl #[.int .i64 a0] rfl (by (try simp only [List.map_toArray, List.map_cons, List.map_nil]); first | done | rfl | (simp only [List.length_drop, List.length_take]; rfl)) ?_; (with_reducible refine (cmp_isNaN_int.calls a0 false _ A3.out).mono ?_); rintro e w' ⟨rfl, ⟨nd, rfl⟩⟩; refine ⟨_, rfl, ?_⟩) | ((with_reducible refine gate_callee (f := 108) rfl ?_); refine goesL_ (some 10) rfl rfl Try.func108 (by kernel_rfl) rfl #[.int .i64 a1] rfl (by (try simp only [List.map_toArray, List.map_cons, List.map_nil]); first | done | rfl | (simp only [List.length_drop, List.length_take]; rfl)) ?_; (with_reducible refine (cmp_isNaN_int.calls a1 false _ A4.out).mono ?_); rintro e w' ⟨rfl, ⟨nd, rfl⟩⟩; refine ⟨_, rfl, ?_⟩))
          go_ret
          exact ⟨by first | rfl | (simp; done) | (simp [*]; done), by repeat (first | exact Drawn0.refl _ | apply Drawn0.step)⟩
end Go.Proofs.Ytnchdmidaigheaa.Hp
namespace Go.Proofs.Ytnchdmidaigheaa.QS
set_option linter.unusedVariables false
set_option linter.unusedSimpArgs false
open Go.RowKit Go.Proofs.Ytnchdmidaigheaa.SS Go.Proofs.Ytnchdmidaigheaa.Hp Go.Proofs.YtnchdmidaigheaaW.PrintWords Go.Proofs.YtnchdmidaigheaaW.PrintLast Go.Proofs.YtnchdmidaigheaaW.PrintMore
def kindB (k : Int) : Bool := k == 1 || k == 2
theorem kind_calls (a : Int) (w : World) : Calls Try.prog 82 #[.int .i64 a] w fun e w' => e = .returned (.bool (kindB a)) ∧ Drawn0 w w' := by
  refine damage_kind.calls a _ w ?_
  unfold damage_kind.f kindB
  by_cases h : a = 1
  · rw [if_pos h]; simp [h]
  · rw [if_neg h]; simp [h]
set_option maxHeartbeats 2000000 in
set_option maxRecDepth 100000 in
theorem all_fn (x : R0) (Ap : Option Addr) (cpp : Nat) (W : World) : Calls Try.prog 83 (#[.agg #[.int .i64 x.f0, .int .i64 x.f1, .slice Ap x.f2.length cpp]] ++ #[]) W fun e w' => e = .returned (.bool true) ∧ Below W.heap.size W w' := by
  have hb := Aside0.mk (below_alloc (Below.refl W.heap.size W) (.cells #[.int .i64 x.f0, .int .i64 x.f1, .slice Ap x.f2.length cpp] 65))
  show Calls Try.prog 83 #[.agg #[.int .i64 x.f0, .int .i64 x.f1, .slice Ap x.f2.length cpp]] W _
  go_enter Try.func83, Try.ntmps83
  go_wp2_with fail
  go_ret
  exact ⟨rfl, hb.out⟩
set_option maxHeartbeats 2000000 in
set_option maxRecDepth 100000 in
theorem count_fn {g : Nat} {k : Int} (x : R0) (Ap : Option Addr) (cpp : Nat) (W : World) (hc : W.cell? ⟨g, 0, none⟩ = some (.int .i64 k)) : Calls Try.prog 87 (#[.agg #[.int .i64 x.f0, .int .i64 x.f1, .slice Ap x.f2.length cpp]] ++ #[.pointer (some ⟨g, 0, none⟩)]) W fun e w' => e = .returned (.bool (x.f1 == k)) ∧ Below W.heap.size W w' := by
  have hz := heap_alloc_new W (.cells #[.int .i64 x.f0, .int .i64 x.f1, .slice Ap x.f2.length cpp] 65)
  have hb := below_alloc (Below.refl W.heap.size W) (.cells #[.int .i64 x.f0, .int .i64 x.f1, .slice Ap x.f2.length cpp] 65)
  have hk := (hb.cell (World.block_lt_of_cell? W _ hc)).trans hc
  obtain ⟨g2, hg2⟩ : ∃ g, g = W.heap.size := ⟨_, rfl⟩
  show Calls Try.prog 87 #[.agg #[.int .i64 x.f0, .int .i64 x.f1, .slice Ap x.f2.length cpp], .pointer (some ⟨g, 0, none⟩)] W _
  clear hc
  go_enter Try.func87, Try.ntmps87
  go_upto_region 1 with fail
  generalize W.alloc (.cells #[.int .i64 x.f0, .int .i64 x.f1, .slice Ap x.f2.length cpp] 65) = W1 at hz hb hk ⊢
  rw [← hg2] at hz ⊢
  have HB := Aside0.mk hb
  have c1 := blk_cell hz 1
  clear hz hb hg2
  go_wp2_with fail
  go_ret
  exact ⟨rfl, HB.out⟩
set_option maxHeartbeats 2000000 in
set_option maxRecDepth 100000 in
theorem at_fn {g : Nat} {op : Int} (x : R0) (Ap : Option Addr) (cpp : Nat) (W : World) (hc : W.cell? ⟨g, 0, none⟩ = some (.int .i64 op)) : Calls Try.prog 81 (#[.agg #[.int .i64 x.f0, .int .i64 x.f1, .slice Ap x.f2.length cpp]] ++ #[.pointer (some ⟨g, 0, none⟩)]) W fun e w' => e = .returned (.bool (x.f0 == op && kindB x.f1)) ∧ Below W.heap.size W w' := by
  have hz := heap_alloc_new W (.cells #[.int .i64 x.f0, .int .i64 x.f1, .slice Ap x.f2.length cpp] 65)
  have hb := below_alloc (Below.refl W.heap.size W) (.cells #[.int .i64 x.f0, .int .i64 x.f1, .slice Ap x.f2.length cpp] 65)
  have hk := (hb.cell (World.block_lt_of_cell? W _ hc)).trans hc
  obtain ⟨g2, hg2⟩ : ∃ g, g = W.heap.size := ⟨_, rfl⟩
  show Calls Try.prog 81 #[.agg #[.int .i64 x.f0, .int .i64 x.f1, .slice Ap x.f2.length cpp], .pointer (some ⟨g, 0, none⟩)] W _
  clear hc
  cases ho : (x.f0 == op) with
  | false =>
    go_enter Try.func81, Try.ntmps81
    go_upto_region 1 with fail
    generalize W.alloc (.cells #[.int .i64 x.f0, .int .i64 x.f1, .slice Ap x.f2.length cpp] 65) = W1 at hz hb hk ⊢
    rw [← hg2] at hz ⊢
    have HB := Aside0.mk hb
    have c0 := blk_cell hz 0
    have c1 := blk_cell hz 1
    clear hz hb hg2
    go_wp2_with fail
    go_ret
    exact ⟨rfl, HB.out⟩
  | true =>
    go_enter Try.func81, Try.ntmps81
    go_upto_region 1 with fail
    generalize W.alloc (.cells #[.int .i64 x.f0, .int .i64 x.f1, .slice Ap x.f2.length cpp] 65) = W1 at hz hb hk ⊢
    rw [← hg2] at hz ⊢
    have HB := Aside0.mk hb
    have HKC := Aside0.mk (kind_calls x.f1)
    have c0 := blk_cell hz 0
    have c1 := blk_cell hz 1
    clear hz hb hg2
    go_wp2_with (go_at_call 82; refine (HKC.out _).mono ?_; rintro e w2 ⟨rfl, hd⟩; have HB2 := Aside0.mk (below_then HB.out HB.out.size hd.below); clear hd)
    go_ret
    exact ⟨by rw [Bool.true_and]; rfl, HB2.out⟩
def lightF (l : List R0) : Prop := l.length ≤ 1000 ∧ ∀ x ∈ l, x.f2.length ≤ 1000
set_option maxHeartbeats 2000000 in
set_option maxRecDepth 100000 in
theorem count_calls (l : List R0) (A : Option Addr) (cp : Nat) (k : Int) (w : World) (hl : lightF l) (hC : Kd.C k65 w A l.length l) :
    Calls Try.prog 42 #[.slice A l.length cp, .int .i64 k] w fun e w' => e = .returned (.int .i64 ((l.filter fun x => x.f1 == k).length : Int)) ∧ Below w.heap.size w w' := by
  have hz := heap_alloc_new w (.cells #[.int .i64 k] 3)
  have hb := below_alloc (Below.refl w.heap.size w) (.cells #[.int .i64 k] 3)
  obtain ⟨g, hg⟩ : ∃ g, g = w.heap.size := ⟨_, rfl⟩
  have HL := Aside0.mk hl
  have HC1 := Aside0.mk (Kd.C_below hC hb)
  clear hl hC
  go_enter Try.func42, Try.ntmps42
  go_upto_region 1 with fail
  generalize w.alloc (.cells #[.int .i64 k] 3) = W1 at hz hb HC1 ⊢
  rw [← hg] at hz ⊢
  have HB := Aside0.mk hb
  have HSC := Aside0.mk (some_calls 87 Try.f87 #[.pointer (some ⟨g, 0, none⟩)] (by kernel_rfl) rfl rfl (fun x => x.f1 == k) l A cp W1 HL.out.1 HL.out.2 HC1.out (fun W hW x Ap cpp => count_fn x Ap cpp W (blk_cell (blk_below hz hW) 0)))
  clear hz hb hg
  go_wp2_with (go_at_call 80; refine HSC.out.mono ?_; rintro e w2 ⟨v, rfl, hR, hb⟩; obtain ⟨A2, c2, rfl⟩ := Kd.R_slice hR; have HB2 := Aside0.mk (below_then HB.out HB.out.size hb); clear hb hR)
  go_ret
  exact ⟨rfl, HB2.out⟩
end Go.Proofs.Ytnchdmidaigheaa.QS
namespace Go.Proofs.Ytnchdmidaigheaa.QS
set_option linter.unusedVariables false
set_option linter.unusedSimpArgs false
open Go.RowKit Go.Proofs.Ytnchdmidaigheaa.SS Go.Proofs.Ytnchdmidaigheaa.Hp Go.Proofs.YtnchdmidaigheaaW.PrintWords Go.Proofs.YtnchdmidaigheaaW.PrintLast Go.Proofs.YtnchdmidaigheaaW.PrintMore
theorem results_ct {P : Program} {fn : Func} {p q : Tmp} {ty : TypeId} (h : fn.results = #[.cell p ty, .tmp q]) (tmps : Array Value) (w : World) (g : Nat) (t : TypeId) (cs : Array Value) (fr : Nat × Nat) (d : TypeDesc) (v : Value)
    (hp : tmps.getD p undef = .pointer (some ⟨g, 0, none⟩)) (hq : tmps.getD q undef = v) (hg : w.heap[g]? = some (.cells cs t fr))
    (hu : P.underlying ty = some d) (hd : (match d with | .struct _ | .array _ _ => true | _ => false) = true) (hi : (P.info? ty).map (·.size) = some cs.size) :
    (results fn tmps).run P w = .ok (.tuple #[.agg cs, v]) w := by
  have hp' : tmps[p]?.getD undef = .pointer (some ⟨g, 0, none⟩) := by simpa using hp
  have hq' : tmps[q]?.getD undef = v := by simpa using hq
  simp [results, h, hp', hq', asAddr, run_loadVar_row w g t ty cs fr d hg hu hd hi]
def atOf (l : List R0) (op : Int) : R0 × Bool := match l.filter (fun x => x.f0 == op && kindB x.f1) with
  | [] => (⟨0, 0, []⟩, false)
  | x :: _ => (x, true)
def AtTo (w w' : World) (e : Ending) (r : R0 × Bool) : Prop := ∃ A c, e = .returned (.tuple #[.agg #[.int .i64 r.1.f0, .int .i64 r.1.f1, .slice A r.1.f2.length c], .bool r.2]) ∧ r.1.f2.length ≤ c ∧ Kd.C (Kd.int .u8) w' A r.1.f2.length r.1.f2 ∧ Below w.heap.size w w'
set_option maxHeartbeats 4000000 in
set_option maxRecDepth 100000 in
theorem at_calls (l : List R0) (A : Option Addr) (cp : Nat) (op : Int) (w : World) (hl : lightF l) (hC : Kd.C k65 w A l.length l) :
    Calls Try.prog 35 #[.slice A l.length cp, .int .i64 op] w fun e w' => AtTo w w' e (atOf l op) := by
  have hz1 := heap_alloc_new w (.cells #[.int .i64 op] 3)
  have hb1 := below_alloc (Below.refl w.heap.size w) (.cells #[.int .i64 op] 3)
  have hz2 := heap_alloc_new (w.alloc (.cells #[.int .i64 op] 3)) (.cells #[.int .i64 0, .int .i64 0, .slice none 0 0] 65)
  have hz1' := blk_below hz1 (below_alloc (Below.refl _ _) (.cells #[.int .i64 0, .int .i64 0, .slice none 0 0] 65))
  have hb2 := below_alloc hb1 (.cells #[.int .i64 0, .int .i64 0, .slice none 0 0] 65)
  have hsz : (w.alloc (.cells #[.int .i64 op] 3)).heap.size = w.heap.size + 1 := by simp
  rw [hsz] at hz2
  obtain ⟨g, hg⟩ : ∃ g, g = w.heap.size := ⟨_, rfl⟩
  have HL := Aside0.mk hl
  have HC1 := Aside0.mk (Kd.C_below hC hb2)
  unfold atOf
  obtain ⟨o, ho⟩ : ∃ o, o = l.filter (fun x => x.f0 == op && kindB x.f1) := ⟨_, rfl⟩
  rw [← ho]
  replace ho := Aside0.mk ho
  clear hl hC
  go_enter Try.func35, Try.ntmps35
  go_upto_region 1 with fail
  generalize (w.alloc (.cells #[.int .i64 op] 3)).alloc (.cells #[.int .i64 0, .int .i64 0, .slice none 0 0] 65) = W1 at hz1' hz2 hb2 HC1 ⊢
  clear hz1 hb1 hsz
  rw [← hg] at hz1' hz2 ⊢
  have HG := Aside0.mk hg
  have HB := Aside0.mk (show Below w.heap.size w W1 from hb2)
  have HZ2 := Aside0.mk hz2
  have HSC := Aside0.mk (some_calls 81 Try.f81 #[.pointer (some ⟨g, 0, none⟩)] (by kernel_rfl) rfl rfl (fun x => x.f0 == op && kindB x.f1) l A cp W1 HL.out.1 HL.out.2 HC1.out (fun W hW x Ap cpp => at_fn x Ap cpp W (blk_cell (blk_below hz1' hW) 0)))
  rw [← ho.out] at HSC
  clear hz1' hz2 hb2 hg ho HC1 HL
  cases o with
  | nil =>
    go_upto_region 3 with (go_at_call 80; refine HSC.out.mono ?_; rintro e w2 ⟨v, rfl, hR, hb⟩; obtain ⟨A2, c2, rfl⟩ := Kd.R_slice hR; have HB2 := Aside0.mk (below_then HB.out HB.out.size hb); have HZ := Aside0.mk (blk_below HZ2.out hb); clear hb hR)
    have d0 := blk_cell HZ.out 0
    have d1 := blk_cell HZ.out 1
    have d2 := blk_cell HZ.out 2
    have e0 := blk_frozen HZ.out 0
    have e1 := blk_frozen HZ.out 1
    have e2 := blk_frozen HZ.out 2
    have q0 := blk_put HZ.out 0 (.int .i64 0) (cs' := #[.int .i64 0, .int .i64 0, .slice none 0 0]) rfl
    have q1 := blk_put q0 1 (.int .i64 0) (cs' := #[.int .i64 0, .int .i64 0, .slice none 0 0]) rfl
    have q2 := blk_put q1 2 (.slice none 0 0) (cs' := #[.int .i64 0, .int .i64 0, .slice none 0 0]) rfl
    have hgl : w.heap.size ≤ g + 1 := by have := HG.out; omega
    have s2 := ((HB2.out.setCell (p := ⟨g + 1, 0, none⟩) hgl (.int .i64 0)).setCell (p := ⟨g + 1, 1, none⟩) hgl (.int .i64 0)).setCell (p := ⟨g + 1, 2, none⟩) hgl (.slice none 0 0)
    have Q2 := Aside0.mk q2
    have S2 := Aside0.mk s2
    clear q0 q1 q2 s2 hgl
    go_wp2_with fail
    (try simp only [Exit.inBlock, Exit.then])
    refine bodyPost_ret (results_ct rfl _ _ (g + 1) 65 _ (0, 0) _ _ rfl rfl Q2.out Try.underlying65 rfl (by kernel_rfl)) rfl ?_
    exact ⟨none, 0, rfl, Nat.le_refl _, Kd.C_nil _ _, S2.out⟩
  | cons x rest =>
    go_upto_region 4 with (go_at_call 80; refine HSC.out.mono ?_; rintro e w2 ⟨v, rfl, hR, hb⟩; obtain ⟨A2, c2, rfl⟩ := Kd.R_slice hR; have HR2 := Aside0.mk hR; have HB2 := Aside0.mk (below_then HB.out HB.out.size hb); have HZ := Aside0.mk (blk_below HZ2.out hb); clear hb hR)
    obtain ⟨ps, hps, hown, hgood⟩ := rows_of_R HR2.out
    obtain ⟨p, rest', rfl⟩ : ∃ p rest, ps = p :: rest := by
      cases ps with
      | nil => cases hps
      | cons p rest => exact ⟨p, rest, rfl⟩
    have hp1 : p.1 = x := by injection hps
    have hgp := hgood p (by simp)
    obtain ⟨gr, cap, hv, _, _⟩ := hown.form (by simp)
    injection hv with hv _ _
    subst hv
    have hcc : ∀ j u, (recOf p).enc[j]? = some u → w2.cell? ⟨gr, j, none⟩ = some u := fun j u hu => by
      have hj : j < 3 := (List.getElem?_eq_some_iff.1 hu).1
      have h2 := hown.cells (g := gr) rfl j u (by
        have e1 := encs_at ((p :: rest').map recOf) 0 (recOf p) rfl j hj
        rw [Nat.zero_mul, Nat.zero_add] at e1
        rw [e1]; exact hu)
      rwa [add_plain] at h2
    have hx0 := hcc 0 _ rfl
    have hx1 := hcc 1 _ rfl
    have hx2 := hcc 2 _ rfl
    rw [show (recOf p).nr = x.f0 by rw [← hp1]; rfl] at hx0
    rw [show (recOf p).kd = x.f1 by rw [← hp1]; rfl] at hx1
    obtain ⟨⟨xx, Am, cm⟩, hpe⟩ : ∃ q, q = p := ⟨_, rfl⟩
    subst hpe
    obtain rfl : xx = x := hp1
    have hmk : (Kd.int .u8).R 5 w2 W1.heap.size (fun k => W1.heap.size ≤ k) (.slice Am xx.f2.length cm) xx.f2 := Kd.R_mono hgp (fun k hk => hk.1)
    have hlt1 : g + 1 < W1.heap.size := blk_lt HZ2.out
    have hne : ∀ k, W1.heap.size ≤ k → k ≠ g + 1 := fun k hk => by omega
    have d0 := blk_cell HZ.out 0
    have d1 := blk_cell HZ.out 1
    have d2 := blk_cell HZ.out 2
    have e0 := blk_frozen HZ.out 0
    have e1 := blk_frozen HZ.out 1
    have e2 := blk_frozen HZ.out 2
    have q0 := blk_put HZ.out 0 (.int .i64 xx.f0) (cs' := #[.int .i64 xx.f0, .int .i64 0, .slice none 0 0]) rfl
    have q1 := blk_put q0 1 (.int .i64 xx.f1) (cs' := #[.int .i64 xx.f0, .int .i64 xx.f1, .slice none 0 0]) rfl
    have q2 := blk_put q1 2 (.slice Am xx.f2.length cm) (cs' := #[.int .i64 xx.f0, .int .i64 xx.f1, .slice Am xx.f2.length cm]) rfl
    have hgl : w.heap.size ≤ g + 1 := by have := HG.out; omega
    have s2 := ((HB2.out.setCell (p := ⟨g + 1, 0, none⟩) hgl (.int .i64 xx.f0)).setCell (p := ⟨g + 1, 1, none⟩) hgl (.int .i64 xx.f1)).setCell (p := ⟨g + 1, 2, none⟩) hgl (.slice Am xx.f2.length cm)
    have r2 := Kd.R_far (p := ⟨g + 1, 2, none⟩) (Kd.R_far (p := ⟨g + 1, 1, none⟩) (Kd.R_far (p := ⟨g + 1, 0, none⟩) hmk hne (.int .i64 xx.f0)) hne (.int .i64 xx.f1)) hne (.slice Am xx.f2.length cm)
    have Q2 := Aside0.mk q2
    have S2 := Aside0.mk s2
    have RR := Aside0.mk (Kd.R_reads' r2)
    clear q0 q1 q2 s2 r2 hgl hmk hne hlt1 hgp hgood hown hcc hps HR2
    go_wp2_with fail
    (try simp only [Exit.inBlock, Exit.then])
    refine bodyPost_ret (results_ct rfl _ _ (g + 1) 65 _ (0, 0) _ _ rfl rfl Q2.out Try.underlying65 rfl (by kernel_rfl)) rfl ?_
    exact ⟨Am, cm, rfl, RR.out.2.1, RR.out.2.2, S2.out⟩
def cmp3 (a b : Int) : Int := if a < b then -1 else if a > b then 1 else 0
theorem cmpi_val (a b : Int) : cmp_Compare_int.f a b = some (cmp3 a b) := by
  unfold cmp_Compare_int.f cmp_isNaN_int.f cmp3
  simp only [bne_self_eq_false, Option.bind_some, Bool.false_eq_true, if_false]
  (repeat' split) <;> rfl
def ltQ (x y : Rec) : Bool := decide (x.nr < y.nr)
def ltS (x y : R0) : Bool := decide (x.f0 < y.f0)
theorem ltQ_ord : Ord ltQ := by
  refine ⟨fun x y h => ?_, fun x y z h1 h2 => ?_⟩
  · unfold ltQ at h ⊢
    simp only [decide_eq_true_eq, decide_eq_false_iff_not] at h ⊢
    omega
  · unfold ltQ at h1 h2 ⊢
    simp only [decide_eq_false_iff_not] at h1 h2 ⊢
    omega
set_option maxHeartbeats 2000000 in
set_option maxRecDepth 100000 in
theorem cmp_sorted : Cmp ltQ := by
  intro w x y
  have hz1 := heap_alloc_new w (.cells #[.int .i64 x.nr, .int .i64 x.kd, .slice x.A x.n x.c] 65)
  have hb1 := below_alloc (Below.refl w.heap.size w) (.cells #[.int .i64 x.nr, .int .i64 x.kd, .slice x.A x.n x.c] 65)
  have hz2 := heap_alloc_new (w.alloc (.cells #[.int .i64 x.nr, .int .i64 x.kd, .slice x.A x.n x.c] 65)) (.cells #[.int .i64 y.nr, .int .i64 y.kd, .slice y.A y.n y.c] 65)
  have hz1' := blk_below hz1 (below_alloc (Below.refl _ _) (.cells #[.int .i64 y.nr, .int .i64 y.kd, .slice y.A y.n y.c] 65))
  have hb2 := below_alloc hb1 (.cells #[.int .i64 y.nr, .int .i64 y.kd, .slice y.A y.n y.c] 65)
  have hsz : (w.alloc (.cells #[.int .i64 x.nr, .int .i64 x.kd, .slice x.A x.n x.c] 65)).heap.size = w.heap.size + 1 := by simp
  rw [hsz] at hz2
  obtain ⟨g, hg⟩ : ∃ g, g = w.heap.size := ⟨_, rfl⟩
  go_enter Try.func85, Try.ntmps85
  go_upto_region 1 with fail
  generalize (w.alloc (.cells #[.int .i64 x.nr, .int .i64 x.kd, .slice x.A x.n x.c] 65)).alloc (.cells #[.int .i64 y.nr, .int .i64 y.kd, .slice y.A y.n y.c] 65) = W1 at hz1' hz2 hb2 ⊢
  clear hz1 hb1 hsz
  rw [← hg] at hz1' hz2 ⊢
  have HB := Aside0.mk (show Below w.heap.size w W1 from hb2)
  have c0 := blk_cell hz1' 0
  have c1 := blk_cell hz2 0
  have HCP := Aside0.mk (fun w => cmp_Compare_int.calls x.nr y.nr _ w (cmpi_val x.nr y.nr))
  have HLT : Aside0 (decide (cmp3 x.nr y.nr < 0) = ltQ x y) := ⟨by
    unfold cmp3 ltQ
    by_cases h1 : x.nr < y.nr
    · rw [if_pos h1, decide_eq_true h1]; rfl
    · rw [if_neg h1, decide_eq_false h1]
      by_cases h2 : x.nr > y.nr
      · rw [if_pos h2]; rfl
      · rw [if_neg h2]; rfl⟩
  clear hz1' hz2 hb2 hg
  obtain ⟨rc, hrc⟩ : ∃ r, r = cmp3 x.nr y.nr := ⟨_, rfl⟩
  rw [← hrc] at HCP HLT
  clear hrc
  go_wp2_with (go_at_call 86; refine (HCP.out _).mono ?_; rintro e w2 ⟨rfl, hd⟩; have HB2 := Aside0.mk (below_then HB.out HB.out.size hd.below); clear hd)
  go_ret
  exact ⟨rc, rfl, HLT.out, HB2.out⟩
set_option maxHeartbeats 2000000 in
set_option maxRecDepth 100000 in
theorem sort_calls2 (l : List R0) (A : Option Addr) (cp : Nat) (w : World) (hl : lightF l) (hC : Kd.C k65 w A l.length l) :
    Calls Try.prog 40 #[.slice A l.length cp] w fun e w' => ∃ v, e = .returned v ∧ Kd.R k65 65 w' w.heap.size (fun k => w.heap.size ≤ k) v (ssort ltS l) ∧ Below w.heap.size w w' := by
  have HSC := Aside0.mk (some_calls 83 Try.f83 #[] (by kernel_rfl) rfl rfl (fun _ => true) l A cp w hl.1 hl.2 hC (fun W hW x Ap cpp => all_fn x Ap cpp W))
  rw [show l.filter (fun _ => true) = l from List.filter_eq_self.2 (fun _ _ => rfl)] at HSC
  have HL := Aside0.mk hl.1
  clear hl hC
  go_enter Try.func40, Try.ntmps40
  go_wp2_with (first | (go_at_call 80; refine HSC.out.mono ?_; rintro e w2 ⟨v, rfl, hR, hb⟩; have HSR := Aside0.mk (sort_R ltQ ltS (fun _ _ => rfl) ltQ_ord cmp_sorted (by have := HL.out; omega) hR); have HB2 := Aside0.mk hb; have HLT := Aside0.mk (Kd.R_lt hR); have HBS := Aside0.mk hR.1; clear hb hR) | (go_at_call 84; refine HSR.out.mono ?_; rintro e w3 ⟨rfl, hR, hg⟩; have HR3 := Aside0.mk hR; have HG3 := Aside0.mk hg; clear hR hg))
  go_ret
  refine ⟨_, rfl, HR3.out, ?_⟩
  exact pw_below_grown HB2.out _ HB2.out.size HG3.out (fun k hk => HBS.out k hk)
end Go.Proofs.Ytnchdmidaigheaa.QS
namespace Go.Proofs.Ytnchdmidaigheaa.QS
set_option linter.unusedVariables false
set_option linter.unusedSimpArgs false
open Go.RowKit Go.Proofs.Ytnchdmidaigheaa.SS Go.Proofs.Ytnchdmidaigheaa.Hp Go.Proofs.YtnchdmidaigheaaW.PrintWords Go.Proofs.YtnchdmidaigheaaW.PrintLast Go.Proofs.YtnchdmidaigheaaW.PrintMore
def evs (m : List Int) : List R0 := [⟨3, 2, m⟩, ⟨13, 2, m⟩]
set_option maxHeartbeats 4000000 in
set_option maxRecDepth 100000 in
theorem every_calls (m : List Int) (A : Option Addr) (cp : Nat) (w : World) (hm : m.length ≤ 1000) (hC : Kd.C (Kd.int .u8) w A m.length m) :
    Calls Try.prog 79 #[.int .i64 3, .int .i64 10, .int .i64 2, .int .i64 2, .slice A m.length cp] w fun e w' => ∃ v, e = .returned (.tuple #[v, .int .i64 0]) ∧ Kd.R k65 65 w' w.heap.size (fun k => w.heap.size ≤ k) v (evs m) ∧ Below w.heap.size w w' := by
  have HC := Aside0.mk hC
  have HM := Aside0.mk hm
  have HKC := Aside0.mk (kind_calls 2)
  clear hC hm
  go_enter Try.func79, Try.ntmps79
  go_wp2_with (go_at_call 82; refine (HKC.out _).mono ?_; rintro e w2 ⟨rfl, hd⟩; have HB2 := Aside0.mk hd.below; clear hd)
  go_loopg [12, 53] 3 (fun kq v12 v53 w' => ∃ i : Nat, v53 = .int .i64 (i : Int) ∧ Aside0 (i ≤ 2 ∧ kq + i = 3) ∧ Aside0 (Kd.R k65 65 w' w.heap.size (fun k => w.heap.size ≤ k) v12 ((evs m).take i)) ∧ Aside0 (Below w.heap.size w w'))
  case atStart => exact ⟨0, rfl, ⟨by decide, rfl⟩, ⟨Kd.R_nil _ _ _ _ _⟩, HB2⟩
  case round =>
    obtain ⟨i, rfl, HI, HO, BB⟩ := hrel
    clear HB2
    by_cases hi : i < 2
    case neg =>
      have hie : i = 2 := by have := HI.out; omega
      subst hie
      have ho := Aside0.mk HO.out
      rw [show (evs m).take 2 = evs m from rfl] at ho
      clear HO hi
      go_wp2_with fail
      go_ret2
      exact ⟨_, rfl, ho.out, BB.out⟩
    case pos =>
      obtain ⟨x, hx, hx0, hx1⟩ : ∃ x : R0, (evs m).take (i + 1) = (evs m).take i ++ [x] ∧ x = ⟨3 + (i : Int) * 10, 2, m⟩ ∧ IntKind.i64.wrap (3 + (i : Int) * 10) = 3 + (i : Int) * 10 := by
        have : i = 0 ∨ i = 1 := by omega
        rcases this with rfl | rfl
        · exact ⟨_, rfl, rfl, by decide⟩
        · exact ⟨_, rfl, rfl, by decide⟩
      have HX := Aside0.mk hx
      have HX0 := Aside0.mk hx0
      have HX1 := Aside0.mk hx1
      have hw1 : IntKind.i64.wrap ((i : Int) * 10) = (i : Int) * 10 := (ND.wrap_id (by omega) (by omega)).1
      have hw2 := HX1.out
      have hw3 : IntKind.i64.wrap ((i : Int) + 1) = (i : Int) + 1 := (ND.wrap_id (by omega) (by omega)).1
      have t1 : decide ((i : Int) < 2) = true := decide_eq_true (by omega)
      have t2 : decide (i < 2) = true := decide_eq_true hi
      have HI2 := Aside0.mk hi
      have HOC := Aside0.mk (own_calls x A cp wr (by rw [hx0]; have := HM.out; show m.length ≤ 100000; omega) (by rw [hx0]; exact Kd.C_below HC.out BB.out))
      rw [hx0] at HOC
      have HLT := Aside0.mk (Kd.R_lt HO.out)
      have HO2 := Aside0.mk (Kd.R_mono (Kd.R_bound HO.out) (fun k hk => (⟨hk.1, hk.2.2.1⟩ : w.heap.size ≤ k ∧ k < wr.heap.size)))
      have HNW : Aside0 (∀ k, wr.heap.size ≤ k → w.heap.size ≤ k ∧ some k ≠ u12.ownBlock) := ⟨fun k hk => ⟨by have := BB.out.size; omega, fun h => by have := HLT.out k h.symm; omega⟩⟩
      have HLN : Aside0 (((evs m).take i).length ≤ 1000) := ⟨by rw [List.length_take]; have := HI.out; omega⟩
      clear hx hx0 hx1 hi
      go_wp2_with (first | (go_at_call 106; refine HOC.out.mono ?_; rintro e w4 ⟨A2, cp2, rfl, h2, hb⟩; have HM2 := Aside0.mk (k65_mkM w4 w.heap.size _ ⟨3 + (i : Int) * 10, 2, m⟩ (Kd.R_lower h2 BB.out.size)); have HO3 := Aside0.mk (Kd.R_mono (Kd.R_below HO2.out hb) (fun _ hk => hk.1)); have HB3 := Aside0.mk (below_then BB.out BB.out.size hb); have HSZ4 := Aside0.mk hb.size; clear hb h2) | (at_builtin; (refine Kd.R_append k65 w.heap.size rfl _ _ 25 65 _ 40 rfl Try.underlying25 inf_flt rfl (by decide) (by decide) u12 _ ⟨3 + (i : Int) * 10, 2, m⟩ _ (fun k => w.heap.size ≤ k) (fun k => wr.heap.size ≤ k) rfl rfl HM2.out HNW.out (fun k hk => Nat.le_trans HB3.out.size hk) HO3.out HB3.out HB3.out.size (Nat.le_trans (Nat.mul_le_mul_right 40 (Nat.succ_le_succ HLN.out)) (by decide)) ?_); intro v1 w5 ho5 hb5 hg5 _; replace ho5 := Aside0.mk ho5; replace hb5 := Aside0.mk hb5; clear hg5))
      go_roundg (2 - i)
      case measure => have := HI.out; have := HI2.out; omega
      case rel => exact ⟨i + 1, by first | rfl | go_num, ⟨by have := HI2.out; omega, by have := HI.out; have := HI2.out; omega⟩, ⟨by rw [HX.out, HX0.out]; exact ho5.out⟩, hb5⟩
end Go.Proofs.Ytnchdmidaigheaa.QS
namespace Go.Proofs.Ytnchdmidaigheaa.QS
set_option linter.unusedVariables false
set_option linter.unusedSimpArgs false
open Go.RowKit Go.Proofs.Ytnchdmidaigheaa.SS Go.Proofs.Ytnchdmidaigheaa.Hp Go.Proofs.YtnchdmidaigheaaW.PrintWords Go.Proofs.YtnchdmidaigheaaW.PrintLast Go.Proofs.YtnchdmidaigheaaW.PrintMore
def leftB (op : Int) (x : R0) : Bool := op == 0 || decide (x.f0 ≥ op)
def lessF (op : Int) (x : R0) : R0 := ⟨wrap64 (x.f0 - op), x.f1, x.f2⟩
def fromL (l : List R0) (op : Int) : List R0 := (l.filter (leftB op)).map (lessF op)
set_option maxHeartbeats 2000000 in
set_option maxRecDepth 100000 in
theorem from_fn {g : Nat} {op : Int} (x : R0) (Ap : Option Addr) (cpp : Nat) (W : World) (hc : W.cell? ⟨g, 0, none⟩ = some (.int .i64 op)) : Calls Try.prog 97 (#[.agg #[.int .i64 x.f0, .int .i64 x.f1, .slice Ap x.f2.length cpp]] ++ #[.pointer (some ⟨g, 0, none⟩)]) W fun e w' => e = .returned (.bool (leftB op x)) ∧ Below W.heap.size W w' := by
  have hz := heap_alloc_new W (.cells #[.int .i64 x.f0, .int .i64 x.f1, .slice Ap x.f2.length cpp] 65)
  have hb := below_alloc (Below.refl W.heap.size W) (.cells #[.int .i64 x.f0, .int .i64 x.f1, .slice Ap x.f2.length cpp] 65)
  have hk := (hb.cell (World.block_lt_of_cell? W _ hc)).trans hc
  obtain ⟨g2, hg2⟩ : ∃ g, g = W.heap.size := ⟨_, rfl⟩
  show Calls Try.prog 97 #[.agg #[.int .i64 x.f0, .int .i64 x.f1, .slice Ap x.f2.length cpp], .pointer (some ⟨g, 0, none⟩)] W _
  unfold leftB
  clear hc
  cases ho : (op == 0) with
  | true =>
    go_enter Try.func97, Try.ntmps97
    go_upto_region 1 with fail
    generalize W.alloc (.cells #[.int .i64 x.f0, .int .i64 x.f1, .slice Ap x.f2.length cpp] 65) = W1 at hz hb hk ⊢
    rw [← hg2] at hz ⊢
    have HB := Aside0.mk hb
    have c0 := blk_cell hz 0
    clear hz hb hg2
    go_wp2_with fail
    go_ret
    exact ⟨rfl, HB.out⟩
  | false =>
    have HO := Aside0.mk ho
    cases hq : decide (x.f0 ≥ op) with
    | true =>
      have hq2 : decide (op ≤ x.f0) = true := hq
      go_enter Try.func97, Try.ntmps97
      go_upto_region 1 with fail
      generalize W.alloc (.cells #[.int .i64 x.f0, .int .i64 x.f1, .slice Ap x.f2.length cpp] 65) = W1 at hz hb hk ⊢
      rw [← hg2] at hz ⊢
      have HB := Aside0.mk hb
      have c0 := blk_cell hz 0
      clear hz hb hg2
      go_wp2_with fail
      go_ret
      exact ⟨rfl, HB.out⟩
    | false =>
      have hq2 : decide (op ≤ x.f0) = false := hq
      go_enter Try.func97, Try.ntmps97
      go_upto_region 1 with fail
      generalize W.alloc (.cells #[.int .i64 x.f0, .int .i64 x.f1, .slice Ap x.f2.length cpp] 65) = W1 at hz hb hk ⊢
      rw [← hg2] at hz ⊢
      have HB := Aside0.mk hb
      have c0 := blk_cell hz 0
      clear hz hb hg2
      go_wp2_with fail
      go_ret
      exact ⟨rfl, HB.out⟩
def turned (op : Int) (ps : List Rp) (i : Nat) : List Rp := ps.mapIdx fun j p => if j < i then (lessF op p.1, p.2) else p
theorem turned_zero (op : Int) (ps : List Rp) : turned op ps 0 = ps := by
  unfold turned
  refine List.ext_getElem? fun j => ?_
  rw [List.getElem?_mapIdx]
  cases ps[j]? with
  | none => rfl
  | some p => rw [Option.map_some, if_neg (by omega)]
theorem turned_len (op : Int) (ps : List Rp) (i : Nat) : (turned op ps i).length = ps.length := by unfold turned; rw [List.length_mapIdx]
theorem turned_at {op : Int} {ps : List Rp} {i : Nat} {p : Rp} (h : ps[i]? = some p) : (turned op ps i)[i]? = some p := by
  unfold turned
  rw [List.getElem?_mapIdx, h, Option.map_some, if_neg (by omega)]
theorem turned_succ {op : Int} {ps : List Rp} {i : Nat} {p : Rp} (h : ps[i]? = some p) : turned op ps (i + 1) = (turned op ps i).set i (lessF op p.1, p.2) := by
  refine List.ext_getElem? fun j => ?_
  rw [List.getElem?_set]
  by_cases hj : i = j
  · subst hj
    rw [if_pos rfl, turned_len, if_pos (List.getElem?_eq_some_iff.1 h).1]
    unfold turned
    rw [List.getElem?_mapIdx, h, Option.map_some, if_pos (by omega)]
  · rw [if_neg hj]
    unfold turned
    rw [List.getElem?_mapIdx, List.getElem?_mapIdx]
    cases ps[j]? with
    | none => rfl
    | some q =>
      rw [Option.map_some, Option.map_some]
      by_cases h2 : j < i
      · rw [if_pos h2, if_pos (by omega)]
      · rw [if_neg h2, if_neg (by omega)]
theorem turned_all (op : Int) (ps : List Rp) : (turned op ps ps.length).map (·.1) = (ps.map (·.1)).map (lessF op) := by
  refine List.ext_getElem? fun j => ?_
  unfold turned
  rw [List.getElem?_map, List.getElem?_mapIdx, List.getElem?_map, List.getElem?_map]
  cases h : ps[j]? with
  | none => rfl
  | some q => rw [Option.map_some, Option.map_some, Option.map_some, Option.map_some, if_pos (List.getElem?_eq_some_iff.1 h).1]
theorem encs_set (l : List Rec) (i : Nat) (p : Rec) (y : Int) (h : l[i]? = some p) : (l.flatMap Rec.enc).set (i * 3) (.int .i64 y) = (l.set i { p with nr := y }).flatMap Rec.enc := by
  induction l generalizing i with
  | nil => cases h
  | cons a r ih =>
    cases i with
    | zero =>
      obtain rfl : a = p := by simpa using h
      rfl
    | succ i =>
      rw [List.set_cons_succ, List.flatMap_cons, List.flatMap_cons, ← ih i (by simpa using h)]
      rw [List.set_append_right _ _ (by show 3 ≤ (i + 1) * 3; omega)]
      rw [show (i + 1) * 3 - a.enc.length = i * 3 by show (i + 1) * 3 - 3 = i * 3; omega]
def from6.T6 : Bool × List (List Nat × List Nat) := (true, [([], []), ([], []), ([0, 1], [0, 1]), ([2], [2]), ([3], [3]), ([], []), ([4, 5], [4, 5]), ([0, 1, 0, 1, 2, 3, 4, 5, 6], [0, 1]), ([7, 0, 1, 2, 3, 4, 5, 6], [7]), ([8, 6, 0, 1, 2, 3, 4, 5, 6], [6, 8])])
def from6.B6 : List Nat := [0, 0, 3, 7, 15, 0, 63, 127, 255, 511]
theorem from6.tab6 : rtab .any (opsOf Try.f55 6) = from6.T6 := by kernel_rfl
theorem from6.bits6 : waitsOk from6.T6.2 from6.B6 = true := by kernel_rfl
set_option maxHeartbeats 4000000 in
set_option maxRecDepth 100000 in
theorem from_calls (l : List R0) (A : Option Addr) (cp : Nat) (op : Int) (w : World) (hl : lightF l) (h0 : 0 ≤ op) (hC : Kd.C k65 w A l.length l) :
    Calls Try.prog 55 #[.slice A l.length cp, .int .i64 op] w fun e w' => ∃ v, e = .returned v ∧ Kd.R k65 65 w' w.heap.size (fun k => w.heap.size ≤ k) v (fromL l op) ∧ Below w.heap.size w w' := by
  have hz1 := heap_alloc_new w (.cells #[.int .i64 op] 3)
  have hb1 := below_alloc (Below.refl w.heap.size w) (.cells #[.int .i64 op] 3)
  obtain ⟨g, hg⟩ : ∃ g, g = w.heap.size := ⟨_, rfl⟩
  have HL := Aside0.mk hl
  have HC := Aside0.mk hC
  have hmx : max op 0 = op := by omega
  clear hl hC
  go_enter Try.func55, Try.ntmps55
  go_upto_region 1 with fail
  have HC1 := Aside0.mk (Kd.C_below HC.out hb1)
  generalize w.alloc (.cells #[.int .i64 op] 3) = W1 at hz1 hb1 HC1 ⊢
  rw [← hg] at hz1 ⊢
  have HG := Aside0.mk hg
  have HB1 := Aside0.mk hb1
  have HZ1 := Aside0.mk hz1
  have c0 := blk_cell hz1 0
  have f0 := blk_frozen hz1 0
  clear hg hz1 hb1 h0
  go_upto_region 2 with fail
  have hz2 := blk_put HZ1.out 0 (.int .i64 op) (cs' := #[.int .i64 op]) rfl
  have hb2 := HB1.out.setCell (p := ⟨g, 0, none⟩) (Nat.le_of_eq HG.out.symm) (.int .i64 op)
  generalize W1.setCell ⟨g, 0, none⟩ (.int .i64 op) = W2 at hz2 hb2 ⊢
  clear c0 f0 HC1 HZ1 HB1
  have HC2 := Aside0.mk (Kd.C_below HC.out hb2)
  have HB2 := Aside0.mk hb2
  have HZ2 := Aside0.mk hz2
  have HSC := Aside0.mk (some_calls 97 Try.f97 #[.pointer (some ⟨g, 0, none⟩)] (by kernel_rfl) rfl rfl (leftB op) l A cp W2 HL.out.1 HL.out.2 HC2.out (fun W hW x Ap cpp => from_fn x Ap cpp W (blk_cell (blk_below hz2 hW) 0)))
  clear hz2 hb2 HC2 hmx
  go_upto_region 3 with (go_at_call 80; refine HSC.out.mono ?_; rintro e w3 ⟨v, rfl, hR, hb⟩; have HR3 := Aside0.mk hR; have HB3 := Aside0.mk (below_then HB2.out HB2.out.size hb); have HZ3 := Aside0.mk (blk_below HZ2.out hb); clear hb hR)
  obtain ⟨ps, hps, hown, hgood⟩ := rows_of_R HR3.out
  have hfr : fromL l op = (ps.map (·.1)).map (lessF op) := by unfold fromL; rw [hps]
  have HFR := Aside0.mk hfr
  have HOB := Aside0.mk HR3.out.1
  obtain ⟨A3, c3, rfl⟩ : ∃ A c, v = .slice A ps.length c := by
    obtain ⟨A3, c3, h3⟩ := Kd.R_slice HR3.out
    rw [h3, ← hps, List.length_map]
    exact ⟨_, _, rfl⟩
  have HNL : Aside0 (ps.length ≤ 1000) := ⟨by
    have h1 : ps.length = (l.filter (leftB op)).length := by rw [← hps, List.length_map]
    have := List.length_filter_le (leftB op) l
    have := HL.out.1
    omega⟩
  have HGW : Aside0 (g < W2.heap.size) := ⟨blk_lt HZ2.out⟩
  have HOW := Aside0.mk hown
  have HGD := Aside0.mk hgood
  obtain ⟨n, hn⟩ : ∃ n, n = ps.length := ⟨_, rfl⟩
  rw [← hn] at HOW HNL HOB HGD ⊢
  have HN := Aside0.mk hn
  clear hfr hps hown hgood hn HR3
  go_wp2_with fail
  go_loopg [14] (n + 1) (fun kq v14 w' => ∃ i : Nat, v14 = .int .i64 (i : Int) ∧ Aside0 (i ≤ n ∧ kq + i = n + 1) ∧ Aside0 (w'.ownsRow W2.heap.size 65 3 (.slice A3 n c3) n (((turned op ps i).map recOf).flatMap Rec.enc)) ∧ Aside0 (∀ p ∈ turned op ps i, p.made w' W2.heap.size (fun k => W2.heap.size ≤ k ∧ some k ≠ (Value.slice A3 n c3).ownBlock)) ∧ Aside0 (Below w.heap.size w w') ∧ Aside0 (w'.heap[g]? = some (.cells #[.int .i64 op] 3 (0, 0))))
  case atStart => exact ⟨0, rfl, ⟨Nat.zero_le _, rfl⟩, ⟨by rw [turned_zero]; exact HOW.out⟩, ⟨by rw [turned_zero]; exact HGD.out⟩, HB3, HZ3⟩
  case round =>
    obtain ⟨i, rfl, HI, HO, HM, BB, ZG⟩ := hrel
    clear HOW HGD HB3 HZ3
    by_cases hi : i < n
    case neg =>
      have hie : i = n := by have := HI.out; omega
      subst hie
      have t1 : decide ((i : Int) < (i : Int)) = false := decide_eq_false (by omega)
      have HF := Aside0.mk (R_of_rows (ps := turned op ps i) (v := .slice A3 i c3) HOB.out (by rw [turned_len, ← HN.out]; exact HO.out) HM.out)
      clear hi
      go_wp2_with fail
      go_ret
      refine ⟨_, rfl, ?_, BB.out⟩
      have e : fromL l op = (turned op ps i).map (·.1) := by rw [HFR.out, ← turned_all, ← HN.out]
      rw [e]
      exact Kd.R_mono (Kd.R_lower HF.out HB2.out.size) (fun k hk => Nat.le_trans HB2.out.size hk)
    case pos =>
      have t1 : decide ((i : Int) < (n : Int)) = true := decide_eq_true (by omega)
      have t2 : decide (i < n) = true := decide_eq_true hi
      have hpi : ps[i]? = some (ps[i]'(by rw [← HN.out]; exact hi)) := List.getElem?_eq_getElem _
      obtain ⟨p, hpe⟩ : ∃ p, p = ps[i]'(by rw [← HN.out]; exact hi) := ⟨_, rfl⟩
      rw [← hpe] at hpi
      obtain ⟨gr, cap, hv, hgb, hgl⟩ := HO.out.form (by omega)
      injection hv with hv1 _ hv3
      subst hv1 hv3
      have HP := Aside0.mk hpi
      have hce : wr.cell? ⟨gr, i * 3, none⟩ = some (.int .i64 p.1.f0) := by
        rw [HO.out.cellAt (i * 3) (by omega)]
        have e1 := encs_at ((turned op ps i).map recOf) i (recOf p) (by rw [List.getElem?_map, turned_at hpi]; rfl) 0 (by decide)
        exact e1
      have HCE := Aside0.mk hce
      have HFZ := Aside0.mk (HO.out.frozenAt (i * 3))
      obtain ⟨y, hy⟩ : ∃ y, y = wrap64 (p.1.f0 - op) := ⟨_, rfl⟩
      have HY : Aside0 (IntKind.i64.wrap (p.1.f0 - op) = y) := ⟨by rw [i64_w, hy]⟩
      have HY2 := Aside0.mk hy
      have HPQ := Aside0.mk (And.intro (eq_true (show (0 : Int) ≤ (i : Int) by omega)) (eq_true (show (i : Int) < (n : Int) by omega)))
      have HI2 := Aside0.mk hi
      have B0 := Aside0.mk (below_drew1 (Below.refl wr.heap.size wr))
      have FIN := True.intro
      go_upto_region 6 with fail
      clear hpe hpi hce hy hi t1 t2
      refine start_ (n := 10) (S := fun w' => True) (ds := []) #[false, false, false, false, false, false, false, false, false, false] (by kernel_rfl) rfl rfl trivial (fun hHeld => ?_)
      refine with_tabW from6.tab6 from6.bits6 (fun HT_ HW_ => ?_)
      generalize wr.drew = wq at B0 hHeld ⊢
      refine inv_at [0, 1, 2, 3, 4, 5, 6, 7, 8, 9] (fun a0_ b a w' => a = putSel a0_ b [(0, 17, .slice (some ⟨gr, 0, none⟩) n c3), (1, 18, .int .i64 (i : Int)), (2, 19, .pointer (some ⟨gr, (i * 3), none⟩)), (3, 20, .pointer (some ⟨gr, (i * 3), none⟩)), (4, 21, .int .i64 p.1.f0), (5, 22, .int .i64 op), (6, 23, .int .i64 y), (7, 24, .pointer (some ⟨gr, (i * 3), none⟩)), (8, 25, .pointer (some ⟨gr, (i * 3), none⟩))] ∧ (b 9 = false → Below wr.heap.size wr w') ∧ (b 9 = true → ∃ wb : World, Below wr.heap.size wr wb ∧ w' = wb.setCell ⟨gr, i * 3, none⟩ (.int .i64 y))) HT_.out HW_.out (by kernel_rfl) (by kernel_rfl) ?_ ?_ ?_
      · exact ⟨by simp only [putSel, Bool.false_eq_true, if_false], fun _ => B0.out, fun h_ => absurd h_ (by decide)⟩
      · skip
        clear B0
        refine steps_cons ?_ ?_
        · rintro b a w' ⟨ha, Q_B0, Q_FIN⟩ hb_ hon hoff
          refine ⟨_, rfl, fun K hK => ?_⟩
          have e5 : a.tmps[5]? = some (.slice (some ⟨gr, 0, none⟩) n c3) := by rw [ha]; exact (putSel_off rfl).trans rfl
          replace ha := Aside0.mk ha
          have B0 := Aside0.mk (Q_B0 (hoff 9 (by kernel_rfl)))
          refine value_ (w1 := w') (v := .slice (some ⟨gr, 0, none⟩) n c3) (by rfl) rfl ?_ ?_
          · go_simp
            (try simp only [i64_w])
            try rfl
          refine hK.out _ _ ⟨(by rw [ha.out]; exact putSel_upk 0 hb_ rfl rfl rfl), Q_B0, fun h0_ => absurd ((hoff 9 (by kernel_rfl)).symm.trans h0_) (by decide)⟩
        refine steps_cons ?_ ?_
        · rintro b a w' ⟨ha, Q_B0, Q_FIN⟩ hb_ hon hoff
          refine ⟨_, rfl, fun K hK => ?_⟩
          have e6 : a.tmps[6]? = some (.int .i64 (i : Int)) := by rw [ha]; exact (putSel_off rfl).trans rfl
          replace ha := Aside0.mk ha
          have B0 := Aside0.mk (Q_B0 (hoff 9 (by kernel_rfl)))
          refine value_ (w1 := w') (v := .int .i64 (i : Int)) (by rfl) rfl ?_ ?_
          · go_simp
            (try simp only [i64_w])
            try rfl
          refine hK.out _ _ ⟨(by rw [ha.out]; exact putSel_upk 1 hb_ rfl rfl rfl), Q_B0, fun h0_ => absurd ((hoff 9 (by kernel_rfl)).symm.trans h0_) (by decide)⟩
        refine steps_cons ?_ ?_
        · rintro b a w' ⟨ha, Q_B0, Q_FIN⟩ hb_ hon hoff
          refine ⟨_, rfl, fun K hK => ?_⟩
          have e17 : a.tmps[17]? = some (.slice (some ⟨gr, 0, none⟩) n c3) := by rw [ha]; exact putSel_on (e := (0, 17, .slice (some ⟨gr, 0, none⟩) n c3)) 0 rfl rfl (hon 0 (by kernel_rfl)) rfl
          have e18 : a.tmps[18]? = some (.int .i64 (i : Int)) := by rw [ha]; exact putSel_on (e := (1, 18, .int .i64 (i : Int))) 1 rfl rfl (hon 1 (by kernel_rfl)) rfl
          replace ha := Aside0.mk ha
          have B0 := Aside0.mk (Q_B0 (hoff 9 (by kernel_rfl)))
          have p_ := HPQ.out.1
          have q_ := HPQ.out.2
          refine value_ (w1 := w') (v := .pointer (some ⟨gr, (i * 3), none⟩)) (by rfl) rfl ?_ ?_
          · go_simp
            (try simp only [i64_w])
            try rfl
          refine hK.out _ _ ⟨(by rw [ha.out]; exact putSel_upk 2 hb_ rfl rfl rfl), Q_B0, fun h0_ => absurd ((hoff 9 (by kernel_rfl)).symm.trans h0_) (by decide)⟩
        refine steps_cons ?_ ?_
        · rintro b a w' ⟨ha, Q_B0, Q_FIN⟩ hb_ hon hoff
          refine ⟨_, rfl, fun K hK => ?_⟩
          have e19 : a.tmps[19]? = some (.pointer (some ⟨gr, (i * 3), none⟩)) := by rw [ha]; exact putSel_on (e := (2, 19, .pointer (some ⟨gr, (i * 3), none⟩))) 2 rfl rfl (hon 2 (by kernel_rfl)) rfl
          replace ha := Aside0.mk ha
          have B0 := Aside0.mk (Q_B0 (hoff 9 (by kernel_rfl)))
          refine value_ (w1 := w') (v := .pointer (some ⟨gr, (i * 3), none⟩)) (by rfl) rfl ?_ ?_
          · go_simp
            (try simp only [i64_w])
            try rfl
          refine hK.out _ _ ⟨(by rw [ha.out]; exact putSel_upk 3 hb_ rfl rfl rfl), Q_B0, fun h0_ => absurd ((hoff 9 (by kernel_rfl)).symm.trans h0_) (by decide)⟩
        refine steps_cons ?_ ?_
        · rintro b a w' ⟨ha, Q_B0, Q_FIN⟩ hb_ hon hoff
          refine ⟨_, rfl, fun K hK => ?_⟩
          have e20 : a.tmps[20]? = some (.pointer (some ⟨gr, (i * 3), none⟩)) := by rw [ha]; exact putSel_on (e := (3, 20, .pointer (some ⟨gr, (i * 3), none⟩))) 3 rfl rfl (hon 3 (by kernel_rfl)) rfl
          replace ha := Aside0.mk ha
          have B0 := Aside0.mk (Q_B0 (hoff 9 (by kernel_rfl)))
          have c_ := (B0.out.cell (World.block_lt_of_cell? wr _ HCE.out)).trans HCE.out
          refine value_ (w1 := w') (v := .int .i64 p.1.f0) (by rfl) rfl ?_ ?_
          · go_simp
            (try simp only [i64_w])
            try rfl
          refine hK.out _ _ ⟨(by rw [ha.out]; exact putSel_upk 4 hb_ rfl rfl rfl), Q_B0, fun h0_ => absurd ((hoff 9 (by kernel_rfl)).symm.trans h0_) (by decide)⟩
        refine steps_cons ?_ ?_
        · rintro b a w' ⟨ha, Q_B0, Q_FIN⟩ hb_ hon hoff
          refine ⟨_, rfl, fun K hK => ?_⟩
          have e3 : a.tmps[3]? = some (.pointer (some ⟨g, 0, none⟩)) := by rw [ha]; exact (putSel_off rfl).trans rfl
          replace ha := Aside0.mk ha
          have B0 := Aside0.mk (Q_B0 (hoff 9 (by kernel_rfl)))
          have c_ := blk_cell (blk_below ZG.out B0.out) 0
          refine value_ (w1 := w') (v := .int .i64 op) (by rfl) rfl ?_ ?_
          · go_simp
            (try simp only [i64_w])
            try rfl
          refine hK.out _ _ ⟨(by rw [ha.out]; exact putSel_upk 5 hb_ rfl rfl rfl), Q_B0, fun h0_ => absurd ((hoff 9 (by kernel_rfl)).symm.trans h0_) (by decide)⟩
        refine steps_cons ?_ ?_
        · rintro b a w' ⟨ha, Q_B0, Q_FIN⟩ hb_ hon hoff
          refine ⟨_, rfl, fun K hK => ?_⟩
          have e21 : a.tmps[21]? = some (.int .i64 p.1.f0) := by rw [ha]; exact putSel_on (e := (4, 21, .int .i64 p.1.f0)) 4 rfl rfl (hon 4 (by kernel_rfl)) rfl
          have e22 : a.tmps[22]? = some (.int .i64 op) := by rw [ha]; exact putSel_on (e := (5, 22, .int .i64 op)) 5 rfl rfl (hon 5 (by kernel_rfl)) rfl
          replace ha := Aside0.mk ha
          have B0 := Aside0.mk (Q_B0 (hoff 9 (by kernel_rfl)))
          have q_ := HY.out
          refine value_ (w1 := w') (v := .int .i64 y) (by rfl) rfl ?_ ?_
          · go_simp
            (try simp only [i64_w])
            try rfl
          refine hK.out _ _ ⟨(by rw [ha.out]; exact putSel_upk 6 hb_ rfl rfl rfl), Q_B0, fun h0_ => absurd ((hoff 9 (by kernel_rfl)).symm.trans h0_) (by decide)⟩
        refine steps_cons ?_ ?_
        · rintro b a w' ⟨ha, Q_B0, Q_FIN⟩ hb_ hon hoff
          refine ⟨_, rfl, fun K hK => ?_⟩
          have e17 : a.tmps[17]? = some (.slice (some ⟨gr, 0, none⟩) n c3) := by rw [ha]; exact putSel_on (e := (0, 17, .slice (some ⟨gr, 0, none⟩) n c3)) 0 rfl rfl (hon 0 (by kernel_rfl)) rfl
          have e18 : a.tmps[18]? = some (.int .i64 (i : Int)) := by rw [ha]; exact putSel_on (e := (1, 18, .int .i64 (i : Int))) 1 rfl rfl (hon 1 (by kernel_rfl)) rfl
          replace ha := Aside0.mk ha
          have B0 := Aside0.mk (Q_B0 (hoff 9 (by kernel_rfl)))
          have p_ := HPQ.out.1
          have q_ := HPQ.out.2
          refine value_ (w1 := w') (v := .pointer (some ⟨gr, (i * 3), none⟩)) (by rfl) rfl ?_ ?_
          · go_simp
            (try simp only [i64_w])
            try rfl
          refine hK.out _ _ ⟨(by rw [ha.out]; exact putSel_upk 7 hb_ rfl rfl rfl), Q_B0, fun h0_ => absurd ((hoff 9 (by kernel_rfl)).symm.trans h0_) (by decide)⟩
        refine steps_cons ?_ ?_
        · rintro b a w' ⟨ha, Q_B0, Q_FIN⟩ hb_ hon hoff
          refine ⟨_, rfl, fun K hK => ?_⟩
          have e24 : a.tmps[24]? = some (.pointer (some ⟨gr, (i * 3), none⟩)) := by rw [ha]; exact putSel_on (e := (7, 24, .pointer (some ⟨gr, (i * 3), none⟩))) 7 rfl rfl (hon 7 (by kernel_rfl)) rfl
          replace ha := Aside0.mk ha
          have B0 := Aside0.mk (Q_B0 (hoff 9 (by kernel_rfl)))
          refine value_ (w1 := w') (v := .pointer (some ⟨gr, (i * 3), none⟩)) (by rfl) rfl ?_ ?_
          · go_simp
            (try simp only [i64_w])
            try rfl
          refine hK.out _ _ ⟨(by rw [ha.out]; exact putSel_upk 8 hb_ rfl rfl rfl), Q_B0, fun h0_ => absurd ((hoff 9 (by kernel_rfl)).symm.trans h0_) (by decide)⟩
        refine steps_cons ?_ ?_
        · rintro b a w' ⟨ha, Q_B0, Q_FIN⟩ hb_ hon hoff
          refine ⟨_, rfl, fun K hK => ?_⟩
          have e25 : a.tmps[25]? = some (.pointer (some ⟨gr, (i * 3), none⟩)) := by rw [ha]; exact putSel_on (e := (8, 25, .pointer (some ⟨gr, (i * 3), none⟩))) 8 rfl rfl (hon 8 (by kernel_rfl)) rfl
          have e23 : a.tmps[23]? = some (.int .i64 y) := by rw [ha]; exact putSel_on (e := (6, 23, .int .i64 y)) 6 rfl rfl (hon 6 (by kernel_rfl)) rfl
          replace ha := Aside0.mk ha
          have B0 := Aside0.mk (Q_B0 hb_)
          have c_ := (B0.out.cell (World.block_lt_of_cell? wr _ HCE.out)).trans HCE.out
          have fr_ := (B0.out.frozen (World.block_lt_of_cell? wr _ HCE.out)).trans HFZ.out
          refine skip_ (w1 := ?_) (by rfl) rfl ?_ ?_
          rotate_left
          · go_simp
            rfl
          refine hK.out _ _ ⟨(by rw [ha.out]; exact putSel_none (v := undef) rfl), fun h0_ => absurd ((up_self b 9).symm.trans h0_) (by decide), fun _ => ⟨_, B0.out, rfl⟩⟩
        exact steps_nil
      rintro b a w6 hall ⟨ha, Q_B0, Q_FIN⟩
      clear B0
      have hb0_ := hall 0 (by kernel_rfl)
      have hb1_ := hall 1 (by kernel_rfl)
      have hb2_ := hall 2 (by kernel_rfl)
      have hb3_ := hall 3 (by kernel_rfl)
      have hb4_ := hall 4 (by kernel_rfl)
      have hb5_ := hall 5 (by kernel_rfl)
      have hb6_ := hall 6 (by kernel_rfl)
      have hb7_ := hall 7 (by kernel_rfl)
      have hb8_ := hall 8 (by kernel_rfl)
      have hb9_ := hall 9 (by kernel_rfl)
      subst ha
      simp only [putSel, hb0_, hb1_, hb2_, hb3_, hb4_, hb5_, hb6_, hb7_, hb8_, hb9_, if_true, Act.put, List.setIfInBounds_toArray, List.set_cons_zero, List.set_cons_succ]
      clear Q_B0
      have FIN := Aside0.mk (Q_FIN hb9_)
      clear Q_FIN
      clear hall hb0_ hb1_ hb2_ hb3_ hb4_ hb5_ hb6_ hb7_ hb8_ hb9_
      obtain ⟨wb, hwb, hwe⟩ := FIN.out
      have ho1 := (HO.out.kept (grown_of_below hwb none) (.inr (by simp [Value.ownBlock]))).stored (i * 3) (.int .i64 y)
      have hpt := turned_at (op := op) HP.out
      rw [encs_set _ i (recOf p) y (by rw [List.getElem?_map, hpt]; rfl)] at ho1
      have he : ((turned op ps i).map recOf).set i { recOf p with nr := y } = (turned op ps (i + 1)).map recOf := by
        rw [turned_succ HP.out, List.map_set, HY2.out]
        rfl
      rw [he, ← hwe] at ho1
      have HO1 := Aside0.mk ho1.1
      have hm1 : ∀ q ∈ turned op ps (i + 1), q.made w6 W2.heap.size (fun k => W2.heap.size ≤ k ∧ some k ≠ (Value.slice (some ⟨gr, 0, none⟩) n c3).ownBlock) := by
        have key : ∀ q ∈ turned op ps i, q.made w6 W2.heap.size (fun k => W2.heap.size ≤ k ∧ some k ≠ (Value.slice (some ⟨gr, 0, none⟩) n c3).ownBlock) := fun q hq => by
          rw [hwe]
          exact Kd.R_far (p := ⟨gr, i * 3, none⟩) (Kd.R_below (HM.out q hq) hwb) (fun k hk => by
            have h := hk.2
            show k ≠ gr
            intro e
            exact h (by rw [e]; rfl)) (.int .i64 y)
        intro q hq
        rw [turned_succ HP.out] at hq
        rcases List.mem_or_eq_of_mem_set hq with hq | hq
        · exact key q hq
        · have h := key p (List.mem_of_getElem? hpt)
          rw [hq]
          exact h
      have HM1 := Aside0.mk hm1
      have hgb2 : w.heap.size ≤ gr := Nat.le_trans HB2.out.size hgb
      have HB6 : Aside0 (Below w.heap.size w w6) := ⟨by rw [hwe]; exact (below_then BB.out BB.out.size hwb).setCell (p := ⟨gr, i * 3, none⟩) hgb2 (.int .i64 y)⟩
      have HZ6 : Aside0 (w6.heap[g]? = some (.cells #[.int .i64 op] 3 (0, 0))) := ⟨by rw [hwe]; exact (blk_far (blk_below ZG.out hwb) (p := ⟨gr, i * 3, none⟩) (by have := HGW.out; show g ≠ gr; omega) (.int .i64 y)).trans rfl⟩
      have hw3 : IntKind.i64.wrap ((i : Int) + 1) = (i : Int) + 1 := (ND.wrap_id (by omega) (by have := HI2.out; have := HNL.out; omega)).1
      clear hwb hwe ho1 hpt he hm1 hgb2 FIN
      go_wp2_with fail
      go_roundg (n - i)
      case measure => have := HI.out; have := HI2.out; omega
      case rel => exact ⟨i + 1, by first | rfl | go_num, ⟨by have := HI2.out; omega, by have := HI.out; have := HI2.out; omega⟩, HO1, HM1, HB6, HZ6⟩
end Go.Proofs.Ytnchdmidaigheaa.QS
namespace Go.Proofs.Ytnchdmidaigheaa.QS
set_option linter.unusedVariables false
set_option linter.unusedSimpArgs false
open Go.RowKit Go.Proofs.Ytnchdmidaigheaa.SS Go.Proofs.Ytnchdmidaigheaa.Hp Go.Proofs.YtnchdmidaigheaaW.PrintWords Go.Proofs.YtnchdmidaigheaaW.PrintLast Go.Proofs.YtnchdmidaigheaaW.PrintMore
def cntK (l : List R0) (k : Int) : Int := ((l.filter fun x => x.f1 == k).length : Int)
def withinB (B P C : Int) (l : List R0) : Bool := ND.rightG B P C && decide (cntK l 1 ≤ C)
def within1.T1 : Bool × List (List Nat × List Nat) := (true, [([], []), ([0], [0]), ([1], [1]), ([2, 1], [2]), ([3], [3]), ([4, 3, 3], [3, 4]), ([3], [3]), ([6, 3], [3, 6]), ([5, 7, 3], [3, 5, 7]), ([3, 8], [3, 8]), ([9, 5, 0, 1, 2, 3, 4, 5, 6, 7, 8, 9], [9])])
def within1.B1 : List Nat := [0, 1, 3, 7, 15, 31, 15, 79, 255, 511, 1023]
theorem within1.tab1 : rtab .any (opsOf Try.f43 1) = within1.T1 := by kernel_rfl
theorem within1.bits1 : waitsOk within1.T1.2 within1.B1 = true := by kernel_rfl
set_option maxHeartbeats 2000000 in
set_option maxRecDepth 100000 in
theorem within_calls (B P C : Int) (l : List R0) (A : Option Addr) (cp : Nat) (w : World) (hl : lightF l) (hC : Kd.C k65 w A l.length l) :
    Calls Try.prog 43 #[.agg #[.int .i64 B, .int .i64 P, .int .i64 C], .slice A l.length cp] w fun e w' => e = .returned (.bool (withinB B P C l)) ∧ Below w.heap.size w w' := by
  have hz1 := heap_alloc_new w (.cells #[.int .i64 B, .int .i64 P, .int .i64 C] 23)
  have hb1 := below_alloc (Below.refl w.heap.size w) (.cells #[.int .i64 B, .int .i64 P, .int .i64 C] 23)
  have HC1 := Aside0.mk (Kd.C_below hC hb1)
  have HL := Aside0.mk hl
  obtain ⟨g, hg⟩ : ∃ g, g = w.heap.size := ⟨_, rfl⟩
  unfold withinB
  clear hl hC
  cases hr : ND.rightG B P C with
  | false =>
    have HRT := Aside0.mk (show geom_Check.f B P C = some 3 by unfold geom_Check.f; unfold ND.rightG at hr; rw [hr]; rfl)
    have HCK := Aside0.mk (fun w => geom_Check.calls B P C _ w HRT.out)
    clear hr
    go_enter Try.func43, Try.ntmps43
    go_upto_region 1 with fail
    generalize w.alloc (.cells #[.int .i64 B, .int .i64 P, .int .i64 C] 23) = W1 at hz1 hb1 HC1 ⊢
    rw [← hg] at hz1 ⊢
    have HZ := Aside0.mk hz1
    have HB := Aside0.mk hb1
    have B0 := Aside0.mk (below_drew1 (Below.refl W1.heap.size W1))
    clear hz1 hb1 hg
    refine start_ (n := 11) (S := fun w' => True) (ds := []) #[false, false, false, false, false, false, false, false, false, false, false] (by kernel_rfl) rfl rfl trivial (fun hHeld => ?_)
    refine with_tabW within1.tab1 within1.bits1 (fun HT_ HW_ => ?_)
    generalize W1.drew = wq at B0 hHeld ⊢
    refine inv_at [0, 1, 2, 3, 4, 5, 6, 7, 8, 9, 10] (fun a0_ b a w' => a = putSel a0_ b [(0, 5, .agg #[.int .i64 B, .int .i64 P, .int .i64 C]), (1, 6, .int .i64 3), (2, 7, .bool false), (3, 8, .bool false), (4, 9, undef), (5, 10, undef), (6, 11, undef), (7, 12, undef), (8, 13, undef), (9, 14, .bool false), (10, 4, .bool false)] ∧ (Below W1.heap.size W1 w')) HT_.out HW_.out (by kernel_rfl) (by kernel_rfl) ?_ ?_ ?_
    · exact ⟨by simp only [putSel, Bool.false_eq_true, if_false], B0.out⟩
    · skip
      clear B0
      refine steps_cons ?_ ?_
      · rintro b a w' ⟨ha, Q_B0⟩ hb_ hon hoff
        refine ⟨_, rfl, fun K hK => ?_⟩
        have e2 : a.tmps[2]? = some (.pointer (some ⟨g, 0, none⟩)) := by rw [ha]; exact (putSel_off rfl).trans rfl
        replace ha := Aside0.mk ha
        have B0 := Aside0.mk Q_B0
        have c0_ := blk_cell (blk_below HZ.out B0.out) 0
        have c1_ := blk_cell (blk_below HZ.out B0.out) 1
        have c2_ := blk_cell (blk_below HZ.out B0.out) 2
        refine value_ (w1 := w') (v := .agg #[.int .i64 B, .int .i64 P, .int .i64 C]) (by rfl) rfl ?_ ?_
        · go_simp
          (try simp only [i64_w])
          try rfl
        refine hK.out _ _ ⟨(by rw [ha.out]; exact putSel_upk 0 hb_ rfl rfl rfl), Q_B0⟩
      refine steps_cons ?_ ?_
      · rintro b a w' ⟨ha, Q_B0⟩ hb_ hon hoff
        refine ⟨_, rfl, fun K hK => ?_⟩
        have e5 : a.tmps[5]? = some (.agg #[.int .i64 B, .int .i64 P, .int .i64 C]) := by rw [ha]; exact putSel_on (e := (0, 5, .agg #[.int .i64 B, .int .i64 P, .int .i64 C])) 0 rfl rfl (hon 0 (by kernel_rfl)) rfl
        replace ha := Aside0.mk ha
        have B0 := Aside0.mk Q_B0
        refine goes_ Try.func60 (by kernel_rfl) rfl #[.agg #[.int .i64 B, .int .i64 P, .int .i64 C]] (by rfl) rfl rfl (by first | (simp only [List.map_toArray, List.map_cons, List.map_nil, Act.eval, Array.getD_eq_getD_getElem?, Option.getD_some, e5]; done) | (simp only [List.map_toArray, List.map_cons, List.map_nil, Act.eval, Array.getD_eq_getD_getElem?, Option.getD_some, e5]; rfl)) ?_
        with_reducible refine (HCK.out w').mono ?_
        rintro e w2 ⟨rfl, hb⟩
        refine ⟨_, rfl, ?_⟩
        refine hK.out _ _ ⟨(by rw [ha.out]; exact putSel_upk 1 hb_ rfl rfl rfl), below_then B0.out B0.out.size hb⟩
      refine steps_cons ?_ ?_
      · rintro b a w' ⟨ha, Q_B0⟩ hb_ hon hoff
        refine ⟨_, rfl, fun K hK => ?_⟩
        have e6 : a.tmps[6]? = some (.int .i64 3) := by rw [ha]; exact putSel_on (e := (1, 6, .int .i64 3)) 1 rfl rfl (hon 1 (by kernel_rfl)) rfl
        replace ha := Aside0.mk ha
        have B0 := Aside0.mk Q_B0
        refine value_ (w1 := w') (v := .bool false) (by rfl) rfl ?_ ?_
        · go_simp
          (try simp only [i64_w])
          try rfl
        refine hK.out _ _ ⟨(by rw [ha.out]; exact putSel_upk 2 hb_ rfl rfl rfl), Q_B0⟩
      refine steps_cons ?_ ?_
      · rintro b a w' ⟨ha, Q_B0⟩ hb_ hon hoff
        refine ⟨_, rfl, fun K hK => ?_⟩
        have e7 : a.tmps[7]? = some (.bool false) := by rw [ha]; exact putSel_on (e := (2, 7, .bool false)) 2 rfl rfl (hon 2 (by kernel_rfl)) rfl
        replace ha := Aside0.mk ha
        have B0 := Aside0.mk Q_B0
        refine value_ (w1 := w') (v := .bool false) (by rfl) rfl ?_ ?_
        · go_simp
          (try simp only [i64_w])
          try rfl
        refine hK.out _ _ ⟨(by rw [ha.out]; exact putSel_upk 3 hb_ rfl rfl rfl), Q_B0⟩
      refine steps_cons ?_ ?_
      · rintro b a w' ⟨ha, Q_B0⟩ hb_ hon hoff
        refine ⟨_, rfl, fun K hK => ?_⟩
        have e8 : a.tmps[8]? = some (.bool false) := by rw [ha]; exact putSel_on (e := (3, 8, .bool false)) 3 rfl rfl (hon 3 (by kernel_rfl)) rfl
        replace ha := Aside0.mk ha
        have B0 := Aside0.mk Q_B0
        refine off_ (wanted_off rfl rfl rfl (e8.trans (by first | rfl | (simp [*]; done)))) ?_
        refine hK.out _ _ ⟨(by rw [ha.out]; exact putSel_upk 4 hb_ rfl rfl rfl), Q_B0⟩
      refine steps_cons ?_ ?_
      · rintro b a w' ⟨ha, Q_B0⟩ hb_ hon hoff
        refine ⟨_, rfl, fun K hK => ?_⟩
        have e8 : a.tmps[8]? = some (.bool false) := by rw [ha]; exact putSel_on (e := (3, 8, .bool false)) 3 rfl rfl (hon 3 (by kernel_rfl)) rfl
        replace ha := Aside0.mk ha
        have B0 := Aside0.mk Q_B0
        refine off_ (wanted_off rfl rfl rfl (e8.trans (by first | rfl | (simp [*]; done)))) ?_
        refine hK.out _ _ ⟨(by rw [ha.out]; exact putSel_upk 5 hb_ rfl rfl rfl), Q_B0⟩
      refine steps_cons ?_ ?_
      · rintro b a w' ⟨ha, Q_B0⟩ hb_ hon hoff
        refine ⟨_, rfl, fun K hK => ?_⟩
        have e8 : a.tmps[8]? = some (.bool false) := by rw [ha]; exact putSel_on (e := (3, 8, .bool false)) 3 rfl rfl (hon 3 (by kernel_rfl)) rfl
        replace ha := Aside0.mk ha
        have B0 := Aside0.mk Q_B0
        refine off_ (wanted_off rfl rfl rfl (e8.trans (by first | rfl | (simp [*]; done)))) ?_
        refine hK.out _ _ ⟨(by rw [ha.out]; exact putSel_upk 6 hb_ rfl rfl rfl), Q_B0⟩
      refine steps_cons ?_ ?_
      · rintro b a w' ⟨ha, Q_B0⟩ hb_ hon hoff
        refine ⟨_, rfl, fun K hK => ?_⟩
        have e8 : a.tmps[8]? = some (.bool false) := by rw [ha]; exact putSel_on (e := (3, 8, .bool false)) 3 rfl rfl (hon 3 (by kernel_rfl)) rfl
        replace ha := Aside0.mk ha
        have B0 := Aside0.mk Q_B0
        refine off_ (wanted_off rfl rfl rfl (e8.trans (by first | rfl | (simp [*]; done)))) ?_
        refine hK.out _ _ ⟨(by rw [ha.out]; exact putSel_upk 7 hb_ rfl rfl rfl), Q_B0⟩
      refine steps_cons ?_ ?_
      · rintro b a w' ⟨ha, Q_B0⟩ hb_ hon hoff
        refine ⟨_, rfl, fun K hK => ?_⟩
        have e8 : a.tmps[8]? = some (.bool false) := by rw [ha]; exact putSel_on (e := (3, 8, .bool false)) 3 rfl rfl (hon 3 (by kernel_rfl)) rfl
        replace ha := Aside0.mk ha
        have B0 := Aside0.mk Q_B0
        refine off_ (wanted_off rfl rfl rfl (e8.trans (by first | rfl | (simp [*]; done)))) ?_
        refine hK.out _ _ ⟨(by rw [ha.out]; exact putSel_upk 8 hb_ rfl rfl rfl), Q_B0⟩
      refine steps_cons ?_ ?_
      · rintro b a w' ⟨ha, Q_B0⟩ hb_ hon hoff
        refine ⟨_, rfl, fun K hK => ?_⟩
        have e8 : a.tmps[8]? = some (.bool false) := by rw [ha]; exact putSel_on (e := (3, 8, .bool false)) 3 rfl rfl (hon 3 (by kernel_rfl)) rfl
        have e13 : a.tmps[13]? = some (undef) := by rw [ha]; exact putSel_on (e := (8, 13, undef)) 8 rfl rfl (hon 8 (by kernel_rfl)) rfl
        replace ha := Aside0.mk ha
        have B0 := Aside0.mk Q_B0
        refine value_ (w1 := w') (v := .bool false) (by rfl) rfl ?_ ?_
        · go_simp
          (try simp only [i64_w])
          try rfl
        refine hK.out _ _ ⟨(by rw [ha.out]; exact putSel_upk 9 hb_ rfl rfl rfl), Q_B0⟩
      refine steps_cons ?_ ?_
      · rintro b a w' ⟨ha, Q_B0⟩ hb_ hon hoff
        refine ⟨_, rfl, fun K hK => ?_⟩
        have e14 : a.tmps[14]? = some (.bool false) := by rw [ha]; exact putSel_on (e := (9, 14, .bool false)) 9 rfl rfl (hon 9 (by kernel_rfl)) rfl
        replace ha := Aside0.mk ha
        have B0 := Aside0.mk Q_B0
        refine value_ (w1 := w') (v := .bool false) (by rfl) rfl ?_ ?_
        · go_simp
          (try simp only [i64_w])
          try rfl
        refine hK.out _ _ ⟨(by rw [ha.out]; exact putSel_upk 10 hb_ rfl rfl rfl), Q_B0⟩
      exact steps_nil
    rintro b a w2 hall ⟨ha, Q_B0⟩
    clear B0
    have hb0_ := hall 0 (by kernel_rfl)
    have hb1_ := hall 1 (by kernel_rfl)
    have hb2_ := hall 2 (by kernel_rfl)
    have hb3_ := hall 3 (by kernel_rfl)
    have hb4_ := hall 4 (by kernel_rfl)
    have hb5_ := hall 5 (by kernel_rfl)
    have hb6_ := hall 6 (by kernel_rfl)
    have hb7_ := hall 7 (by kernel_rfl)
    have hb8_ := hall 8 (by kernel_rfl)
    have hb9_ := hall 9 (by kernel_rfl)
    have hb10_ := hall 10 (by kernel_rfl)
    subst ha
    simp only [putSel, hb0_, hb1_, hb2_, hb3_, hb4_, hb5_, hb6_, hb7_, hb8_, hb9_, hb10_, if_true, Act.put, List.setIfInBounds_toArray, List.set_cons_zero, List.set_cons_succ]
    have B0 := Aside0.mk Q_B0
    clear Q_B0
    clear hall hb0_ hb1_ hb2_ hb3_ hb4_ hb5_ hb6_ hb7_ hb8_ hb9_ hb10_
    go_wp2_with fail
    go_ret
    exact ⟨rfl, below_then HB.out HB.out.size B0.out⟩
  | true =>
    have HRT := Aside0.mk (show geom_Check.f B P C = some 0 by unfold geom_Check.f; unfold ND.rightG at hr; rw [hr]; rfl)
    have HCK := Aside0.mk (fun w => geom_Check.calls B P C _ w HRT.out)
    obtain ⟨n, hn⟩ : ∃ n, n = cntK l 1 := ⟨_, rfl⟩
    rw [← hn]
    obtain ⟨q, hq⟩ : ∃ q, q = decide (n ≤ C) := ⟨_, rfl⟩
    rw [← hq, Bool.true_and]
    have HQ := Aside0.mk hq.symm
    have HNN := Aside0.mk hn
    clear hr hn hq
    go_enter Try.func43, Try.ntmps43
    go_upto_region 1 with fail
    generalize w.alloc (.cells #[.int .i64 B, .int .i64 P, .int .i64 C] 23) = W1 at hz1 hb1 HC1 ⊢
    rw [← hg] at hz1 ⊢
    have HZ := Aside0.mk hz1
    have HB := Aside0.mk hb1
    have HCC : Aside0 (∀ W', Below W1.heap.size W1 W' → Calls Try.prog 42 #[.slice A l.length cp, .int .i64 1] W' fun e w' => e = .returned (.int .i64 n) ∧ Below W'.heap.size W' w') := ⟨fun W' hW => by rw [HNN.out]; exact count_calls l A cp 1 W' HL.out (Kd.C_below HC1.out hW)⟩
    have B0 := Aside0.mk (below_drew1 (Below.refl W1.heap.size W1))
    clear hz1 hb1 hg
    refine start_ (n := 11) (S := fun w' => True) (ds := []) #[false, false, false, false, false, false, false, false, false, false, false] (by kernel_rfl) rfl rfl trivial (fun hHeld => ?_)
    refine with_tabW within1.tab1 within1.bits1 (fun HT_ HW_ => ?_)
    generalize W1.drew = wq at B0 hHeld ⊢
    refine inv_at [0, 1, 2, 3, 4, 5, 6, 7, 8, 9, 10] (fun a0_ b a w' => a = putSel a0_ b [(0, 5, .agg #[.int .i64 B, .int .i64 P, .int .i64 C]), (1, 6, .int .i64 0), (2, 7, .bool true), (3, 8, .bool true), (4, 9, .slice A l.length cp), (5, 10, .int .i64 n), (6, 11, .pointer (some ⟨g, 2, none⟩)), (7, 12, .int .i64 C), (8, 13, .bool q), (9, 14, .bool q), (10, 4, .bool q)] ∧ (Below W1.heap.size W1 w')) HT_.out HW_.out (by kernel_rfl) (by kernel_rfl) ?_ ?_ ?_
    · exact ⟨by simp only [putSel, Bool.false_eq_true, if_false], B0.out⟩
    · skip
      clear B0
      refine steps_cons ?_ ?_
      · rintro b a w' ⟨ha, Q_B0⟩ hb_ hon hoff
        refine ⟨_, rfl, fun K hK => ?_⟩
        have e2 : a.tmps[2]? = some (.pointer (some ⟨g, 0, none⟩)) := by rw [ha]; exact (putSel_off rfl).trans rfl
        replace ha := Aside0.mk ha
        have B0 := Aside0.mk Q_B0
        have c0_ := blk_cell (blk_below HZ.out B0.out) 0
        have c1_ := blk_cell (blk_below HZ.out B0.out) 1
        have c2_ := blk_cell (blk_below HZ.out B0.out) 2
        refine value_ (w1 := w') (v := .agg #[.int .i64 B, .int .i64 P, .int .i64 C]) (by rfl) rfl ?_ ?_
        · go_simp
          (try simp only [i64_w])
          try rfl
        refine hK.out _ _ ⟨(by rw [ha.out]; exact putSel_upk 0 hb_ rfl rfl rfl), Q_B0⟩
      refine steps_cons ?_ ?_
      · rintro b a w' ⟨ha, Q_B0⟩ hb_ hon hoff
        refine ⟨_, rfl, fun K hK => ?_⟩
        have e5 : a.tmps[5]? = some (.agg #[.int .i64 B, .int .i64 P, .int .i64 C]) := by rw [ha]; exact putSel_on (e := (0, 5, .agg #[.int .i64 B, .int .i64 P, .int .i64 C])) 0 rfl rfl (hon 0 (by kernel_rfl)) rfl
        replace ha := Aside0.mk ha
        have B0 := Aside0.mk Q_B0
        refine goes_ Try.func60 (by kernel_rfl) rfl #[.agg #[.int .i64 B, .int .i64 P, .int .i64 C]] (by rfl) rfl rfl (by first | (simp only [List.map_toArray, List.map_cons, List.map_nil, Act.eval, Array.getD_eq_getD_getElem?, Option.getD_some, e5]; done) | (simp only [List.map_toArray, List.map_cons, List.map_nil, Act.eval, Array.getD_eq_getD_getElem?, Option.getD_some, e5]; rfl)) ?_
        with_reducible refine (HCK.out w').mono ?_
        rintro e w2 ⟨rfl, hb⟩
        refine ⟨_, rfl, ?_⟩
        refine hK.out _ _ ⟨(by rw [ha.out]; exact putSel_upk 1 hb_ rfl rfl rfl), below_then B0.out B0.out.size hb⟩
      refine steps_cons ?_ ?_
      · rintro b a w' ⟨ha, Q_B0⟩ hb_ hon hoff
        refine ⟨_, rfl, fun K hK => ?_⟩
        have e6 : a.tmps[6]? = some (.int .i64 0) := by rw [ha]; exact putSel_on (e := (1, 6, .int .i64 0)) 1 rfl rfl (hon 1 (by kernel_rfl)) rfl
        replace ha := Aside0.mk ha
        have B0 := Aside0.mk Q_B0
        refine value_ (w1 := w') (v := .bool true) (by rfl) rfl ?_ ?_
        · go_simp
          (try simp only [i64_w])
          try rfl
        refine hK.out _ _ ⟨(by rw [ha.out]; exact putSel_upk 2 hb_ rfl rfl rfl), Q_B0⟩
      refine steps_cons ?_ ?_
      · rintro b a w' ⟨ha, Q_B0⟩ hb_ hon hoff
        refine ⟨_, rfl, fun K hK => ?_⟩
        have e7 : a.tmps[7]? = some (.bool true) := by rw [ha]; exact putSel_on (e := (2, 7, .bool true)) 2 rfl rfl (hon 2 (by kernel_rfl)) rfl
        replace ha := Aside0.mk ha
        have B0 := Aside0.mk Q_B0
        refine value_ (w1 := w') (v := .bool true) (by rfl) rfl ?_ ?_
        · go_simp
          (try simp only [i64_w])
          try rfl
        refine hK.out _ _ ⟨(by rw [ha.out]; exact putSel_upk 3 hb_ rfl rfl rfl), Q_B0⟩
      refine steps_cons ?_ ?_
      · rintro b a w' ⟨ha, Q_B0⟩ hb_ hon hoff
        refine ⟨_, rfl, fun K hK => ?_⟩
        have e1 : a.tmps[1]? = some (.slice A l.length cp) := by rw [ha]; exact (putSel_off rfl).trans rfl
        have e8 : a.tmps[8]? = some (.bool true) := by rw [ha]; exact putSel_on (e := (3, 8, .bool true)) 3 rfl rfl (hon 3 (by kernel_rfl)) rfl
        replace ha := Aside0.mk ha
        have B0 := Aside0.mk Q_B0
        refine value_ (w1 := w') (v := .slice A l.length cp) (wanted_on rfl rfl rfl (e8.trans (by first | rfl | (simp [*]; done)))) rfl ?_ ?_
        · go_simp
          (try simp only [i64_w])
          try rfl
        refine hK.out _ _ ⟨(by rw [ha.out]; exact putSel_upk 4 hb_ rfl rfl rfl), Q_B0⟩
      refine steps_cons ?_ ?_
      · rintro b a w' ⟨ha, Q_B0⟩ hb_ hon hoff
        refine ⟨_, rfl, fun K hK => ?_⟩
        have e9 : a.tmps[9]? = some (.slice A l.length cp) := by rw [ha]; exact putSel_on (e := (4, 9, .slice A l.length cp)) 4 rfl rfl (hon 4 (by kernel_rfl)) rfl
        have e8 : a.tmps[8]? = some (.bool true) := by rw [ha]; exact putSel_on (e := (3, 8, .bool true)) 3 rfl rfl (hon 3 (by kernel_rfl)) rfl
        replace ha := Aside0.mk ha
        have B0 := Aside0.mk Q_B0
        refine goes_ Try.func42 (by kernel_rfl) rfl #[.slice A l.length cp, .int .i64 1] (wanted_on rfl rfl rfl (e8.trans rfl)) rfl rfl (by first | (simp only [List.map_toArray, List.map_cons, List.map_nil, Act.eval, Array.getD_eq_getD_getElem?, Option.getD_some, e9, e8]; done) | (simp only [List.map_toArray, List.map_cons, List.map_nil, Act.eval, Array.getD_eq_getD_getElem?, Option.getD_some, e9, e8]; rfl)) ?_
        with_reducible refine (HCC.out _ B0.out).mono ?_
        rintro e w2 ⟨rfl, hb⟩
        refine ⟨_, rfl, ?_⟩
        refine hK.out _ _ ⟨(by rw [ha.out]; exact putSel_upk 5 hb_ rfl rfl rfl), below_then B0.out B0.out.size hb⟩
      refine steps_cons ?_ ?_
      · rintro b a w' ⟨ha, Q_B0⟩ hb_ hon hoff
        refine ⟨_, rfl, fun K hK => ?_⟩
        have e2 : a.tmps[2]? = some (.pointer (some ⟨g, 0, none⟩)) := by rw [ha]; exact (putSel_off rfl).trans rfl
        have e8 : a.tmps[8]? = some (.bool true) := by rw [ha]; exact putSel_on (e := (3, 8, .bool true)) 3 rfl rfl (hon 3 (by kernel_rfl)) rfl
        replace ha := Aside0.mk ha
        have B0 := Aside0.mk Q_B0
        refine value_ (w1 := w') (v := .pointer (some ⟨g, 2, none⟩)) (wanted_on rfl rfl rfl (e8.trans (by first | rfl | (simp [*]; done)))) rfl ?_ ?_
        · go_simp
          (try simp only [i64_w])
          try rfl
        refine hK.out _ _ ⟨(by rw [ha.out]; exact putSel_upk 6 hb_ rfl rfl rfl), Q_B0⟩
      refine steps_cons ?_ ?_
      · rintro b a w' ⟨ha, Q_B0⟩ hb_ hon hoff
        refine ⟨_, rfl, fun K hK => ?_⟩
        have e11 : a.tmps[11]? = some (.pointer (some ⟨g, 2, none⟩)) := by rw [ha]; exact putSel_on (e := (6, 11, .pointer (some ⟨g, 2, none⟩))) 6 rfl rfl (hon 6 (by kernel_rfl)) rfl
        have e8 : a.tmps[8]? = some (.bool true) := by rw [ha]; exact putSel_on (e := (3, 8, .bool true)) 3 rfl rfl (hon 3 (by kernel_rfl)) rfl
        replace ha := Aside0.mk ha
        have B0 := Aside0.mk Q_B0
        have c0_ := blk_cell (blk_below HZ.out B0.out) 2
        refine value_ (w1 := w') (v := .int .i64 C) (wanted_on rfl rfl rfl (e8.trans (by first | rfl | (simp [*]; done)))) rfl ?_ ?_
        · go_simp
          (try simp only [i64_w])
          try rfl
        refine hK.out _ _ ⟨(by rw [ha.out]; exact putSel_upk 7 hb_ rfl rfl rfl), Q_B0⟩
      refine steps_cons ?_ ?_
      · rintro b a w' ⟨ha, Q_B0⟩ hb_ hon hoff
        refine ⟨_, rfl, fun K hK => ?_⟩
        have e10 : a.tmps[10]? = some (.int .i64 n) := by rw [ha]; exact putSel_on (e := (5, 10, .int .i64 n)) 5 rfl rfl (hon 5 (by kernel_rfl)) rfl
        have e12 : a.tmps[12]? = some (.int .i64 C) := by rw [ha]; exact putSel_on (e := (7, 12, .int .i64 C)) 7 rfl rfl (hon 7 (by kernel_rfl)) rfl
        have e8 : a.tmps[8]? = some (.bool true) := by rw [ha]; exact putSel_on (e := (3, 8, .bool true)) 3 rfl rfl (hon 3 (by kernel_rfl)) rfl
        replace ha := Aside0.mk ha
        have B0 := Aside0.mk Q_B0
        have q_ := HQ.out
        refine value_ (w1 := w') (v := .bool q) (wanted_on rfl rfl rfl (e8.trans (by first | rfl | (simp [*]; done)))) rfl ?_ ?_
        · go_simp
          (try simp only [i64_w])
          try rfl
        refine hK.out _ _ ⟨(by rw [ha.out]; exact putSel_upk 8 hb_ rfl rfl rfl), Q_B0⟩
      refine steps_cons ?_ ?_
      · rintro b a w' ⟨ha, Q_B0⟩ hb_ hon hoff
        refine ⟨_, rfl, fun K hK => ?_⟩
        have e8 : a.tmps[8]? = some (.bool true) := by rw [ha]; exact putSel_on (e := (3, 8, .bool true)) 3 rfl rfl (hon 3 (by kernel_rfl)) rfl
        have e13 : a.tmps[13]? = some (.bool q) := by rw [ha]; exact putSel_on (e := (8, 13, .bool q)) 8 rfl rfl (hon 8 (by kernel_rfl)) rfl
        replace ha := Aside0.mk ha
        have B0 := Aside0.mk Q_B0
        refine value_ (w1 := w') (v := .bool q) (by rfl) rfl ?_ ?_
        · go_simp
          (try simp only [i64_w])
          try rfl
        refine hK.out _ _ ⟨(by rw [ha.out]; exact putSel_upk 9 hb_ rfl rfl rfl), Q_B0⟩
      refine steps_cons ?_ ?_
      · rintro b a w' ⟨ha, Q_B0⟩ hb_ hon hoff
        refine ⟨_, rfl, fun K hK => ?_⟩
        have e14 : a.tmps[14]? = some (.bool q) := by rw [ha]; exact putSel_on (e := (9, 14, .bool q)) 9 rfl rfl (hon 9 (by kernel_rfl)) rfl
        replace ha := Aside0.mk ha
        have B0 := Aside0.mk Q_B0
        refine value_ (w1 := w') (v := .bool q) (by rfl) rfl ?_ ?_
        · go_simp
          (try simp only [i64_w])
          try rfl
        refine hK.out _ _ ⟨(by rw [ha.out]; exact putSel_upk 10 hb_ rfl rfl rfl), Q_B0⟩
      exact steps_nil
    rintro b a w2 hall ⟨ha, Q_B0⟩
    clear B0
    have hb0_ := hall 0 (by kernel_rfl)
    have hb1_ := hall 1 (by kernel_rfl)
    have hb2_ := hall 2 (by kernel_rfl)
    have hb3_ := hall 3 (by kernel_rfl)
    have hb4_ := hall 4 (by kernel_rfl)
    have hb5_ := hall 5 (by kernel_rfl)
    have hb6_ := hall 6 (by kernel_rfl)
    have hb7_ := hall 7 (by kernel_rfl)
    have hb8_ := hall 8 (by kernel_rfl)
    have hb9_ := hall 9 (by kernel_rfl)
    have hb10_ := hall 10 (by kernel_rfl)
    subst ha
    simp only [putSel, hb0_, hb1_, hb2_, hb3_, hb4_, hb5_, hb6_, hb7_, hb8_, hb9_, hb10_, if_true, Act.put, List.setIfInBounds_toArray, List.set_cons_zero, List.set_cons_succ]
    have B0 := Aside0.mk Q_B0
    clear Q_B0
    clear hall hb0_ hb1_ hb2_ hb3_ hb4_ hb5_ hb6_ hb7_ hb8_ hb9_ hb10_
    go_wp2_with fail
    go_ret
    exact ⟨rfl, below_then HB.out HB.out.size B0.out⟩
end Go.Proofs.Ytnchdmidaigheaa.QS
namespace Go.Proofs.Ytnchdmidaigheaa.ND
set_option linter.unusedVariables false
set_option linter.unusedSimpArgs false
open Go.RowKit Go.Proofs.Ytnchdmidaigheaa.Hp Go.Proofs.YtnchdmidaigheaaW.PrintWords Go.Proofs.YtnchdmidaigheaaW.PrintLast Go.Proofs.YtnchdmidaigheaaW.PrintMore
def erase12.T12 : Bool × List (List Nat × List Nat) := (true, [([], []), ([0], [0]), ([1], [1]), ([2], [2]), ([], []), ([], []), ([5], [5]), ([6], [6]), ([7], [7]), ([8], [8]), ([3, 4, 0, 1, 2, 3, 4, 5, 6, 7, 8, 9], [3, 4]), ([10, 9, 0, 1, 2, 3, 4, 5, 6, 7, 8, 9], [9, 10])])
def erase12.B12 : List Nat := [0, 1, 3, 7, 0, 0, 32, 96, 224, 480, 1023, 2047]
end Go.Proofs.Ytnchdmidaigheaa.ND
namespace Go.Proofs.Ytnchdmidaigheaa.ND
set_option linter.unusedVariables false
set_option linter.unusedSimpArgs false
open Go.RowKit Go.Proofs.Ytnchdmidaigheaa.Hp Go.Proofs.YtnchdmidaigheaaW.PrintWords Go.Proofs.YtnchdmidaigheaaW.PrintLast Go.Proofs.YtnchdmidaigheaaW.PrintMore
section
variable {P : Program} {ops : Array Oper} {rest : List Oper} {Q : Exit → Act → World → Prop}
end
abbrev Fp := Flt × Option Addr × Nat
def FRow (W : World) (ok : Nat → Prop) (ps : List Fp) : Prop := ∀ p ∈ ps, p.1.f2.length ≤ p.2.2 ∧ Kd.F (Kd.int .u8) W ok p.2.1 p.1.f2.length p.1.f2
theorem FRow.step {W W' : World} {ok : Nat → Prop} {ps : List Fp} (h : FRow W ok ps) (hm : ∀ k, ok k → k < W.heap.size → W'.heap[k]? = W.heap[k]?) : FRow W' ok ps := fun p hp => ⟨(h p hp).1, Kd.F_step (h p hp).2 hm⟩
theorem FRow.snoc {W : World} {ok : Nat → Prop} {ps : List Fp} (h : FRow W ok ps) {p : Fp} (h1 : p.1.f2.length ≤ p.2.2) (h2 : Kd.F (Kd.int .u8) W ok p.2.1 p.1.f2.length p.1.f2) : FRow W ok (ps ++ [p]) := fun q hq => by
  rcases List.mem_append.1 hq with hq | hq
  · exact h q hq
  · rw [List.mem_singleton.1 hq]; exact ⟨h1, h2⟩
end Go.Proofs.Ytnchdmidaigheaa.ND
namespace Go.Proofs.Ytnchdmidaigheaa.ND
set_option linter.unusedVariables false
set_option linter.unusedSimpArgs false
open Go.RowKit Go.Proofs.Ytnchdmidaigheaa.Hp Go.Proofs.YtnchdmidaigheaaW.PrintWords Go.Proofs.YtnchdmidaigheaaW.PrintLast Go.Proofs.YtnchdmidaigheaaW.PrintMore
abbrev okv (W5 : World) (v : Value) (k : Nat) : Prop := W5.heap.size ≤ k ∧ some k ≠ v.ownBlock
theorem Pages.snoc {W : World} {ok : Nat → Prop} {vs : List Value} {ps : List (List Int)} (h : Pages W ok vs ps) {A : Option Addr} {c : Nat} {l : List Int} (hc : 256 ≤ c) (hF : Kd.F (Kd.int .u8) W ok A 256 l) : Pages W ok (vs ++ [.slice A 256 c]) (ps ++ [l]) := by
  refine ⟨by rw [List.length_append, List.length_append, h.1]; rfl, fun i v x hv hx => ?_⟩
  rcases Nat.lt_or_ge i vs.length with hi | hi
  · rw [List.getElem?_append_left hi] at hv
    rw [List.getElem?_append_left (by have := h.1; omega)] at hx
    exact h.2 i v x hv hx
  · have hi' : i = vs.length := by
      have := (List.getElem?_eq_some_iff.1 hv).1
      rw [List.length_append] at this
      have e : [Value.slice A 256 c].length = 1 := rfl
      omega
    subst hi'
    rw [List.getElem?_append_right (Nat.le_refl _), Nat.sub_self] at hv
    rw [List.getElem?_append_right (by have := h.1; omega), show vs.length - ps.length = 0 by have := h.1; omega] at hx
    obtain rfl := Option.some.inj hv
    obtain rfl := Option.some.inj hx
    exact ⟨A, c, rfl, hc, hF⟩
section
variable {P : Program} {ops : Array Oper} {Q : Exit → Act → World → Prop}
end
def new4.T4 : Bool × List (List Nat × List Nat) := (true, [([], []), ([], []), ([1], [1]), ([2, 2], [2]), ([], []), ([4], [4]), ([5, 5], [5]), ([], []), ([7], [7]), ([8, 8], [8]), ([0, 3, 6, 9], [0, 3, 6, 9]), ([10], [10]), ([11, 0, 1, 2, 3, 4, 5, 6, 7, 8, 9, 10, 11], [11])])
def new4.B4 : List Nat := [0, 0, 2, 6, 0, 16, 48, 0, 128, 384, 1023, 2047, 4095]
theorem new4.tab4 : rtab .any (opsOf Try.f14 4) = new4.T4 := by kernel_rfl
theorem new4.bits4 : waitsOk new4.T4.2 new4.B4 = true := by kernel_rfl
def new19.T19 : Bool × List (List Nat × List Nat) := (true, [([], []), ([], []), ([1], [1]), ([2], [2]), ([3], [3]), ([], []), ([5], [5]), ([4, 6], [4, 6]), ([0, 0, 1, 2, 3, 4, 5, 6, 7], [0]), ([8, 0, 1, 2, 3, 4, 5, 6, 7], [8]), ([9, 7, 7, 0, 1, 2, 3, 4, 5, 6, 7], [7, 9])])
def new19.B19 : List Nat := [0, 0, 2, 6, 14, 0, 32, 126, 255, 511, 1023]
theorem new19.tab19 : rtab .any (opsOf Try.f14 19) = new19.T19 := by kernel_rfl
theorem new19.bits19 : waitsOk new19.T19.2 new19.B19 = true := by kernel_rfl
end Go.Proofs.Ytnchdmidaigheaa.ND
namespace Go.Proofs.Ytnchdmidaigheaa.ND
set_option linter.unusedVariables false
set_option linter.unusedSimpArgs false
open Go.RowKit Go.Proofs.Ytnchdmidaigheaa.Hp Go.Proofs.YtnchdmidaigheaaW.PrintWords Go.Proofs.YtnchdmidaigheaaW.PrintLast Go.Proofs.YtnchdmidaigheaaW.PrintMore
theorem lit1_int {W : World} {g T : Nat} {k : IntKind} {x : Int} (h : W.heap[g]? = some (.cells #[.int k x] T (0, 0))) : Kd.C (Kd.int k) W (some ⟨g, 0, none⟩) 1 [x] :=
  ⟨rfl, by decide, fun _ => ⟨_, rfl, fun j p hp => by
    have hj : j = 0 := by have := (List.getElem?_eq_some_iff.1 hp).1; simp at this; exact this
    subst hj
    obtain rfl : x = p := by simpa using hp
    exact ⟨[.int k x], rfl, rfl, fun i u hu => by
      have hi : i = 0 := by have := (List.getElem?_eq_some_iff.1 hu).1; simp at this; exact this
      subst hi
      rw [add_plain]
      exact (blk_cell h 0).trans hu⟩⟩⟩
def Held (W w : World) (L : Lay) (D : Dv) : Prop := (∃ ok, DV w ok L D) ∧ Below W.heap.size W w ∧ ∀ k, L.S k → W.heap.size ≤ k
theorem Held.below {W w w' : World} {L : Lay} {D : Dv} (h : Held W w L D) (hb : Below w.heap.size w w') : Held W w' L D := by
  obtain ⟨⟨ok, hD⟩, h2, h3⟩ := h
  exact ⟨⟨ok, hD.below hb⟩, below_then h2 h2.size hb, h3⟩
theorem Held.turn {W w w' : World} {L : Lay} {D D' : Dv} {ok' : Nat → Prop} (h : Held W w L D) (hD : DV w' ok' L D') (hT : Turn w w' L.S) : Held W w' L D' :=
  ⟨⟨ok', hD⟩, hT.to_below h.2.1 h.2.1.size h.2.2, h.2.2⟩
theorem Held.lt {W w : World} {L : Lay} {D : Dv} (h : Held W w L D) : ∀ k, L.S k → k < w.heap.size := by obtain ⟨⟨ok, hD⟩, _, _⟩ := h; exact hD.lt
def zs : List Int := List.replicate 256 0
def aF : Flt := ⟨1, 2, [15]⟩
def a0 : Dv := newDv 8 4 0 [3] [aF]
def a1 : Dv := (a0.prog 2 1 zs).2
def a2 : Dv := (a1.prog 2 0 zs).2
def a3 : Dv := (a2.prog 2 1 zs).2
def a4 : Dv := a3.power
end Go.Proofs.Ytnchdmidaigheaa.ND
