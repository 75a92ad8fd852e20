/- Parts of the proof of the statement IndexDoes, laid together (4 of 6). -/
import Derived.Lib.AppendZerosOnto
import Derived.Lib.Overlaps
import Derived.Laws.CopyRow
import Derived.Laws.IdiomCopy
import Derived.Deep.RegionLaw
import Derived.Test.YtaepbgieahedjaaZIndexDoes2
namespace Go.Proofs.Ytaepbgieahedjaa.Hp
open Go.RowKit Go.Proofs.YtaepbgieahedjaaW.PrintWords Go.Proofs.YtaepbgieahedjaaW.PrintLast Go.Proofs.YtaepbgieahedjaaW.PrintMore
attribute [local go_sem] max2_int min2_int max_two min_two max_three min_three max_four min_four   -- for this text's walks alone
set_option linter.unusedVariables false
set_option linter.unusedSimpArgs false
def wagtailref26_Same.f (k : Nat) (a0_0 : Int) (a0_1 : Int) (a0_2 : Int) (a0_3 : Int) (a0_4 : Int) (a0_5 : Bool) (a0_6 : Int) (l0_7 : List Int) (a1_0 : Int) (a1_1 : Int) (a1_2 : Int) (a1_3 : Int) (a1_4 : Int) (a1_5 : Bool) (a1_6 : Int) (l1_7 : List Int) : Option (Bool) := if a0_0 = a1_0 then (if a0_1 = a1_1 then (if a0_2 = a1_2 then (if a0_3 = a1_3 then (if a0_4 = a1_4 then (if (a0_5 == a1_5) = true then (if a0_6 = a1_6 then ((wagtailref01_Ints.f k l0_7 l1_7).bind fun t181 => (some t181)) else (some false)) else (some false)) else (some false)) else (some false)) else (some false)) else (some false)) else (some false)
theorem wagtailref26_Same.mono : ∀ a0 a1 a2 a3 a4 a5 a6 a7 a8 a9 a10 a11 a12 a13 a14 a15 k, LeO (wagtailref26_Same.f k a0 a1 a2 a3 a4 a5 a6 a7 a8 a9 a10 a11 a12 a13 a14 a15) (wagtailref26_Same.f (k + 1) a0 a1 a2 a3 a4 a5 a6 a7 a8 a9 a10 a11 a12 a13 a14 a15) := by
  intro a0 a1 a2 a3 a4 a5 a6 a7 a8 a9 a10 a11 a12 a13 a14 a15 k
  unfold wagtailref26_Same.f
  repeat' first
      | (with_reducible exact wagtailref01_Ints.mono _ _ _)
      | (with_reducible exact LeO.refl _)
      | (with_reducible exact LeO.none _)
      | (with_reducible refine LeO.ite ?_ ?_)
      | (with_reducible refine LeO.bind ?_ (fun _ => ?_))
      | exact wagtailref01_Ints.mono _ _ _
      | exact LeO.none _
      | refine LeO.ite ?_ ?_
      | refine LeO.bind ?_ (fun _ => ?_)
set_option maxHeartbeats 8000000 in
set_option maxRecDepth 100000 in
theorem wagtailref26_Same.calls (k : Nat) (a0_0 : Int) (a0_1 : Int) (a0_2 : Int) (a0_3 : Int) (a0_4 : Int) (a0_5 : Bool) (a0_6 : Int) (A0_7 : Option Addr) (c0_7 : Nat) (l0_7 : List Int) (a1_0 : Int) (a1_1 : Int) (a1_2 : Int) (a1_3 : Int) (a1_4 : Int) (a1_5 : Bool) (a1_6 : Int) (A1_7 : Option Addr) (c1_7 : Nat) (l1_7 : List Int) (r : Bool) (w : World) (hr0_7 : Kd.C (Kd.int .i64) w A0_7 l0_7.length l0_7) (hc0_7 : l0_7.length ≤ c0_7) (hr1_7 : Kd.C (Kd.int .i64) w A1_7 l1_7.length l1_7) (hc1_7 : l1_7.length ≤ c1_7) (h : wagtailref26_Same.f k a0_0 a0_1 a0_2 a0_3 a0_4 a0_5 a0_6 l0_7 a1_0 a1_1 a1_2 a1_3 a1_4 a1_5 a1_6 l1_7 = some r) :
    Calls Try.prog 11 #[.agg #[.int .u64 a0_0, .int .u64 a0_1, .int .i64 a0_2, .int .i64 a0_3, .int .u64 a0_4, .bool a0_5, .int .i64 a0_6, .slice A0_7 l0_7.length c0_7], .agg #[.int .u64 a1_0, .int .u64 a1_1, .int .i64 a1_2, .int .i64 a1_3, .int .u64 a1_4, .bool a1_5, .int .i64 a1_6, .slice A1_7 l1_7.length c1_7]] w fun e w' => e = .returned (.bool r) ∧ Below w.heap.size w w' := by
  have hu29 := Try.underlying29
  have HR0_7 := Aside0.mk hr0_7
  have HC0_7 := Aside0.mk hc0_7
  clear hr0_7 hc0_7
  have HR1_7 := Aside0.mk hr1_7
  have HC1_7 := Aside0.mk hc1_7
  clear hr1_7 hc1_7
  have HB := Aside0.mk (Below.refl w.heap.size w)
  have H : (if a0_0 = a1_0 then (if a0_1 = a1_1 then (if a0_2 = a1_2 then (if a0_3 = a1_3 then (if a0_4 = a1_4 then (if (a0_5 == a1_5) = true then (if a0_6 = a1_6 then ((wagtailref01_Ints.f k l0_7 l1_7).bind fun t181 => (some t181)) else (some false)) else (some false)) else (some false)) else (some false)) else (some false)) else (some false)) else (some false)) = some r := h
  clear h
  by_cases c3 : a0_0 = a1_0
  · rw [if_pos c3] at H
    have c3b0 : (a0_0 == a1_0) = true := beq_iff_eq.mpr c3
    have c3b1 : (a0_0 != a1_0) = false := bne_eq_false_iff_eq.mpr c3
    clear c3
    by_cases c4 : a0_1 = a1_1
    · rw [if_pos c4] at H
      have c4b0 : (a0_1 == a1_1) = true := beq_iff_eq.mpr c4
      have c4b1 : (a0_1 != a1_1) = false := bne_eq_false_iff_eq.mpr c4
      clear c4
      by_cases c5 : a0_2 = a1_2
      · rw [if_pos c5] at H
        have c5b0 : (a0_2 == a1_2) = true := beq_iff_eq.mpr c5
        have c5b1 : (a0_2 != a1_2) = false := bne_eq_false_iff_eq.mpr c5
        clear c5
        by_cases c6 : a0_3 = a1_3
        · rw [if_pos c6] at H
          have c6b0 : (a0_3 == a1_3) = true := beq_iff_eq.mpr c6
          have c6b1 : (a0_3 != a1_3) = false := bne_eq_false_iff_eq.mpr c6
          clear c6
          by_cases c7 : a0_4 = a1_4
          · rw [if_pos c7] at H
            have c7b0 : (a0_4 == a1_4) = true := beq_iff_eq.mpr c7
            have c7b1 : (a0_4 != a1_4) = false := bne_eq_false_iff_eq.mpr c7
            clear c7
            by_cases c8 : (a0_5 == a1_5) = true
            · rw [if_pos c8] at H
              have c8b0 : (a0_5 == a1_5) = true := c8
              (try (have c8b1 : decide (a0_5 = a1_5) = true := by simpa using c8))
              (try (have c8b2 : (a0_5 == a1_5) = true := by simpa using c8))
              clear c8
              by_cases c9 : a0_6 = a1_6
              · rw [if_pos c9] at H
                have c9b0 : (a0_6 == a1_6) = true := beq_iff_eq.mpr c9
                have c9b1 : (a0_6 != a1_6) = false := bne_eq_false_iff_eq.mpr c9
                clear c9
                replace H := Option.bind_eq_some_iff.mp H
                obtain ⟨t181, A100, H⟩ := H
                replace H : (some t181) = some r := H
                have A10 := Aside0.mk A100
                clear A100
                obtain rfl := Option.some.inj H
                go_enter Try.func11, Try.ntmps11
                go_wp2_with (first | ((with_reducible refine gate_dst (N := 2) rfl ?_); refine box_event ?hg (N := 2) ?hd (cs := #[.int .u64 a0_0, .int .u64 a0_1, .int .i64 a0_2, .int .i64 a0_3, .int .u64 a0_4, .bool a0_5, .int .i64 a0_6, .slice A0_7 l0_7.length c0_7]) (t := 29) ?hr ?_; (case hd => rfl); (case hg => rfl); (case hr => first | (go_simp; done) | (go_simp; rfl)); intro gb179 hg w11 hbox hb; have n0_ := Aside0.mk (below_step (by repeat (first | (with_reducible first | exact HB.out | apply below_alloc | apply pw_below_drewN | apply below_drew1) | exact HB.out)) hb); have n1_ := Aside0.mk (hbox); have n2_ := Aside0.mk ((by rw [hg]; exact (below_size (by repeat (first | (with_reducible first | exact HB.out | apply below_alloc | apply pw_below_drewN | apply below_drew1) | exact HB.out))) : w.heap.size ≤ gb179)); have n3_ := Aside0.mk ((by rw [hg]; exact (below_size (by repeat (first | (with_reducible first | exact HB.out | apply below_alloc | apply pw_below_drewN | apply below_drew1) | exact HB.out))) : w.heap.size ≤ gb179)); clear HB; have HB := n0_; have BK179 := n1_; have GW179 := n2_; have GE179 := n3_; clear n0_ n1_ n2_ n3_; clear hb hbox hg) | ((with_reducible refine gate_dst (N := 3) rfl ?_); refine box_event ?hg (N := 3) ?hd (cs := #[.int .u64 a1_0, .int .u64 a1_1, .int .i64 a1_2, .int .i64 a1_3, .int .u64 a1_4, .bool a1_5, .int .i64 a1_6, .slice A1_7 l1_7.length c1_7]) (t := 29) ?hr ?_; (case hd => rfl); (case hg => rfl); (case hr => first | (go_simp; done) | (go_simp; rfl)); intro gb180 hg w12 hbox hb; have n0_ := Aside0.mk (blk_below (g := gb179) (o := .cells #[.int .u64 a0_0, .int .u64 a0_1, .int .i64 a0_2, .int .i64 a0_3, .int .u64 a0_4, .bool a0_5, .int .i64 a0_6, .slice A0_7 l0_7.length c0_7] 29 (0, 0)) (by (with_reducible repeat (first | refine blk_drewN ?_ _ | refine blk_drew ?_ | refine blk_alloc ?_ _)); exact BK179.out) hb); have n1_ := Aside0.mk (below_step (by repeat (first | (with_reducible first | exact HB.out | apply below_alloc | apply pw_below_drewN | apply below_drew1 | refine below_set ?_ GE179.out) | exact HB.out)) hb); have n2_ := Aside0.mk (hbox); have n3_ := Aside0.mk ((by rw [hg]; exact (below_size (by repeat (first | (with_reducible first | exact HB.out | apply below_alloc | apply pw_below_drewN | apply below_drew1 | refine below_set ?_ GE179.out) | exact HB.out))) : w.heap.size ≤ gb180)); have n4_ := Aside0.mk ((by rw [hg]; exact (below_size (by repeat (first | (with_reducible first | exact HB.out | apply below_alloc | apply pw_below_drewN | apply below_drew1 | refine below_set ?_ GE179.out) | exact HB.out))) : w.heap.size ≤ gb180)); have n5_ := Aside0.mk ((by rw [hg]; exact Nat.ne_of_lt (blk_lt (g := gb179) (o := .cells #[.int .u64 a0_0, .int .u64 a0_1, .int .i64 a0_2, .int .i64 a0_3, .int .u64 a0_4, .bool a0_5, .int .i64 a0_6, .slice A0_7 l0_7.length c0_7] 29 (0, 0)) (by (with_reducible repeat (first | refine blk_drewN ?_ _ | refine blk_drew ?_ | refine blk_alloc ?_ _)); exact BK179.out)) : gb179 ≠ gb180)); have n6_ := Aside0.mk ((by rw [hg]; exact Nat.ne_of_gt (blk_lt (g := gb179) (o := .cells #[.int .u64 a0_0, .int .u64 a0_1, .int .i64 a0_2, .int .i64 a0_3, .int .u64 a0_4, .bool a0_5, .int .i64 a0_6, .slice A0_7 l0_7.length c0_7] 29 (0, 0)) (by (with_reducible repeat (first | refine blk_drewN ?_ _ | refine blk_drew ?_ | refine blk_alloc ?_ _)); exact BK179.out)) : gb180 ≠ gb179)); clear BK179; clear HB; have BK179 := n0_; have HB := n1_; have BK180 := n2_; have GW180 := n3_; have GE180 := n4_; have NB179_180 := n5_; have NB180_179 := n6_; clear n0_ n1_ n2_ n3_ n4_ n5_ n6_; clear hb hbox hg; have hnb13 := NB179_180.out; have hnc13 := NB180_179.out; have hcz14_0 : w12.cell? ⟨gb179, 0, none⟩ = some (.int .u64 a0_0) := (blk_cell BK179.out 0).trans rfl; have hcz14_1 : w12.cell? ⟨gb179, 1, none⟩ = some (.int .u64 a0_1) := (blk_cell BK179.out 1).trans rfl; have hcz14_2 : w12.cell? ⟨gb179, 2, none⟩ = some (.int .i64 a0_2) := (blk_cell BK179.out 2).trans rfl; have hcz14_3 : w12.cell? ⟨gb179, 3, none⟩ = some (.int .i64 a0_3) := (blk_cell BK179.out 3).trans rfl; have hcz14_4 : w12.cell? ⟨gb179, 4, none⟩ = some (.int .u64 a0_4) := (blk_cell BK179.out 4).trans rfl; have hcz14_5 : w12.cell? ⟨gb179, 5, none⟩ = some (.bool a0_5) := (blk_cell BK179.out 5).trans rfl; have hcz14_6 : w12.cell? ⟨gb179, 6, none⟩ = some (.int .i64 a0_6) := (blk_cell BK179.out 6).trans rfl; have hcz14_7 : w12.cell? ⟨gb179, 7, none⟩ = some (.slice A0_7 l0_7.length c0_7) := (blk_cell BK179.out 7).trans rfl; have hfz14_0 := blk_frozen BK179.out 0; have hfz14_1 := blk_frozen BK179.out 1; have hfz14_2 := blk_frozen BK179.out 2; have hfz14_3 := blk_frozen BK179.out 3; have hfz14_4 := blk_frozen BK179.out 4; have hfz14_5 := blk_frozen BK179.out 5; have hfz14_6 := blk_frozen BK179.out 6; have hfz14_7 := blk_frozen BK179.out 7; have hcz15_0 : w12.cell? ⟨gb180, 0, none⟩ = some (.int .u64 a1_0) := (blk_cell BK180.out 0).trans rfl; have hcz15_1 : w12.cell? ⟨gb180, 1, none⟩ = some (.int .u64 a1_1) := (blk_cell BK180.out 1).trans rfl; have hcz15_2 : w12.cell? ⟨gb180, 2, none⟩ = some (.int .i64 a1_2) := (blk_cell BK180.out 2).trans rfl; have hcz15_3 : w12.cell? ⟨gb180, 3, none⟩ = some (.int .i64 a1_3) := (blk_cell BK180.out 3).trans rfl; have hcz15_4 : w12.cell? ⟨gb180, 4, none⟩ = some (.int .u64 a1_4) := (blk_cell BK180.out 4).trans rfl; have hcz15_5 : w12.cell? ⟨gb180, 5, none⟩ = some (.bool a1_5) := (blk_cell BK180.out 5).trans rfl; have hcz15_6 : w12.cell? ⟨gb180, 6, none⟩ = some (.int .i64 a1_6) := (blk_cell BK180.out 6).trans rfl; have hcz15_7 : w12.cell? ⟨gb180, 7, none⟩ = some (.slice A1_7 l1_7.length c1_7) := (blk_cell BK180.out 7).trans rfl; have hfz15_0 := blk_frozen BK180.out 0; have hfz15_1 := blk_frozen BK180.out 1; have hfz15_2 := blk_frozen BK180.out 2; have hfz15_3 := blk_frozen BK180.out 3; have hfz15_4 := blk_frozen BK180.out 4; have hfz15_5 := blk_frozen BK180.out 5; have hfz15_6 := blk_frozen BK180.out 6; have hfz15_7 := blk_frozen BK180.out 7) | (go_at_call 12; (with_reducible refine (wagtailref01_Ints.calls k _ _ l0_7 _ _ l1_7 t181 _ ?side1 ?side2 ?side3 ?side4 A10.out).mono ?_); (case side1 => repeat (first | exact (Kd.C_below HR0_7.out HB.out) | (with_reducible refine Kd.C_alloc ?_ _) | (with_reducible refine Kd.C_drewN ?_ _) | (with_reducible refine Kd.C_drew ?_))); (case side2 => exact HC0_7.out); (case side3 => repeat (first | exact (Kd.C_below HR1_7.out HB.out) | (with_reducible refine Kd.C_alloc ?_ _) | (with_reducible refine Kd.C_drewN ?_ _) | (with_reducible refine Kd.C_drew ?_))); (case side4 => exact HC1_7.out); rintro e w' ⟨rfl, ⟨nd, rfl⟩⟩))
                go_ret
                exact ⟨by first | rfl | (simp [errW_none, errW_some] <;> rfl) | (simp [*, errW_none, errW_some] <;> rfl), by repeat (first | (with_reducible first | exact HB.out | apply below_alloc | apply pw_below_drewN | apply below_drew1 | refine below_set ?_ GE179.out | refine below_set ?_ GE180.out) | exact HB.out)⟩
              · rw [if_neg c9] at H
                have c9b0 : (a0_6 == a1_6) = false := beq_eq_false_iff_ne.mpr c9
                have c9b1 : (a0_6 != a1_6) = true := bne_iff_ne.mpr c9
                obtain rfl := Option.some.inj H
                go_enter Try.func11, Try.ntmps11
                go_wp2_with (first | ((with_reducible refine gate_dst (N := 2) rfl ?_); refine box_event ?hg (N := 2) ?hd (cs := #[.int .u64 a0_0, .int .u64 a0_1, .int .i64 a0_2, .int .i64 a0_3, .int .u64 a0_4, .bool a0_5, .int .i64 a0_6, .slice A0_7 l0_7.length c0_7]) (t := 29) ?hr ?_; (case hd => rfl); (case hg => rfl); (case hr => first | (go_simp; done) | (go_simp; rfl)); intro gb179 hg w16 hbox hb; have n0_ := Aside0.mk (below_step (by repeat (first | (with_reducible first | exact HB.out | apply below_alloc | apply pw_below_drewN | apply below_drew1) | exact HB.out)) hb); have n1_ := Aside0.mk (hbox); have n2_ := Aside0.mk ((by rw [hg]; exact (below_size (by repeat (first | (with_reducible first | exact HB.out | apply below_alloc | apply pw_below_drewN | apply below_drew1) | exact HB.out))) : w.heap.size ≤ gb179)); have n3_ := Aside0.mk ((by rw [hg]; exact (below_size (by repeat (first | (with_reducible first | exact HB.out | apply below_alloc | apply pw_below_drewN | apply below_drew1) | exact HB.out))) : w.heap.size ≤ gb179)); clear HB; have HB := n0_; have BK179 := n1_; have GW179 := n2_; have GE179 := n3_; clear n0_ n1_ n2_ n3_; clear hb hbox hg) | ((with_reducible refine gate_dst (N := 3) rfl ?_); refine box_event ?hg (N := 3) ?hd (cs := #[.int .u64 a1_0, .int .u64 a1_1, .int .i64 a1_2, .int .i64 a1_3, .int .u64 a1_4, .bool a1_5, .int .i64 a1_6, .slice A1_7 l1_7.length c1_7]) (t := 29) ?hr ?_; (case hd => rfl); (case hg => rfl); (case hr => first | (go_simp; done) | (go_simp; rfl)); intro gb180 hg w17 hbox hb; have n0_ := Aside0.mk (blk_below (g := gb179) (o := .cells #[.int .u64 a0_0, .int .u64 a0_1, .int .i64 a0_2, .int .i64 a0_3, .int .u64 a0_4, .bool a0_5, .int .i64 a0_6, .slice A0_7 l0_7.length c0_7] 29 (0, 0)) (by (with_reducible repeat (first | refine blk_drewN ?_ _ | refine blk_drew ?_ | refine blk_alloc ?_ _)); exact BK179.out) hb); have n1_ := Aside0.mk (below_step (by repeat (first | (with_reducible first | exact HB.out | apply below_alloc | apply pw_below_drewN | apply below_drew1 | refine below_set ?_ GE179.out) | exact HB.out)) hb); have n2_ := Aside0.mk (hbox); have n3_ := Aside0.mk ((by rw [hg]; exact (below_size (by repeat (first | (with_reducible first | exact HB.out | apply below_alloc | apply pw_below_drewN | apply below_drew1 | refine below_set ?_ GE179.out) | exact HB.out))) : w.heap.size ≤ gb180)); have n4_ := Aside0.mk ((by rw [hg]; exact (below_size (by repeat (first | (with_reducible first | exact HB.out | apply below_alloc | apply pw_below_drewN | apply below_drew1 | refine below_set ?_ GE179.out) | exact HB.out))) : w.heap.size ≤ gb180)); have n5_ := Aside0.mk ((by rw [hg]; exact Nat.ne_of_lt (blk_lt (g := gb179) (o := .cells #[.int .u64 a0_0, .int .u64 a0_1, .int .i64 a0_2, .int .i64 a0_3, .int .u64 a0_4, .bool a0_5, .int .i64 a0_6, .slice A0_7 l0_7.length c0_7] 29 (0, 0)) (by (with_reducible repeat (first | refine blk_drewN ?_ _ | refine blk_drew ?_ | refine blk_alloc ?_ _)); exact BK179.out)) : gb179 ≠ gb180)); have n6_ := Aside0.mk ((by rw [hg]; exact Nat.ne_of_gt (blk_lt (g := gb179) (o := .cells #[.int .u64 a0_0, .int .u64 a0_1, .int .i64 a0_2, .int .i64 a0_3, .int .u64 a0_4, .bool a0_5, .int .i64 a0_6, .slice A0_7 l0_7.length c0_7] 29 (0, 0)) (by (with_reducible repeat (first | refine blk_drewN ?_ _ | refine blk_drew ?_ | refine blk_alloc ?_ _)); exact BK179.out)) : gb180 ≠ gb179)); clear BK179; clear HB; have BK179 := n0_; have HB := n1_; have BK180 := n2_; have GW180 := n3_; have GE180 := n4_; have NB179_180 := n5_; have NB180_179 := n6_; clear n0_ n1_ n2_ n3_ n4_ n5_ n6_; clear hb hbox hg; have hnb18 := NB179_180.out; have hnc18 := NB180_179.out; have hcz19_0 : w17.cell? ⟨gb179, 0, none⟩ = some (.int .u64 a0_0) := (blk_cell BK179.out 0).trans rfl; have hcz19_1 : w17.cell? ⟨gb179, 1, none⟩ = some (.int .u64 a0_1) := (blk_cell BK179.out 1).trans rfl; have hcz19_2 : w17.cell? ⟨gb179, 2, none⟩ = some (.int .i64 a0_2) := (blk_cell BK179.out 2).trans rfl; have hcz19_3 : w17.cell? ⟨gb179, 3, none⟩ = some (.int .i64 a0_3) := (blk_cell BK179.out 3).trans rfl; have hcz19_4 : w17.cell? ⟨gb179, 4, none⟩ = some (.int .u64 a0_4) := (blk_cell BK179.out 4).trans rfl; have hcz19_5 : w17.cell? ⟨gb179, 5, none⟩ = some (.bool a0_5) := (blk_cell BK179.out 5).trans rfl; have hcz19_6 : w17.cell? ⟨gb179, 6, none⟩ = some (.int .i64 a0_6) := (blk_cell BK179.out 6).trans rfl; have hcz19_7 : w17.cell? ⟨gb179, 7, none⟩ = some (.slice A0_7 l0_7.length c0_7) := (blk_cell BK179.out 7).trans rfl; have hfz19_0 := blk_frozen BK179.out 0; have hfz19_1 := blk_frozen BK179.out 1; have hfz19_2 := blk_frozen BK179.out 2; have hfz19_3 := blk_frozen BK179.out 3; have hfz19_4 := blk_frozen BK179.out 4; have hfz19_5 := blk_frozen BK179.out 5; have hfz19_6 := blk_frozen BK179.out 6; have hfz19_7 := blk_frozen BK179.out 7; have hcz20_0 : w17.cell? ⟨gb180, 0, none⟩ = some (.int .u64 a1_0) := (blk_cell BK180.out 0).trans rfl; have hcz20_1 : w17.cell? ⟨gb180, 1, none⟩ = some (.int .u64 a1_1) := (blk_cell BK180.out 1).trans rfl; have hcz20_2 : w17.cell? ⟨gb180, 2, none⟩ = some (.int .i64 a1_2) := (blk_cell BK180.out 2).trans rfl; have hcz20_3 : w17.cell? ⟨gb180, 3, none⟩ = some (.int .i64 a1_3) := (blk_cell BK180.out 3).trans rfl; have hcz20_4 : w17.cell? ⟨gb180, 4, none⟩ = some (.int .u64 a1_4) := (blk_cell BK180.out 4).trans rfl; have hcz20_5 : w17.cell? ⟨gb180, 5, none⟩ = some (.bool a1_5) := (blk_cell BK180.out 5).trans rfl; have hcz20_6 : w17.cell? ⟨gb180, 6, none⟩ = some (.int .i64 a1_6) := (blk_cell BK180.out 6).trans rfl; have hcz20_7 : w17.cell? ⟨gb180, 7, none⟩ = some (.slice A1_7 l1_7.length c1_7) := (blk_cell BK180.out 7).trans rfl; have hfz20_0 := blk_frozen BK180.out 0; have hfz20_1 := blk_frozen BK180.out 1; have hfz20_2 := blk_frozen BK180.out 2; have hfz20_3 := blk_frozen BK180.out 3; have hfz20_4 := blk_frozen BK180.out 4; have hfz20_5 := blk_frozen BK180.out 5; have hfz20_6 := blk_frozen BK180.out 6; have hfz20_7 := blk_frozen BK180.out 7))
                go_ret
                exact ⟨by first | rfl | (simp [errW_none, errW_some] <;> rfl) | (simp [*, errW_none, errW_some] <;> rfl), by repeat (first | (with_reducible first | exact HB.out | apply below_alloc | apply pw_below_drewN | apply below_drew1 | refine below_set ?_ GE179.out | refine below_set ?_ GE180.out) | exact HB.out)⟩
            · rw [if_neg c8] at H
              have c8b0 : (a0_5 == a1_5) = false := by simpa using c8
              (try (have c8b1 : decide (a0_5 = a1_5) = false := by simpa using c8))
              (try (have c8b2 : (a0_5 == a1_5) = false := by simpa using c8))
              (try (have c8b3 : ¬ (a0_5 = a1_5) := by simpa using c8))
              clear c8
              obtain rfl := Option.some.inj H
              go_enter Try.func11, Try.ntmps11
              go_wp2_with (first | ((with_reducible refine gate_dst (N := 2) rfl ?_); refine box_event ?hg (N := 2) ?hd (cs := #[.int .u64 a0_0, .int .u64 a0_1, .int .i64 a0_2, .int .i64 a0_3, .int .u64 a0_4, .bool a0_5, .int .i64 a0_6, .slice A0_7 l0_7.length c0_7]) (t := 29) ?hr ?_; (case hd => rfl); (case hg => rfl); (case hr => first | (go_simp; done) | (go_simp; rfl)); intro gb179 hg w21 hbox hb; have n0_ := Aside0.mk (below_step (by repeat (first | (with_reducible first | exact HB.out | apply below_alloc | apply pw_below_drewN | apply below_drew1) | exact HB.out)) hb); have n1_ := Aside0.mk (hbox); have n2_ := Aside0.mk ((by rw [hg]; exact (below_size (by repeat (first | (with_reducible first | exact HB.out | apply below_alloc | apply pw_below_drewN | apply below_drew1) | exact HB.out))) : w.heap.size ≤ gb179)); have n3_ := Aside0.mk ((by rw [hg]; exact (below_size (by repeat (first | (with_reducible first | exact HB.out | apply below_alloc | apply pw_below_drewN | apply below_drew1) | exact HB.out))) : w.heap.size ≤ gb179)); clear HB; have HB := n0_; have BK179 := n1_; have GW179 := n2_; have GE179 := n3_; clear n0_ n1_ n2_ n3_; clear hb hbox hg) | ((with_reducible refine gate_dst (N := 3) rfl ?_); refine box_event ?hg (N := 3) ?hd (cs := #[.int .u64 a1_0, .int .u64 a1_1, .int .i64 a1_2, .int .i64 a1_3, .int .u64 a1_4, .bool a1_5, .int .i64 a1_6, .slice A1_7 l1_7.length c1_7]) (t := 29) ?hr ?_; (case hd => rfl); (case hg => rfl); (case hr => first | (go_simp; done) | (go_simp; rfl)); intro gb180 hg w22 hbox hb; have n0_ := Aside0.mk (blk_below (g := gb179) (o := .cells #[.int .u64 a0_0, .int .u64 a0_1, .int .i64 a0_2, .int .i64 a0_3, .int .u64 a0_4, .bool a0_5, .int .i64 a0_6, .slice A0_7 l0_7.length c0_7] 29 (0, 0)) (by (with_reducible repeat (first | refine blk_drewN ?_ _ | refine blk_drew ?_ | refine blk_alloc ?_ _)); exact BK179.out) hb); have n1_ := Aside0.mk (below_step (by repeat (first | (with_reducible first | exact HB.out | apply below_alloc | apply pw_below_drewN | apply below_drew1 | refine below_set ?_ GE179.out) | exact HB.out)) hb); have n2_ := Aside0.mk (hbox); have n3_ := Aside0.mk ((by rw [hg]; exact (below_size (by repeat (first | (with_reducible first | exact HB.out | apply below_alloc | apply pw_below_drewN | apply below_drew1 | refine below_set ?_ GE179.out) | exact HB.out))) : w.heap.size ≤ gb180)); have n4_ := Aside0.mk ((by rw [hg]; exact (below_size (by repeat (first | (with_reducible first | exact HB.out | apply below_alloc | apply pw_below_drewN | apply below_drew1 | refine below_set ?_ GE179.out) | exact HB.out))) : w.heap.size ≤ gb180)); have n5_ := Aside0.mk ((by rw [hg]; exact Nat.ne_of_lt (blk_lt (g := gb179) (o := .cells #[.int .u64 a0_0, .int .u64 a0_1, .int .i64 a0_2, .int .i64 a0_3, .int .u64 a0_4, .bool a0_5, .int .i64 a0_6, .slice A0_7 l0_7.length c0_7] 29 (0, 0)) (by (with_reducible repeat (first | refine blk_drewN ?_ _ | refine blk_drew ?_ | refine blk_alloc ?_ _)); exact BK179.out)) : gb179 ≠ gb180)); have n6_ := Aside0.mk ((by rw [hg]; exact Nat.ne_of_gt (blk_lt (g := gb179) (o := .cells #[.int .u64 a0_0, .int .u64 a0_1, .int .i64 a0_2, .int .i64 a0_3, .int .u64 a0_4, .bool a0_5, .int .i64 a0_6, .slice A0_7 l0_7.length c0_7] 29 (0, 0)) (by (with_reducible repeat (first | refine blk_drewN ?_ _ | refine blk_drew ?_ | refine blk_alloc ?_ _)); exact BK179.out)) : gb180 ≠ gb179)); clear BK179; clear HB; have BK179 := n0_; have HB := n1_; have BK180 := n2_; have GW180 := n3_; have GE180 := n4_; have NB179_180 := n5_; have NB180_179 := n6_; clear n0_ n1_ n2_ n3_ n4_ n5_ n6_; clear hb hbox hg; have hnb23 := NB179_180.out; have hnc23 := NB180_179.out; have hcz24_0 : w22.cell? ⟨gb179, 0, none⟩ = some (.int .u64 a0_0) := (blk_cell BK179.out 0).trans rfl; have hcz24_1 : w22.cell? ⟨gb179, 1, none⟩ = some (.int .u64 a0_1) := (blk_cell BK179.out 1).trans rfl; have hcz24_2 : w22.cell? ⟨gb179, 2, none⟩ = some (.int .i64 a0_2) := (blk_cell BK179.out 2).trans rfl; have hcz24_3 : w22.cell? ⟨gb179, 3, none⟩ = some (.int .i64 a0_3) := (blk_cell BK179.out 3).trans rfl; have hcz24_4 : w22.cell? ⟨gb179, 4, none⟩ = some (.int .u64 a0_4) := (blk_cell BK179.out 4).trans rfl; have hcz24_5 : w22.cell? ⟨gb179, 5, none⟩ = some (.bool a0_5) := (blk_cell BK179.out 5).trans rfl; have hcz24_6 : w22.cell? ⟨gb179, 6, none⟩ = some (.int .i64 a0_6) := (blk_cell BK179.out 6).trans rfl; have hcz24_7 : w22.cell? ⟨gb179, 7, none⟩ = some (.slice A0_7 l0_7.length c0_7) := (blk_cell BK179.out 7).trans rfl; have hfz24_0 := blk_frozen BK179.out 0; have hfz24_1 := blk_frozen BK179.out 1; have hfz24_2 := blk_frozen BK179.out 2; have hfz24_3 := blk_frozen BK179.out 3; have hfz24_4 := blk_frozen BK179.out 4; have hfz24_5 := blk_frozen BK179.out 5; have hfz24_6 := blk_frozen BK179.out 6; have hfz24_7 := blk_frozen BK179.out 7; have hcz25_0 : w22.cell? ⟨gb180, 0, none⟩ = some (.int .u64 a1_0) := (blk_cell BK180.out 0).trans rfl; have hcz25_1 : w22.cell? ⟨gb180, 1, none⟩ = some (.int .u64 a1_1) := (blk_cell BK180.out 1).trans rfl; have hcz25_2 : w22.cell? ⟨gb180, 2, none⟩ = some (.int .i64 a1_2) := (blk_cell BK180.out 2).trans rfl; have hcz25_3 : w22.cell? ⟨gb180, 3, none⟩ = some (.int .i64 a1_3) := (blk_cell BK180.out 3).trans rfl; have hcz25_4 : w22.cell? ⟨gb180, 4, none⟩ = some (.int .u64 a1_4) := (blk_cell BK180.out 4).trans rfl; have hcz25_5 : w22.cell? ⟨gb180, 5, none⟩ = some (.bool a1_5) := (blk_cell BK180.out 5).trans rfl; have hcz25_6 : w22.cell? ⟨gb180, 6, none⟩ = some (.int .i64 a1_6) := (blk_cell BK180.out 6).trans rfl; have hcz25_7 : w22.cell? ⟨gb180, 7, none⟩ = some (.slice A1_7 l1_7.length c1_7) := (blk_cell BK180.out 7).trans rfl; have hfz25_0 := blk_frozen BK180.out 0; have hfz25_1 := blk_frozen BK180.out 1; have hfz25_2 := blk_frozen BK180.out 2; have hfz25_3 := blk_frozen BK180.out 3; have hfz25_4 := blk_frozen BK180.out 4; have hfz25_5 := blk_frozen BK180.out 5; have hfz25_6 := blk_frozen BK180.out 6; have hfz25_7 := blk_frozen BK180.out 7))
              go_ret
              exact ⟨by first | rfl | (simp [errW_none, errW_some] <;> rfl) | (simp [*, errW_none, errW_some] <;> rfl), by repeat (first | (with_reducible first | exact HB.out | apply below_alloc | apply pw_below_drewN | apply below_drew1 | refine below_set ?_ GE179.out | refine below_set ?_ GE180.out) | exact HB.out)⟩
          · rw [if_neg c7] at H
            have c7b0 : (a0_4 == a1_4) = false := beq_eq_false_iff_ne.mpr c7
            have c7b1 : (a0_4 != a1_4) = true := bne_iff_ne.mpr c7
            obtain rfl := Option.some.inj H
            go_enter Try.func11, Try.ntmps11
            go_wp2_with (first | ((with_reducible refine gate_dst (N := 2) rfl ?_); refine box_event ?hg (N := 2) ?hd (cs := #[.int .u64 a0_0, .int .u64 a0_1, .int .i64 a0_2, .int .i64 a0_3, .int .u64 a0_4, .bool a0_5, .int .i64 a0_6, .slice A0_7 l0_7.length c0_7]) (t := 29) ?hr ?_; (case hd => rfl); (case hg => rfl); (case hr => first | (go_simp; done) | (go_simp; rfl)); intro gb179 hg w26 hbox hb; have n0_ := Aside0.mk (below_step (by repeat (first | (with_reducible first | exact HB.out | apply below_alloc | apply pw_below_drewN | apply below_drew1) | exact HB.out)) hb); have n1_ := Aside0.mk (hbox); have n2_ := Aside0.mk ((by rw [hg]; exact (below_size (by repeat (first | (with_reducible first | exact HB.out | apply below_alloc | apply pw_below_drewN | apply below_drew1) | exact HB.out))) : w.heap.size ≤ gb179)); have n3_ := Aside0.mk ((by rw [hg]; exact (below_size (by repeat (first | (with_reducible first | exact HB.out | apply below_alloc | apply pw_below_drewN | apply below_drew1) | exact HB.out))) : w.heap.size ≤ gb179)); clear HB; have HB := n0_; have BK179 := n1_; have GW179 := n2_; have GE179 := n3_; clear n0_ n1_ n2_ n3_; clear hb hbox hg) | ((with_reducible refine gate_dst (N := 3) rfl ?_); refine box_event ?hg (N := 3) ?hd (cs := #[.int .u64 a1_0, .int .u64 a1_1, .int .i64 a1_2, .int .i64 a1_3, .int .u64 a1_4, .bool a1_5, .int .i64 a1_6, .slice A1_7 l1_7.length c1_7]) (t := 29) ?hr ?_; (case hd => rfl); (case hg => rfl); (case hr => first | (go_simp; done) | (go_simp; rfl)); intro gb180 hg w27 hbox hb; have n0_ := Aside0.mk (blk_below (g := gb179) (o := .cells #[.int .u64 a0_0, .int .u64 a0_1, .int .i64 a0_2, .int .i64 a0_3, .int .u64 a0_4, .bool a0_5, .int .i64 a0_6, .slice A0_7 l0_7.length c0_7] 29 (0, 0)) (by (with_reducible repeat (first | refine blk_drewN ?_ _ | refine blk_drew ?_ | refine blk_alloc ?_ _)); exact BK179.out) hb); have n1_ := Aside0.mk (below_step (by repeat (first | (with_reducible first | exact HB.out | apply below_alloc | apply pw_below_drewN | apply below_drew1 | refine below_set ?_ GE179.out) | exact HB.out)) hb); have n2_ := Aside0.mk (hbox); have n3_ := Aside0.mk ((by rw [hg]; exact (below_size (by repeat (first | (with_reducible first | exact HB.out | apply below_alloc | apply pw_below_drewN | apply below_drew1 | refine below_set ?_ GE179.out) | exact HB.out))) : w.heap.size ≤ gb180)); have n4_ := Aside0.mk ((by rw [hg]; exact (below_size (by repeat (first | (with_reducible first | exact HB.out | apply below_alloc | apply pw_below_drewN | apply below_drew1 | refine below_set ?_ GE179.out) | exact HB.out))) : w.heap.size ≤ gb180)); have n5_ := Aside0.mk ((by rw [hg]; exact Nat.ne_of_lt (blk_lt (g := gb179) (o := .cells #[.int .u64 a0_0, .int .u64 a0_1, .int .i64 a0_2, .int .i64 a0_3, .int .u64 a0_4, .bool a0_5, .int .i64 a0_6, .slice A0_7 l0_7.length c0_7] 29 (0, 0)) (by (with_reducible repeat (first | refine blk_drewN ?_ _ | refine blk_drew ?_ | refine blk_alloc ?_ _)); exact BK179.out)) : gb179 ≠ gb180)); have n6_ := Aside0.mk ((by rw [hg]; exact Nat.ne_of_gt (blk_lt (g := gb179) (o := .cells #[.int .u64 a0_0, .int .u64 a0_1, .int .i64 a0_2, .int .i64 a0_3, .int .u64 a0_4, .bool a0_5, .int .i64 a0_6, .slice A0_7 l0_7.length c0_7] 29 (0, 0)) (by (with_reducible repeat (first | refine blk_drewN ?_ _ | refine blk_drew ?_ | refine blk_alloc ?_ _)); exact BK179.out)) : gb180 ≠ gb179)); clear BK179; clear HB; have BK179 := n0_; have HB := n1_; have BK180 := n2_; have GW180 := n3_; have GE180 := n4_; have NB179_180 := n5_; have NB180_179 := n6_; clear n0_ n1_ n2_ n3_ n4_ n5_ n6_; clear hb hbox hg; have hnb28 := NB179_180.out; have hnc28 := NB180_179.out; have hcz29_0 : w27.cell? ⟨gb179, 0, none⟩ = some (.int .u64 a0_0) := (blk_cell BK179.out 0).trans rfl; have hcz29_1 : w27.cell? ⟨gb179, 1, none⟩ = some (.int .u64 a0_1) := (blk_cell BK179.out 1).trans rfl; have hcz29_2 : w27.cell? ⟨gb179, 2, none⟩ = some (.int .i64 a0_2) := (blk_cell BK179.out 2).trans rfl; have hcz29_3 : w27.cell? ⟨gb179, 3, none⟩ = some (.int .i64 a0_3) := (blk_cell BK179.out 3).trans rfl; have hcz29_4 : w27.cell? ⟨gb179, 4, none⟩ = some (.int .u64 a0_4) := (blk_cell BK179.out 4).trans rfl; have hcz29_5 : w27.cell? ⟨gb179, 5, none⟩ = some (.bool a0_5) := (blk_cell BK179.out 5).trans rfl; have hcz29_6 : w27.cell? ⟨gb179, 6, none⟩ = some (.int .i64 a0_6) := (blk_cell BK179.out 6).trans rfl; have hcz29_7 : w27.cell? ⟨gb179, 7, none⟩ = some (.slice A0_7 l0_7.length c0_7) := (blk_cell BK179.out 7).trans rfl; have hfz29_0 := blk_frozen BK179.out 0; have hfz29_1 := blk_frozen BK179.out 1; have hfz29_2 := blk_frozen BK179.out 2; have hfz29_3 := blk_frozen BK179.out 3; have hfz29_4 := blk_frozen BK179.out 4; have hfz29_5 := blk_frozen BK179.out 5; have hfz29_6 := blk_frozen BK179.out 6; have hfz29_7 := blk_frozen BK179.out 7; have hcz30_0 : w27.cell? ⟨gb180, 0, none⟩ = some (.int .u64 a1_0) := (blk_cell BK180.out 0).trans rfl; have hcz30_1 : w27.cell? ⟨gb180, 1, none⟩ = some (.int .u64 a1_1) := (blk_cell BK180.out 1).trans rfl; have hcz30_2 : w27.cell? ⟨gb180, 2, none⟩ = some (.int .i64 a1_2) := (blk_cell BK180.out 2).trans rfl; have hcz30_3 : w27.cell? ⟨gb180, 3, none⟩ = some (.int .i64 a1_3) := (blk_cell BK180.out 3).trans rfl; have hcz30_4 : w27.cell? ⟨gb180, 4, none⟩ = some (.int .u64 a1_4) := (blk_cell BK180.out 4).trans rfl; have hcz30_5 : w27.cell? ⟨gb180, 5, none⟩ = some (.bool a1_5) := (blk_cell BK180.out 5).trans rfl; have hcz30_6 : w27.cell? ⟨gb180, 6, none⟩ = some (.int .i64 a1_6) := (blk_cell BK180.out 6).trans rfl; have hcz30_7 : w27.cell? ⟨gb180, 7, none⟩ = some (.slice A1_7 l1_7.length c1_7) := (blk_cell BK180.out 7).trans rfl; have hfz30_0 := blk_frozen BK180.out 0; have hfz30_1 := blk_frozen BK180.out 1; have hfz30_2 := blk_frozen BK180.out 2; have hfz30_3 := blk_frozen BK180.out 3; have hfz30_4 := blk_frozen BK180.out 4; have hfz30_5 := blk_frozen BK180.out 5; have hfz30_6 := blk_frozen BK180.out 6; have hfz30_7 := blk_frozen BK180.out 7))
            go_ret
            exact ⟨by first | rfl | (simp [errW_none, errW_some] <;> rfl) | (simp [*, errW_none, errW_some] <;> rfl), by repeat (first | (with_reducible first | exact HB.out | apply below_alloc | apply pw_below_drewN | apply below_drew1 | refine below_set ?_ GE179.out | refine below_set ?_ GE180.out) | exact HB.out)⟩
        · rw [if_neg c6] at H
          have c6b0 : (a0_3 == a1_3) = false := beq_eq_false_iff_ne.mpr c6
          have c6b1 : (a0_3 != a1_3) = true := bne_iff_ne.mpr c6
          obtain rfl := Option.some.inj H
          go_enter Try.func11, Try.ntmps11
          go_wp2_with (first | ((with_reducible refine gate_dst (N := 2) rfl ?_); refine box_event ?hg (N := 2) ?hd (cs := #[.int .u64 a0_0, .int .u64 a0_1, .int .i64 a0_2, .int .i64 a0_3, .int .u64 a0_4, .bool a0_5, .int .i64 a0_6, .slice A0_7 l0_7.length c0_7]) (t := 29) ?hr ?_; (case hd => rfl); (case hg => rfl); (case hr => first | (go_simp; done) | (go_simp; rfl)); intro gb179 hg w31 hbox hb; have n0_ := Aside0.mk (below_step (by repeat (first | (with_reducible first | exact HB.out | apply below_alloc | apply pw_below_drewN | apply below_drew1) | exact HB.out)) hb); have n1_ := Aside0.mk (hbox); have n2_ := Aside0.mk ((by rw [hg]; exact (below_size (by repeat (first | (with_reducible first | exact HB.out | apply below_alloc | apply pw_below_drewN | apply below_drew1) | exact HB.out))) : w.heap.size ≤ gb179)); have n3_ := Aside0.mk ((by rw [hg]; exact (below_size (by repeat (first | (with_reducible first | exact HB.out | apply below_alloc | apply pw_below_drewN | apply below_drew1) | exact HB.out))) : w.heap.size ≤ gb179)); clear HB; have HB := n0_; have BK179 := n1_; have GW179 := n2_; have GE179 := n3_; clear n0_ n1_ n2_ n3_; clear hb hbox hg) | ((with_reducible refine gate_dst (N := 3) rfl ?_); refine box_event ?hg (N := 3) ?hd (cs := #[.int .u64 a1_0, .int .u64 a1_1, .int .i64 a1_2, .int .i64 a1_3, .int .u64 a1_4, .bool a1_5, .int .i64 a1_6, .slice A1_7 l1_7.length c1_7]) (t := 29) ?hr ?_; (case hd => rfl); (case hg => rfl); (case hr => first | (go_simp; done) | (go_simp; rfl)); intro gb180 hg w32 hbox hb; have n0_ := Aside0.mk (blk_below (g := gb179) (o := .cells #[.int .u64 a0_0, .int .u64 a0_1, .int .i64 a0_2, .int .i64 a0_3, .int .u64 a0_4, .bool a0_5, .int .i64 a0_6, .slice A0_7 l0_7.length c0_7] 29 (0, 0)) (by (with_reducible repeat (first | refine blk_drewN ?_ _ | refine blk_drew ?_ | refine blk_alloc ?_ _)); exact BK179.out) hb); have n1_ := Aside0.mk (below_step (by repeat (first | (with_reducible first | exact HB.out | apply below_alloc | apply pw_below_drewN | apply below_drew1 | refine below_set ?_ GE179.out) | exact HB.out)) hb); have n2_ := Aside0.mk (hbox); have n3_ := Aside0.mk ((by rw [hg]; exact (below_size (by repeat (first | (with_reducible first | exact HB.out | apply below_alloc | apply pw_below_drewN | apply below_drew1 | refine below_set ?_ GE179.out) | exact HB.out))) : w.heap.size ≤ gb180)); have n4_ := Aside0.mk ((by rw [hg]; exact (below_size (by repeat (first | (with_reducible first | exact HB.out | apply below_alloc | apply pw_below_drewN | apply below_drew1 | refine below_set ?_ GE179.out) | exact HB.out))) : w.heap.size ≤ gb180)); have n5_ := Aside0.mk ((by rw [hg]; exact Nat.ne_of_lt (blk_lt (g := gb179) (o := .cells #[.int .u64 a0_0, .int .u64 a0_1, .int .i64 a0_2, .int .i64 a0_3, .int .u64 a0_4, .bool a0_5, .int .i64 a0_6, .slice A0_7 l0_7.length c0_7] 29 (0, 0)) (by (with_reducible repeat (first | refine blk_drewN ?_ _ | refine blk_drew ?_ | refine blk_alloc ?_ _)); exact BK179.out)) : gb179 ≠ gb180)); have n6_ := Aside0.mk ((by rw [hg]; exact Nat.ne_of_gt (blk_lt (g := gb179) (o := .cells #[.int .u64 a0_0, .int .u64 a0_1, .int .i64 a0_2, .int .i64 a0_3, .int .u64 a0_4, .bool a0_5, .int .i64 a0_6, .slice A0_7 l0_7.length c0_7] 29 (0, 0)) (by (with_reducible repeat (first | refine blk_drewN ?_ _ | refine blk_drew ?_ | refine blk_alloc ?_ _)); exact BK179.out)) : gb180 ≠ gb179)); clear BK179; clear HB; have BK179 := n0_; have HB := n1_; have BK180 := n2_; have GW180 := n3_; have GE180 := n4_; have NB179_180 := n5_; have NB180_179 := n6_; clear n0_ n1_ n2_ n3_ n4_ n5_ n6_; clear hb hbox hg; have hnb33 := NB179_180.out; have hnc33 := NB180_179.out; have hcz34_0 : w32.cell? ⟨gb179, 0, none⟩ = some (.int .u64 a0_0) := (blk_cell BK179.out 0).trans rfl; have hcz34_1 : w32.cell? ⟨gb179, 1, none⟩ = some (.int .u64 a0_1) := (blk_cell BK179.out 1).trans rfl; have hcz34_2 : w32.cell? ⟨gb179, 2, none⟩ = some (.int .i64 a0_2) := (blk_cell BK179.out 2).trans rfl; have hcz34_3 : w32.cell? ⟨gb179, 3, none⟩ = some (.int .i64 a0_3) := (blk_cell BK179.out 3).trans rfl; have hcz34_4 : w32.cell? ⟨gb179, 4, none⟩ = some (.int .u64 a0_4) := (blk_cell BK179.out 4).trans rfl; have hcz34_5 : w32.cell? ⟨gb179, 5, none⟩ = some (.bool a0_5) := (blk_cell BK179.out 5).trans rfl; have hcz34_6 : w32.cell? ⟨gb179, 6, none⟩ = some (.int .i64 a0_6) := (blk_cell BK179.out 6).trans rfl; have hcz34_7 : w32.cell? ⟨gb179, 7, none⟩ = some (.slice A0_7 l0_7.length c0_7) := (blk_cell BK179.out 7).trans rfl; have hfz34_0 := blk_frozen BK179.out 0; have hfz34_1 := blk_frozen BK179.out 1; have hfz34_2 := blk_frozen BK179.out 2; have hfz34_3 := blk_frozen BK179.out 3; have hfz34_4 := blk_frozen BK179.out 4; have hfz34_5 := blk_frozen BK179.out 5; have hfz34_6 := blk_frozen BK179.out 6; have hfz34_7 := blk_frozen BK179.out 7; have hcz35_0 : w32.cell? ⟨gb180, 0, none⟩ = some (.int .u64 a1_0) := (blk_cell BK180.out 0).trans rfl; have hcz35_1 : w32.cell? ⟨gb180, 1, none⟩ = some (.int .u64 a1_1) := (blk_cell BK180.out 1).trans rfl; have hcz35_2 : w32.cell? ⟨gb180, 2, none⟩ = some (.int .i64 a1_2) := (blk_cell BK180.out 2).trans rfl; have hcz35_3 : w32.cell? ⟨gb180, 3, none⟩ = some (.int .i64 a1_3) := (blk_cell BK180.out 3).trans rfl; have hcz35_4 : w32.cell? ⟨gb180, 4, none⟩ = some (.int .u64 a1_4) := (blk_cell BK180.out 4).trans rfl; have hcz35_5 : w32.cell? ⟨gb180, 5, none⟩ = some (.bool a1_5) := (blk_cell BK180.out 5).trans rfl; have hcz35_6 : w32.cell? ⟨gb180, 6, none⟩ = some (.int .i64 a1_6) := (blk_cell BK180.out 6).trans rfl; have hcz35_7 : w32.cell? ⟨gb180, 7, none⟩ = some (.slice A1_7 l1_7.length c1_7) := (blk_cell BK180.out 7).trans rfl; have hfz35_0 := blk_frozen BK180.out 0; have hfz35_1 := blk_frozen BK180.out 1; have hfz35_2 := blk_frozen BK180.out 2; have hfz35_3 := blk_frozen BK180.out 3; have hfz35_4 := blk_frozen BK180.out 4; have hfz35_5 := blk_frozen BK180.out 5; have hfz35_6 := blk_frozen BK180.out 6; have hfz35_7 := blk_frozen BK180.out 7))
          go_ret
          exact ⟨by first | rfl | (simp [errW_none, errW_some] <;> rfl) | (simp [*, errW_none, errW_some] <;> rfl), by repeat (first | (with_reducible first | exact HB.out | apply below_alloc | apply pw_below_drewN | apply below_drew1 | refine below_set ?_ GE179.out | refine below_set ?_ GE180.out) | exact HB.out)⟩
      · rw [if_neg c5] at H
        have c5b0 : (a0_2 == a1_2) = false := beq_eq_false_iff_ne.mpr c5
        have c5b1 : (a0_2 != a1_2) = true := bne_iff_ne.mpr c5
        obtain rfl := Option.some.inj H
        go_enter Try.func11, Try.ntmps11
        go_wp2_with (first | ((with_reducible refine gate_dst (N := 2) rfl ?_); refine box_event ?hg (N := 2) ?hd (cs := #[.int .u64 a0_0, .int .u64 a0_1, .int .i64 a0_2, .int .i64 a0_3, .int .u64 a0_4, .bool a0_5, .int .i64 a0_6, .slice A0_7 l0_7.length c0_7]) (t := 29) ?hr ?_; (case hd => rfl); (case hg => rfl); (case hr => first | (go_simp; done) | (go_simp; rfl)); intro gb179 hg w36 hbox hb; have n0_ := Aside0.mk (below_step (by repeat (first | (with_reducible first | exact HB.out | apply below_alloc | apply pw_below_drewN | apply below_drew1) | exact HB.out)) hb); have n1_ := Aside0.mk (hbox); have n2_ := Aside0.mk ((by rw [hg]; exact (below_size (by repeat (first | (with_reducible first | exact HB.out | apply below_alloc | apply pw_below_drewN | apply below_drew1) | exact HB.out))) : w.heap.size ≤ gb179)); have n3_ := Aside0.mk ((by rw [hg]; exact (below_size (by repeat (first | (with_reducible first | exact HB.out | apply below_alloc | apply pw_below_drewN | apply below_drew1) | exact HB.out))) : w.heap.size ≤ gb179)); clear HB; have HB := n0_; have BK179 := n1_; have GW179 := n2_; have GE179 := n3_; clear n0_ n1_ n2_ n3_; clear hb hbox hg) | ((with_reducible refine gate_dst (N := 3) rfl ?_); refine box_event ?hg (N := 3) ?hd (cs := #[.int .u64 a1_0, .int .u64 a1_1, .int .i64 a1_2, .int .i64 a1_3, .int .u64 a1_4, .bool a1_5, .int .i64 a1_6, .slice A1_7 l1_7.length c1_7]) (t := 29) ?hr ?_; (case hd => rfl); (case hg => rfl); (case hr => first | (go_simp; done) | (go_simp; rfl)); intro gb180 hg w37 hbox hb; have n0_ := Aside0.mk (blk_below (g := gb179) (o := .cells #[.int .u64 a0_0, .int .u64 a0_1, .int .i64 a0_2, .int .i64 a0_3, .int .u64 a0_4, .bool a0_5, .int .i64 a0_6, .slice A0_7 l0_7.length c0_7] 29 (0, 0)) (by (with_reducible repeat (first | refine blk_drewN ?_ _ | refine blk_drew ?_ | refine blk_alloc ?_ _)); exact BK179.out) hb); have n1_ := Aside0.mk (below_step (by repeat (first | (with_reducible first | exact HB.out | apply below_alloc | apply pw_below_drewN | apply below_drew1 | refine below_set ?_ GE179.out) | exact HB.out)) hb); have n2_ := Aside0.mk (hbox); have n3_ := Aside0.mk ((by rw [hg]; exact (below_size (by repeat (first | (with_reducible first | exact HB.out | apply below_alloc | apply pw_below_drewN | apply below_drew1 | refine below_set ?_ GE179.out) | exact HB.out))) : w.heap.size ≤ gb180)); have n4_ := Aside0.mk ((by rw [hg]; exact (below_size (by repeat (first | (with_reducible first | exact HB.out | apply below_alloc | apply pw_below_drewN | apply below_drew1 | refine below_set ?_ GE179.out) | exact HB.out))) : w.heap.size ≤ gb180)); have n5_ := Aside0.mk ((by rw [hg]; exact Nat.ne_of_lt (blk_lt (g := gb179) (o := .cells #[.int .u64 a0_0, .int .u64 a0_1, .int .i64 a0_2, .int .i64 a0_3, .int .u64 a0_4, .bool a0_5, .int .i64 a0_6, .slice A0_7 l0_7.length c0_7] 29 (0, 0)) (by (with_reducible repeat (first | refine blk_drewN ?_ _ | refine blk_drew ?_ | refine blk_alloc ?_ _)); exact BK179.out)) : gb179 ≠ gb180)); have n6_ := Aside0.mk ((by rw [hg]; exact Nat.ne_of_gt (blk_lt (g := gb179) (o := .cells #[.int .u64 a0_0, .int .u64 a0_1, .int .i64 a0_2, .int .i64 a0_3, .int .u64 a0_4, .bool a0_5, .int .i64 a0_6, .slice A0_7 l0_7.length c0_7] 29 (0, 0)) (by (with_reducible repeat (first | refine blk_drewN ?_ _ | refine blk_drew ?_ | refine blk_alloc ?_ _)); exact BK179.out)) : gb180 ≠ gb179)); clear BK179; clear HB; have BK179 := n0_; have HB := n1_; have BK180 := n2_; have GW180 := n3_; have GE180 := n4_; have NB179_180 := n5_; have NB180_179 := n6_; clear n0_ n1_ n2_ n3_ n4_ n5_ n6_; clear hb hbox hg; have hnb38 := NB179_180.out; have hnc38 := NB180_179.out; have hcz39_0 : w37.cell? ⟨gb179, 0, none⟩ = some (.int .u64 a0_0) := (blk_cell BK179.out 0).trans rfl; have hcz39_1 : w37.cell? ⟨gb179, 1, none⟩ = some (.int .u64 a0_1) := (blk_cell BK179.out 1).trans rfl; have hcz39_2 : w37.cell? ⟨gb179, 2, none⟩ = some (.int .i64 a0_2) := (blk_cell BK179.out 2).trans rfl; have hcz39_3 : w37.cell? ⟨gb179, 3, none⟩ = some (.int .i64 a0_3) := (blk_cell BK179.out 3).trans rfl; have hcz39_4 : w37.cell? ⟨gb179, 4, none⟩ = some (.int .u64 a0_4) := (blk_cell BK179.out 4).trans rfl; have hcz39_5 : w37.cell? ⟨gb179, 5, none⟩ = some (.bool a0_5) := (blk_cell BK179.out 5).trans rfl; have hcz39_6 : w37.cell? ⟨gb179, 6, none⟩ = some (.int .i64 a0_6) := (blk_cell BK179.out 6).trans rfl; have hcz39_7 : w37.cell? ⟨gb179, 7, none⟩ = some (.slice A0_7 l0_7.length c0_7) := (blk_cell BK179.out 7).trans rfl; have hfz39_0 := blk_frozen BK179.out 0; have hfz39_1 := blk_frozen BK179.out 1; have hfz39_2 := blk_frozen BK179.out 2; have hfz39_3 := blk_frozen BK179.out 3; have hfz39_4 := blk_frozen BK179.out 4; have hfz39_5 := blk_frozen BK179.out 5; have hfz39_6 := blk_frozen BK179.out 6; have hfz39_7 := blk_frozen BK179.out 7; have hcz40_0 : w37.cell? ⟨gb180, 0, none⟩ = some (.int .u64 a1_0) := (blk_cell BK180.out 0).trans rfl; have hcz40_1 : w37.cell? ⟨gb180, 1, none⟩ = some (.int .u64 a1_1) := (blk_cell BK180.out 1).trans rfl; have hcz40_2 : w37.cell? ⟨gb180, 2, none⟩ = some (.int .i64 a1_2) := (blk_cell BK180.out 2).trans rfl; have hcz40_3 : w37.cell? ⟨gb180, 3, none⟩ = some (.int .i64 a1_3) := (blk_cell BK180.out 3).trans rfl; have hcz40_4 : w37.cell? ⟨gb180, 4, none⟩ = some (.int .u64 a1_4) := (blk_cell BK180.out 4).trans rfl; have hcz40_5 : w37.cell? ⟨gb180, 5, none⟩ = some (.bool a1_5) := (blk_cell BK180.out 5).trans rfl; have hcz40_6 : w37.cell? ⟨gb180, 6, none⟩ = some (.int .i64 a1_6) := (blk_cell BK180.out 6).trans rfl; have hcz40_7 : w37.cell? ⟨gb180, 7, none⟩ = some (.slice A1_7 l1_7.length c1_7) := (blk_cell BK180.out 7).trans rfl; have hfz40_0 := blk_frozen BK180.out 0; have hfz40_1 := blk_frozen BK180.out 1; have hfz40_2 := blk_frozen BK180.out 2; have hfz40_3 := blk_frozen BK180.out 3; have hfz40_4 := blk_frozen BK180.out 4; have hfz40_5 := blk_frozen BK180.out 5; have hfz40_6 := blk_frozen BK180.out 6; have hfz40_7 := blk_frozen BK180.out 7))
        go_ret
        exact ⟨by first | rfl | (simp [errW_none, errW_some] <;> rfl) | (simp [*, errW_none, errW_some] <;> rfl), by repeat (first | (with_reducible first | exact HB.out | apply below_alloc | apply pw_below_drewN | apply below_drew1 | refine below_set ?_ GE179.out | refine below_set ?_ GE180.out) | exact HB.out)⟩
    · rw [if_neg c4] at H
      have c4b0 : (a0_1 == a1_1) = false := beq_eq_false_iff_ne.mpr c4
      have c4b1 : (a0_1 != a1_1) = true := bne_iff_ne.mpr c4
      obtain rfl := Option.some.inj H
      go_enter Try.func11, Try.ntmps11
      go_wp2_with (first | ((with_reducible refine gate_dst (N := 2) rfl ?_); refine box_event ?hg (N := 2) ?hd (cs := #[.int .u64 a0_0, .int .u64 a0_1, .int .i64 a0_2, .int .i64 a0_3, .int .u64 a0_4, .bool a0_5, .int .i64 a0_6, .slice A0_7 l0_7.length c0_7]) (t := 29) ?hr ?_; (case hd => rfl); (case hg => rfl); (case hr => first | (go_simp; done) | (go_simp; rfl)); intro gb179 hg w41 hbox hb; have n0_ := Aside0.mk (below_step (by repeat (first | (with_reducible first | exact HB.out | apply below_alloc | apply pw_below_drewN | apply below_drew1) | exact HB.out)) hb); have n1_ := Aside0.mk (hbox); have n2_ := Aside0.mk ((by rw [hg]; exact (below_size (by repeat (first | (with_reducible first | exact HB.out | apply below_alloc | apply pw_below_drewN | apply below_drew1) | exact HB.out))) : w.heap.size ≤ gb179)); have n3_ := Aside0.mk ((by rw [hg]; exact (below_size (by repeat (first | (with_reducible first | exact HB.out | apply below_alloc | apply pw_below_drewN | apply below_drew1) | exact HB.out))) : w.heap.size ≤ gb179)); clear HB; have HB := n0_; have BK179 := n1_; have GW179 := n2_; have GE179 := n3_; clear n0_ n1_ n2_ n3_; clear hb hbox hg) | ((with_reducible refine gate_dst (N := 3) rfl ?_); refine box_event ?hg (N := 3) ?hd (cs := #[.int .u64 a1_0, .int .u64 a1_1, .int .i64 a1_2, .int .i64 a1_3, .int .u64 a1_4, .bool a1_5, .int .i64 a1_6, .slice A1_7 l1_7.length c1_7]) (t := 29) ?hr ?_; (case hd => rfl); (case hg => rfl); (case hr => first | (go_simp; done) | (go_simp; rfl)); intro gb180 hg w42 hbox hb; have n0_ := Aside0.mk (blk_below (g := gb179) (o := .cells #[.int .u64 a0_0, .int .u64 a0_1, .int .i64 a0_2, .int .i64 a0_3, .int .u64 a0_4, .bool a0_5, .int .i64 a0_6, .slice A0_7 l0_7.length c0_7] 29 (0, 0)) (by (with_reducible repeat (first | refine blk_drewN ?_ _ | refine blk_drew ?_ | refine blk_alloc ?_ _)); exact BK179.out) hb); have n1_ := Aside0.mk (below_step (by repeat (first | (with_reducible first | exact HB.out | apply below_alloc | apply pw_below_drewN | apply below_drew1 | refine below_set ?_ GE179.out) | exact HB.out)) hb); have n2_ := Aside0.mk (hbox); have n3_ := Aside0.mk ((by rw [hg]; exact (below_size (by repeat (first | (with_reducible first | exact HB.out | apply below_alloc | apply pw_below_drewN | apply below_drew1 | refine below_set ?_ GE179.out) | exact HB.out))) : w.heap.size ≤ gb180)); have n4_ := Aside0.mk ((by rw [hg]; exact (below_size (by repeat (first | (with_reducible first | exact HB.out | apply below_alloc | apply pw_below_drewN | apply below_drew1 | refine below_set ?_ GE179.out) | exact HB.out))) : w.heap.size ≤ gb180)); have n5_ := Aside0.mk ((by rw [hg]; exact Nat.ne_of_lt (blk_lt (g := gb179) (o := .cells #[.int .u64 a0_0, .int .u64 a0_1, .int .i64 a0_2, .int .i64 a0_3, .int .u64 a0_4, .bool a0_5, .int .i64 a0_6, .slice A0_7 l0_7.length c0_7] 29 (0, 0)) (by (with_reducible repeat (first | refine blk_drewN ?_ _ | refine blk_drew ?_ | refine blk_alloc ?_ _)); exact BK179.out)) : gb179 ≠ gb180)); have n6_ := Aside0.mk ((by rw [hg]; exact Nat.ne_of_gt (blk_lt (g := gb179) (o := .cells #[.int .u64 a0_0, .int .u64 a0_1, .int .i64 a0_2, .int .i64 a0_3, .int .u64 a0_4, .bool a0_5, .int .i64 a0_6, .slice A0_7 l0_7.length c0_7] 29 (0, 0)) (by (with_reducible repeat (first | refine blk_drewN ?_ _ | refine blk_drew ?_ | refine blk_alloc ?_ _)); exact BK179.out)) : gb180 ≠ gb179)); clear BK179; clear HB; have BK179 := n0_; have HB := n1_; have BK180 := n2_; have GW180 := n3_; have GE180 := n4_; have NB179_180 := n5_; have NB180_179 := n6_; clear n0_ n1_ n2_ n3_ n4_ n5_ n6_; clear hb hbox hg; have hnb43 := NB179_180.out; have hnc43 := NB180_179.out; have hcz44_0 : w42.cell? ⟨gb179, 0, none⟩ = some (.int .u64 a0_0) := (blk_cell BK179.out 0).trans rfl; have hcz44_1 : w42.cell? ⟨gb179, 1, none⟩ = some (.int .u64 a0_1) := (blk_cell BK179.out 1).trans rfl; have hcz44_2 : w42.cell? ⟨gb179, 2, none⟩ = some (.int .i64 a0_2) := (blk_cell BK179.out 2).trans rfl; have hcz44_3 : w42.cell? ⟨gb179, 3, none⟩ = some (.int .i64 a0_3) := (blk_cell BK179.out 3).trans rfl; have hcz44_4 : w42.cell? ⟨gb179, 4, none⟩ = some (.int .u64 a0_4) := (blk_cell BK179.out 4).trans rfl; have hcz44_5 : w42.cell? ⟨gb179, 5, none⟩ = some (.bool a0_5) := (blk_cell BK179.out 5).trans rfl; have hcz44_6 : w42.cell? ⟨gb179, 6, none⟩ = some (.int .i64 a0_6) := (blk_cell BK179.out 6).trans rfl; have hcz44_7 : w42.cell? ⟨gb179, 7, none⟩ = some (.slice A0_7 l0_7.length c0_7) := (blk_cell BK179.out 7).trans rfl; have hfz44_0 := blk_frozen BK179.out 0; have hfz44_1 := blk_frozen BK179.out 1; have hfz44_2 := blk_frozen BK179.out 2; have hfz44_3 := blk_frozen BK179.out 3; have hfz44_4 := blk_frozen BK179.out 4; have hfz44_5 := blk_frozen BK179.out 5; have hfz44_6 := blk_frozen BK179.out 6; have hfz44_7 := blk_frozen BK179.out 7; have hcz45_0 : w42.cell? ⟨gb180, 0, none⟩ = some (.int .u64 a1_0) := (blk_cell BK180.out 0).trans rfl; have hcz45_1 : w42.cell? ⟨gb180, 1, none⟩ = some (.int .u64 a1_1) := (blk_cell BK180.out 1).trans rfl; have hcz45_2 : w42.cell? ⟨gb180, 2, none⟩ = some (.int .i64 a1_2) := (blk_cell BK180.out 2).trans rfl; have hcz45_3 : w42.cell? ⟨gb180, 3, none⟩ = some (.int .i64 a1_3) := (blk_cell BK180.out 3).trans rfl; have hcz45_4 : w42.cell? ⟨gb180, 4, none⟩ = some (.int .u64 a1_4) := (blk_cell BK180.out 4).trans rfl; have hcz45_5 : w42.cell? ⟨gb180, 5, none⟩ = some (.bool a1_5) := (blk_cell BK180.out 5).trans rfl; have hcz45_6 : w42.cell? ⟨gb180, 6, none⟩ = some (.int .i64 a1_6) := (blk_cell BK180.out 6).trans rfl; have hcz45_7 : w42.cell? ⟨gb180, 7, none⟩ = some (.slice A1_7 l1_7.length c1_7) := (blk_cell BK180.out 7).trans rfl; have hfz45_0 := blk_frozen BK180.out 0; have hfz45_1 := blk_frozen BK180.out 1; have hfz45_2 := blk_frozen BK180.out 2; have hfz45_3 := blk_frozen BK180.out 3; have hfz45_4 := blk_frozen BK180.out 4; have hfz45_5 := blk_frozen BK180.out 5; have hfz45_6 := blk_frozen BK180.out 6; have hfz45_7 := blk_frozen BK180.out 7))
      go_ret
      exact ⟨by first | rfl | (simp [errW_none, errW_some] <;> rfl) | (simp [*, errW_none, errW_some] <;> rfl), by repeat (first | (with_reducible first | exact HB.out | apply below_alloc | apply pw_below_drewN | apply below_drew1 | refine below_set ?_ GE179.out | refine below_set ?_ GE180.out) | exact HB.out)⟩
  · rw [if_neg c3] at H
    have c3b0 : (a0_0 == a1_0) = false := beq_eq_false_iff_ne.mpr c3
    have c3b1 : (a0_0 != a1_0) = true := bne_iff_ne.mpr c3
    obtain rfl := Option.some.inj H
    go_enter Try.func11, Try.ntmps11
    go_wp2_with (first | ((with_reducible refine gate_dst (N := 2) rfl ?_); refine box_event ?hg (N := 2) ?hd (cs := #[.int .u64 a0_0, .int .u64 a0_1, .int .i64 a0_2, .int .i64 a0_3, .int .u64 a0_4, .bool a0_5, .int .i64 a0_6, .slice A0_7 l0_7.length c0_7]) (t := 29) ?hr ?_; (case hd => rfl); (case hg => rfl); (case hr => first | (go_simp; done) | (go_simp; rfl)); intro gb179 hg w46 hbox hb; have n0_ := Aside0.mk (below_step (by repeat (first | (with_reducible first | exact HB.out | apply below_alloc | apply pw_below_drewN | apply below_drew1) | exact HB.out)) hb); have n1_ := Aside0.mk (hbox); have n2_ := Aside0.mk ((by rw [hg]; exact (below_size (by repeat (first | (with_reducible first | exact HB.out | apply below_alloc | apply pw_below_drewN | apply below_drew1) | exact HB.out))) : w.heap.size ≤ gb179)); have n3_ := Aside0.mk ((by rw [hg]; exact (below_size (by repeat (first | (with_reducible first | exact HB.out | apply below_alloc | apply pw_below_drewN | apply below_drew1) | exact HB.out))) : w.heap.size ≤ gb179)); clear HB; have HB := n0_; have BK179 := n1_; have GW179 := n2_; have GE179 := n3_; clear n0_ n1_ n2_ n3_; clear hb hbox hg) | ((with_reducible refine gate_dst (N := 3) rfl ?_); refine box_event ?hg (N := 3) ?hd (cs := #[.int .u64 a1_0, .int .u64 a1_1, .int .i64 a1_2, .int .i64 a1_3, .int .u64 a1_4, .bool a1_5, .int .i64 a1_6, .slice A1_7 l1_7.length c1_7]) (t := 29) ?hr ?_; (case hd => rfl); (case hg => rfl); (case hr => first | (go_simp; done) | (go_simp; rfl)); intro gb180 hg w47 hbox hb; have n0_ := Aside0.mk (blk_below (g := gb179) (o := .cells #[.int .u64 a0_0, .int .u64 a0_1, .int .i64 a0_2, .int .i64 a0_3, .int .u64 a0_4, .bool a0_5, .int .i64 a0_6, .slice A0_7 l0_7.length c0_7] 29 (0, 0)) (by (with_reducible repeat (first | refine blk_drewN ?_ _ | refine blk_drew ?_ | refine blk_alloc ?_ _)); exact BK179.out) hb); have n1_ := Aside0.mk (below_step (by repeat (first | (with_reducible first | exact HB.out | apply below_alloc | apply pw_below_drewN | apply below_drew1 | refine below_set ?_ GE179.out) | exact HB.out)) hb); have n2_ := Aside0.mk (hbox); have n3_ := Aside0.mk ((by rw [hg]; exact (below_size (by repeat (first | (with_reducible first | exact HB.out | apply below_alloc | apply pw_below_drewN | apply below_drew1 | refine below_set ?_ GE179.out) | exact HB.out))) : w.heap.size ≤ gb180)); have n4_ := Aside0.mk ((by rw [hg]; exact (below_size (by repeat (first | (with_reducible first | exact HB.out | apply below_alloc | apply pw_below_drewN | apply below_drew1 | refine below_set ?_ GE179.out) | exact HB.out))) : w.heap.size ≤ gb180)); have n5_ := Aside0.mk ((by rw [hg]; exact Nat.ne_of_lt (blk_lt (g := gb179) (o := .cells #[.int .u64 a0_0, .int .u64 a0_1, .int .i64 a0_2, .int .i64 a0_3, .int .u64 a0_4, .bool a0_5, .int .i64 a0_6, .slice A0_7 l0_7.length c0_7] 29 (0, 0)) (by (with_reducible repeat (first | refine blk_drewN ?_ _ | refine blk_drew ?_ | refine blk_alloc ?_ _)); exact BK179.out)) : gb179 ≠ gb180)); have n6_ := Aside0.mk ((by rw [hg]; exact Nat.ne_of_gt (blk_lt (g := gb179) (o := .cells #[.int .u64 a0_0, .int .u64 a0_1, .int .i64 a0_2, .int .i64 a0_3, .int .u64 a0_4, .bool a0_5, .int .i64 a0_6, .slice A0_7 l0_7.length c0_7] 29 (0, 0)) (by (with_reducible repeat (first | refine blk_drewN ?_ _ | refine blk_drew ?_ | refine blk_alloc ?_ _)); exact BK179.out)) : gb180 ≠ gb179)); clear BK179; clear HB; have BK179 := n0_; have HB := n1_; have BK180 := n2_; have GW180 := n3_; have GE180 := n4_; have NB179_180 := n5_; have NB180_179 := n6_; clear n0_ n1_ n2_ n3_ n4_ n5_ n6_; clear hb hbox hg; have hnb48 := NB179_180.out; have hnc48 := NB180_179.out; have hcz49_0 : w47.cell? ⟨gb179, 0, none⟩ = some (.int .u64 a0_0) := (blk_cell BK179.out 0).trans rfl; have hcz49_1 : w47.cell? ⟨gb179, 1, none⟩ = some (.int .u64 a0_1) := (blk_cell BK179.out 1).trans rfl; have hcz49_2 : w47.cell? ⟨gb179, 2, none⟩ = some (.int .i64 a0_2) := (blk_cell BK179.out 2).trans rfl; have hcz49_3 : w47.cell? ⟨gb179, 3, none⟩ = some (.int .i64 a0_3) := (blk_cell BK179.out 3).trans rfl; have hcz49_4 : w47.cell? ⟨gb179, 4, none⟩ = some (.int .u64 a0_4) := (blk_cell BK179.out 4).trans rfl; have hcz49_5 : w47.cell? ⟨gb179, 5, none⟩ = some (.bool a0_5) := (blk_cell BK179.out 5).trans rfl; have hcz49_6 : w47.cell? ⟨gb179, 6, none⟩ = some (.int .i64 a0_6) := (blk_cell BK179.out 6).trans rfl; have hcz49_7 : w47.cell? ⟨gb179, 7, none⟩ = some (.slice A0_7 l0_7.length c0_7) := (blk_cell BK179.out 7).trans rfl; have hfz49_0 := blk_frozen BK179.out 0; have hfz49_1 := blk_frozen BK179.out 1; have hfz49_2 := blk_frozen BK179.out 2; have hfz49_3 := blk_frozen BK179.out 3; have hfz49_4 := blk_frozen BK179.out 4; have hfz49_5 := blk_frozen BK179.out 5; have hfz49_6 := blk_frozen BK179.out 6; have hfz49_7 := blk_frozen BK179.out 7; have hcz50_0 : w47.cell? ⟨gb180, 0, none⟩ = some (.int .u64 a1_0) := (blk_cell BK180.out 0).trans rfl; have hcz50_1 : w47.cell? ⟨gb180, 1, none⟩ = some (.int .u64 a1_1) := (blk_cell BK180.out 1).trans rfl; have hcz50_2 : w47.cell? ⟨gb180, 2, none⟩ = some (.int .i64 a1_2) := (blk_cell BK180.out 2).trans rfl; have hcz50_3 : w47.cell? ⟨gb180, 3, none⟩ = some (.int .i64 a1_3) := (blk_cell BK180.out 3).trans rfl; have hcz50_4 : w47.cell? ⟨gb180, 4, none⟩ = some (.int .u64 a1_4) := (blk_cell BK180.out 4).trans rfl; have hcz50_5 : w47.cell? ⟨gb180, 5, none⟩ = some (.bool a1_5) := (blk_cell BK180.out 5).trans rfl; have hcz50_6 : w47.cell? ⟨gb180, 6, none⟩ = some (.int .i64 a1_6) := (blk_cell BK180.out 6).trans rfl; have hcz50_7 : w47.cell? ⟨gb180, 7, none⟩ = some (.slice A1_7 l1_7.length c1_7) := (blk_cell BK180.out 7).trans rfl; have hfz50_0 := blk_frozen BK180.out 0; have hfz50_1 := blk_frozen BK180.out 1; have hfz50_2 := blk_frozen BK180.out 2; have hfz50_3 := blk_frozen BK180.out 3; have hfz50_4 := blk_frozen BK180.out 4; have hfz50_5 := blk_frozen BK180.out 5; have hfz50_6 := blk_frozen BK180.out 6; have hfz50_7 := blk_frozen BK180.out 7))
    go_ret
    exact ⟨by first | rfl | (simp [errW_none, errW_some] <;> rfl) | (simp [*, errW_none, errW_some] <;> rfl), by repeat (first | (with_reducible first | exact HB.out | apply below_alloc | apply pw_below_drewN | apply below_drew1 | refine below_set ?_ GE179.out | refine below_set ?_ GE180.out) | exact HB.out)⟩
end Go.Proofs.Ytaepbgieahedjaa.Hp
namespace Go.Proofs.Ytaepbgieahedjaa.Hp
open Go.RowKit Go.Proofs.YtaepbgieahedjaaW.PrintWords Go.Proofs.YtaepbgieahedjaaW.PrintLast Go.Proofs.YtaepbgieahedjaaW.PrintMore
attribute [local go_sem] max2_int min2_int max_two min_two max_three min_three max_four min_four   -- for this text's walks alone
set_option linter.unusedVariables false
set_option linter.unusedSimpArgs false
def wagtailref27_Same.l0 : Nat → List (S29) → List (S29) → Int → Option (Bool)
  | 0, _, _, _ => none
  | k + 1, x0, x1, x5 => if x5 < (x0.length : Int) then (if 0 ≤ x5 then (if x5 < (x1.length : Int) then ((wagtailref26_Same.f k ((rd_T29 x0 x5).f0) ((rd_T29 x0 x5).f1) ((rd_T29 x0 x5).f2) ((rd_T29 x0 x5).f3) ((rd_T29 x0 x5).f4) ((rd_T29 x0 x5).f5) ((rd_T29 x0 x5).f6) ((rd_T29 x0 x5).f7) ((rd_T29 x1 x5).f0) ((rd_T29 x1 x5).f1) ((rd_T29 x1 x5).f2) ((rd_T29 x1 x5).f3) ((rd_T29 x1 x5).f4) ((rd_T29 x1 x5).f5) ((rd_T29 x1 x5).f6) ((rd_T29 x1 x5).f7)).bind fun t187 => (if t187 = true then (wagtailref27_Same.l0 k x0 x1 (wrap64 (x5 + 1))) else (some false))) else (none)) else (none)) else (some true)
def wagtailref27_Same.f (k : Nat) (l0 : List (S29)) (l1 : List (S29)) : Option (Bool) := if (l0.length : Int) = (l1.length : Int) then (wagtailref27_Same.l0 k l0 l1 0) else (some false)
theorem wagtailref27_Same.mono_l : ∀ k, (∀ y0 y1 y2, LeO (wagtailref27_Same.l0 k y0 y1 y2) (wagtailref27_Same.l0 (k + 1) y0 y1 y2))
  | 0 => fun _ _ _ r h => by simp [wagtailref27_Same.l0] at h
  | k + 1 => by
    have ih0 := wagtailref27_Same.mono_l k
    · intro y0 y1 y2
      unfold wagtailref27_Same.l0
      repeat' first
      | (with_reducible exact ih0 _ _ _)
      | (with_reducible exact wagtailref26_Same.mono _ _ _ _ _ _ _ _ _ _ _ _ _ _ _ _ _)
      | (with_reducible exact LeO.refl _)
      | (with_reducible exact LeO.none _)
      | (with_reducible refine LeO.ite ?_ ?_)
      | (with_reducible refine LeO.bind ?_ (fun _ => ?_))
      | exact ih0 _ _ _
      | exact wagtailref26_Same.mono _ _ _ _ _ _ _ _ _ _ _ _ _ _ _ _ _
      | exact LeO.none _
      | refine LeO.ite ?_ ?_
      | refine LeO.bind ?_ (fun _ => ?_)
theorem wagtailref27_Same.mono : ∀ a0 a1 k, LeO (wagtailref27_Same.f k a0 a1) (wagtailref27_Same.f (k + 1) a0 a1) := by
  intro a0 a1 k
  have ih0 := wagtailref27_Same.mono_l k
  unfold wagtailref27_Same.f
  repeat' first
      | (with_reducible exact ih0 _ _ _)
      | (with_reducible exact wagtailref26_Same.mono _ _ _ _ _ _ _ _ _ _ _ _ _ _ _ _ _)
      | (with_reducible exact LeO.refl _)
      | (with_reducible exact LeO.none _)
      | (with_reducible refine LeO.ite ?_ ?_)
      | (with_reducible refine LeO.bind ?_ (fun _ => ?_))
      | exact ih0 _ _ _
      | exact wagtailref26_Same.mono _ _ _ _ _ _ _ _ _ _ _ _ _ _ _ _ _
      | exact LeO.none _
      | refine LeO.ite ?_ ?_
      | refine LeO.bind ?_ (fun _ => ?_)
def wagtailref27_Same.T6 : Bool × List (List Nat × List Nat) := (true, [([], []), ([], []), ([0, 1], [0, 1]), ([2], [2]), ([], []), ([], []), ([4, 5], [4, 5]), ([6], [6]), ([3, 7], [3, 7]), ([8], [8])])
def wagtailref27_Same.B6 : List Nat := [0, 0, 3, 7, 0, 0, 48, 112, 255, 511]
theorem wagtailref27_Same.tab6 : rtab .any (opsOf Try.f20 6) = wagtailref27_Same.T6 := by kernel_rfl
theorem wagtailref27_Same.bits6 : waitsOk wagtailref27_Same.T6.2 wagtailref27_Same.B6 = true := by kernel_rfl
set_option maxHeartbeats 8000000 in
set_option maxRecDepth 100000 in
theorem wagtailref27_Same.calls (k : Nat) (A0 : Option Addr) (c0 : Nat) (l0 : List (S29)) (A1 : Option Addr) (c1 : Nat) (l1 : List (S29)) (r : Bool) (w : World) (hr0 : Kd.C k29 w A0 l0.length l0) (hc0 : l0.length ≤ c0) (hr1 : Kd.C k29 w A1 l1.length l1) (hc1 : l1.length ≤ c1) (h : wagtailref27_Same.f k l0 l1 = some r) :
    Calls Try.prog 20 #[.slice A0 l0.length c0, .slice A1 l1.length c1] w fun e w' => e = .returned (.bool r) ∧ Below w.heap.size w w' := by
  have hu29 := Try.underlying29
  have HR0 := Aside0.mk hr0
  have HC0 := Aside0.mk hc0
  clear hr0 hc0
  have HR1 := Aside0.mk hr1
  have HC1 := Aside0.mk hc1
  clear hr1 hc1
  have HB := Aside0.mk (Below.refl w.heap.size w)
  have H : (if (l0.length : Int) = (l1.length : Int) then (wagtailref27_Same.l0 k l0 l1 0) else (some false)) = some r := h
  clear h
  by_cases c3 : (l0.length : Int) = (l1.length : Int)
  · rw [if_pos c3] at H
    have c3b0 : ((l0.length : Int) == (l1.length : Int)) = true := beq_iff_eq.mpr c3
    have c3b1 : ((l0.length : Int) != (l1.length : Int)) = false := bne_eq_false_iff_eq.mpr c3
    have c3b2 : (l0.length == l1.length) = true := by first | simpa using c3 | (simp at c3 ⊢; omega)
    clear c3
    have H' := Aside0.mk H
    clear H
    go_enter Try.func20, Try.ntmps20
    go_wp2
    go_loopg [5] k (fun kq v5 w' => ∃ (x5_1 : Int), v5 = .int .i64 x5_1 ∧ Aside0 (wagtailref27_Same.l0 kq l0 l1 x5_1 = some r) ∧ Aside0 (kq ≤ k) ∧ Aside0 (Below w.heap.size w w'))
    case atStart => exact ⟨(0), (by first | rfl | (simp; done) | (simp [*]; done)), H', ⟨Nat.le_refl _⟩, ⟨by repeat (first | (with_reducible first | exact HB.out | apply below_alloc | apply pw_below_drewN | apply below_drew1) | exact HB.out)⟩⟩
    case round =>
      clear H'
      try clear c1
      try clear c2
      try clear p2
      try clear c3
      try clear c3b0
      try clear c3b1
      try clear c3b2
      obtain ⟨x5_1, rfl, HA, HK1, HB⟩ := hrel
      cases gk with
      | zero => exact absurd HA.out (by simp [wagtailref27_Same.l0])
      | succ k1 =>
        have H := HA.out
        clear HA
        simp only [wagtailref27_Same.l0] at H
        by_cases c4 : x5_1 < (l0.length : Int)
        · rw [if_pos c4] at H
          have c4b0 : decide (x5_1 < (l0.length : Int)) = true := decide_eq_true c4
          clear c4
          by_cases c5 : 0 ≤ x5_1
          · rw [if_pos c5] at H
            have c5b0 : decide (0 ≤ x5_1) = true := decide_eq_true c5
            clear c5
            by_cases c6 : x5_1 < (l1.length : Int)
            · rw [if_pos c6] at H
              have c6b0 : decide (x5_1 < (l1.length : Int)) = true := decide_eq_true c6
              clear c6
              replace H := Option.bind_eq_some_iff.mp H
              obtain ⟨t187, A70, H⟩ := H
              replace H : (if t187 = true then (wagtailref27_Same.l0 k1 l0 l1 (wrap64 (x5_1 + 1))) else (some false)) = some r := H
              have A7 := Aside0.mk A70
              clear A70
              by_cases c8 : t187 = true
              · subst c8
                have H1 : (wagtailref27_Same.l0 k1 l0 l1 (wrap64 (x5_1 + 1))) = some r := by rw [if_pos rfl] at H; exact H
                clear H
                have H := H1
                clear H1
                have H' := Aside0.mk H
                clear H
                try go_wp2
                have n0_ := Aside0.mk (below_drew1 HB.out)
                clear HB
                have HB := n0_
                clear n0_
                have p185 : 0 ≤ (x5_1 : Int) := of_decide_eq_true (by first | (with_reducible assumption) | assumption)
                have q185 : x5_1 < (l0.length : Int) := of_decide_eq_true (by first | (with_reducible assumption) | assumption)
                obtain ⟨ad185, A185_7, c185_7, e185, hx185_0, hx185_1, hx185_2, hx185_3, hx185_4, hx185_5, hx185_6, hx185_7, hl185_7, hi185_7⟩ := at_T29 HR0.out x5_1 p185 q185
                have hw185_7 := hx185_7
                have hw185_6 := hx185_6
                have hw185_5 := hx185_5
                have hw185_4 := hx185_4
                have hw185_3 := hx185_3
                have hw185_2 := hx185_2
                have hw185_1 := hx185_1
                have hw185_0 := hx185_0
                cases e185
                replace hx185_0 := (HB.out.cell (World.block_lt_of_cell? w _ hx185_0)).trans hx185_0
                replace hx185_1 := (HB.out.cell (World.block_lt_of_cell? w _ hx185_1)).trans hx185_1
                replace hx185_2 := (HB.out.cell (World.block_lt_of_cell? w _ hx185_2)).trans hx185_2
                replace hx185_3 := (HB.out.cell (World.block_lt_of_cell? w _ hx185_3)).trans hx185_3
                replace hx185_4 := (HB.out.cell (World.block_lt_of_cell? w _ hx185_4)).trans hx185_4
                replace hx185_5 := (HB.out.cell (World.block_lt_of_cell? w _ hx185_5)).trans hx185_5
                replace hx185_6 := (HB.out.cell (World.block_lt_of_cell? w _ hx185_6)).trans hx185_6
                replace hx185_7 := (HB.out.cell (World.block_lt_of_cell? w _ hx185_7)).trans hx185_7
                have HR185_7 := Aside0.mk hi185_7
                have HC185_7 := Aside0.mk hl185_7
                clear hi185_7 hl185_7
                replace p185 := eq_true p185
                replace q185 := eq_true q185
                have p186 : 0 ≤ (x5_1 : Int) := of_decide_eq_true (by first | (with_reducible assumption) | assumption)
                have q186 : x5_1 < (l1.length : Int) := of_decide_eq_true (by first | (with_reducible assumption) | assumption)
                obtain ⟨ad186, A186_7, c186_7, e186, hx186_0, hx186_1, hx186_2, hx186_3, hx186_4, hx186_5, hx186_6, hx186_7, hl186_7, hi186_7⟩ := at_T29 HR1.out x5_1 p186 q186
                have hw186_7 := hx186_7
                have hw186_6 := hx186_6
                have hw186_5 := hx186_5
                have hw186_4 := hx186_4
                have hw186_3 := hx186_3
                have hw186_2 := hx186_2
                have hw186_1 := hx186_1
                have hw186_0 := hx186_0
                cases e186
                replace hx186_0 := (HB.out.cell (World.block_lt_of_cell? w _ hx186_0)).trans hx186_0
                replace hx186_1 := (HB.out.cell (World.block_lt_of_cell? w _ hx186_1)).trans hx186_1
                replace hx186_2 := (HB.out.cell (World.block_lt_of_cell? w _ hx186_2)).trans hx186_2
                replace hx186_3 := (HB.out.cell (World.block_lt_of_cell? w _ hx186_3)).trans hx186_3
                replace hx186_4 := (HB.out.cell (World.block_lt_of_cell? w _ hx186_4)).trans hx186_4
                replace hx186_5 := (HB.out.cell (World.block_lt_of_cell? w _ hx186_5)).trans hx186_5
                replace hx186_6 := (HB.out.cell (World.block_lt_of_cell? w _ hx186_6)).trans hx186_6
                replace hx186_7 := (HB.out.cell (World.block_lt_of_cell? w _ hx186_7)).trans hx186_7
                have HR186_7 := Aside0.mk hi186_7
                have HC186_7 := Aside0.mk hl186_7
                clear hi186_7 hl186_7
                replace p186 := eq_true p186
                replace q186 := eq_true q186
                refine start_ (n := 10) (S := fun w' => w'.cell? (ad185.add ((x5_1).toNat * 8)) = some (.int .u64 ((rd_T29 l0 x5_1).f0)) ∧ w'.cell? ⟨(ad185.add ((x5_1).toNat * 8)).block, (ad185.add ((x5_1).toNat * 8)).off + 1, none⟩ = some (.int .u64 ((rd_T29 l0 x5_1).f1)) ∧ w'.cell? ⟨(ad185.add ((x5_1).toNat * 8)).block, (ad185.add ((x5_1).toNat * 8)).off + 2, none⟩ = some (.int .i64 ((rd_T29 l0 x5_1).f2)) ∧ w'.cell? ⟨(ad185.add ((x5_1).toNat * 8)).block, (ad185.add ((x5_1).toNat * 8)).off + 3, none⟩ = some (.int .i64 ((rd_T29 l0 x5_1).f3)) ∧ w'.cell? ⟨(ad185.add ((x5_1).toNat * 8)).block, (ad185.add ((x5_1).toNat * 8)).off + 4, none⟩ = some (.int .u64 ((rd_T29 l0 x5_1).f4)) ∧ w'.cell? ⟨(ad185.add ((x5_1).toNat * 8)).block, (ad185.add ((x5_1).toNat * 8)).off + 5, none⟩ = some (.bool ((rd_T29 l0 x5_1).f5)) ∧ w'.cell? ⟨(ad185.add ((x5_1).toNat * 8)).block, (ad185.add ((x5_1).toNat * 8)).off + 6, none⟩ = some (.int .i64 ((rd_T29 l0 x5_1).f6)) ∧ w'.cell? ⟨(ad185.add ((x5_1).toNat * 8)).block, (ad185.add ((x5_1).toNat * 8)).off + 7, none⟩ = some (.slice A185_7 ((rd_T29 l0 x5_1).f7).length c185_7) ∧ w'.cell? (ad186.add ((x5_1).toNat * 8)) = some (.int .u64 ((rd_T29 l1 x5_1).f0)) ∧ w'.cell? ⟨(ad186.add ((x5_1).toNat * 8)).block, (ad186.add ((x5_1).toNat * 8)).off + 1, none⟩ = some (.int .u64 ((rd_T29 l1 x5_1).f1)) ∧ w'.cell? ⟨(ad186.add ((x5_1).toNat * 8)).block, (ad186.add ((x5_1).toNat * 8)).off + 2, none⟩ = some (.int .i64 ((rd_T29 l1 x5_1).f2)) ∧ w'.cell? ⟨(ad186.add ((x5_1).toNat * 8)).block, (ad186.add ((x5_1).toNat * 8)).off + 3, none⟩ = some (.int .i64 ((rd_T29 l1 x5_1).f3)) ∧ w'.cell? ⟨(ad186.add ((x5_1).toNat * 8)).block, (ad186.add ((x5_1).toNat * 8)).off + 4, none⟩ = some (.int .u64 ((rd_T29 l1 x5_1).f4)) ∧ w'.cell? ⟨(ad186.add ((x5_1).toNat * 8)).block, (ad186.add ((x5_1).toNat * 8)).off + 5, none⟩ = some (.bool ((rd_T29 l1 x5_1).f5)) ∧ w'.cell? ⟨(ad186.add ((x5_1).toNat * 8)).block, (ad186.add ((x5_1).toNat * 8)).off + 6, none⟩ = some (.int .i64 ((rd_T29 l1 x5_1).f6)) ∧ w'.cell? ⟨(ad186.add ((x5_1).toNat * 8)).block, (ad186.add ((x5_1).toNat * 8)).off + 7, none⟩ = some (.slice A186_7 ((rd_T29 l1 x5_1).f7).length c186_7)) (ds := []) #[false, false, false, false, false, false, false, false, false, false] (by kernel_rfl) rfl rfl ⟨((HB.out.cell (World.block_lt_of_cell? w _ hw185_0)).trans hw185_0), ((HB.out.cell (World.block_lt_of_cell? w _ hw185_1)).trans hw185_1), ((HB.out.cell (World.block_lt_of_cell? w _ hw185_2)).trans hw185_2), ((HB.out.cell (World.block_lt_of_cell? w _ hw185_3)).trans hw185_3), ((HB.out.cell (World.block_lt_of_cell? w _ hw185_4)).trans hw185_4), ((HB.out.cell (World.block_lt_of_cell? w _ hw185_5)).trans hw185_5), ((HB.out.cell (World.block_lt_of_cell? w _ hw185_6)).trans hw185_6), ((HB.out.cell (World.block_lt_of_cell? w _ hw185_7)).trans hw185_7), ((HB.out.cell (World.block_lt_of_cell? w _ hw186_0)).trans hw186_0), ((HB.out.cell (World.block_lt_of_cell? w _ hw186_1)).trans hw186_1), ((HB.out.cell (World.block_lt_of_cell? w _ hw186_2)).trans hw186_2), ((HB.out.cell (World.block_lt_of_cell? w _ hw186_3)).trans hw186_3), ((HB.out.cell (World.block_lt_of_cell? w _ hw186_4)).trans hw186_4), ((HB.out.cell (World.block_lt_of_cell? w _ hw186_5)).trans hw186_5), ((HB.out.cell (World.block_lt_of_cell? w _ hw186_6)).trans hw186_6), ((HB.out.cell (World.block_lt_of_cell? w _ hw186_7)).trans hw186_7)⟩ (fun hHeld => ?_); refine with_tabW wagtailref27_Same.tab6 wagtailref27_Same.bits6 (fun HT_ HW_ => ?_)
                generalize wr.drew = w9 at HB HR185_7 HR186_7 hx185_0 hx185_1 hx185_2 hx185_3 hx185_4 hx185_5 hx185_6 hx185_7 hx186_0 hx186_1 hx186_2 hx186_3 hx186_4 hx186_5 hx186_6 hx186_7 hHeld ⊢
                refine pure_ (i := 0) (N := some 17) (v := ?_) (a' := ?_) #[true, false, false, false, false, false, false, false, false, false] rfl rfl (any_of HT_.out (by kernel_rfl)) (fun _ _ _ h => h) (Or.inl ⟨by rfl, ?_⟩) ?_ ?_
                rotate_left
                · intro w'
                  go_simp
                  with_reducible rfl
                rotate_left
                · simp only [Act.put, List.setIfInBounds_toArray, List.set_cons_zero, List.set_cons_succ, i64_w, i32_w]
                  rfl
                refine pure_ (i := 1) (N := some 18) (v := ?_) (a' := ?_) #[true, true, false, false, false, false, false, false, false, false] rfl rfl (any_of HT_.out (by kernel_rfl)) (fun _ _ _ h => h) (Or.inl ⟨by rfl, ?_⟩) ?_ ?_
                rotate_left
                · intro w'
                  go_simp
                  with_reducible rfl
                rotate_left
                · simp only [Act.put, List.setIfInBounds_toArray, List.set_cons_zero, List.set_cons_succ, i64_w, i32_w]
                  rfl
                refine pure_ (i := 2) (N := some 19) (v := ?_) (a' := ?_) #[true, true, true, false, false, false, false, false, false, false] rfl rfl (any_of HT_.out (by kernel_rfl)) (fun _ _ _ h => h) (Or.inl ⟨by rfl, ?_⟩) ?_ ?_
                rotate_left
                · intro w'
                  go_simp
                  with_reducible rfl
                rotate_left
                · simp only [Act.put, List.setIfInBounds_toArray, List.set_cons_zero, List.set_cons_succ, i64_w, i32_w]
                  rfl
                refine pure_ (i := 4) (N := some 21) (v := ?_) (a' := ?_) #[true, true, true, false, true, false, false, false, false, false] rfl rfl (any_of HT_.out (by kernel_rfl)) (fun _ _ _ h => h) (Or.inl ⟨by rfl, ?_⟩) ?_ ?_
                rotate_left
                · intro w'
                  go_simp
                  with_reducible rfl
                rotate_left
                · simp only [Act.put, List.setIfInBounds_toArray, List.set_cons_zero, List.set_cons_succ, i64_w, i32_w]
                  rfl
                refine pure_ (i := 5) (N := some 22) (v := ?_) (a' := ?_) #[true, true, true, false, true, true, false, false, false, false] rfl rfl (any_of HT_.out (by kernel_rfl)) (fun _ _ _ h => h) (Or.inl ⟨by rfl, ?_⟩) ?_ ?_
                rotate_left
                · intro w'
                  go_simp
                  with_reducible rfl
                rotate_left
                · simp only [Act.put, List.setIfInBounds_toArray, List.set_cons_zero, List.set_cons_succ, i64_w, i32_w]
                  rfl
                refine pure_ (i := 6) (N := some 23) (v := ?_) (a' := ?_) #[true, true, true, false, true, true, true, false, false, false] rfl rfl (any_of HT_.out (by kernel_rfl)) (fun _ _ _ h => h) (Or.inl ⟨by rfl, ?_⟩) ?_ ?_
                rotate_left
                · intro w'
                  go_simp
                  with_reducible rfl
                rotate_left
                · simp only [Act.put, List.setIfInBounds_toArray, List.set_cons_zero, List.set_cons_succ, i64_w, i32_w]
                  rfl
                refine take_ (i := 3) (N := some 20) (v := ?_) (a' := ?_) #[true, true, true, true, true, true, true, false, false, false] rfl rfl (take_ofW HT_.out HW_.out (by kernel_rfl)) (fun _ _ _ h => h) (Or.inl ⟨by rfl, ?_⟩) hHeld ?_ ?_
                rotate_left
                · rintro w' ⟨s0, s1, s2, s3, s4, s5, s6, s7, s8, s9, s10, s11, s12, s13, s14, s15⟩
                  go_simp
                  with_reducible rfl
                rotate_left
                · simp only [Act.put, List.setIfInBounds_toArray, List.set_cons_zero, List.set_cons_succ, i64_w, i32_w]
                  rfl
                refine take_ (i := 7) (N := some 24) (v := ?_) (a' := ?_) #[true, true, true, true, true, true, true, true, false, false] rfl rfl (take_ofW HT_.out HW_.out (by kernel_rfl)) (fun _ _ _ h => h) (Or.inl ⟨by rfl, ?_⟩) hHeld ?_ ?_
                rotate_left
                · rintro w' ⟨s0, s1, s2, s3, s4, s5, s6, s7, s8, s9, s10, s11, s12, s13, s14, s15⟩
                  go_simp
                  with_reducible rfl
                rotate_left
                · simp only [Act.put, List.setIfInBounds_toArray, List.set_cons_zero, List.set_cons_succ, i64_w, i32_w]
                  rfl
                refine one_ (i := 8) (N := some 25) #[true, true, true, true, true, true, true, true, true, false] rfl rfl (one_of HT_.out (by kernel_rfl)) (by decide) (fun K hK => ?_)
                refine goes_ Try.func11 (by kernel_rfl) rfl #[.agg #[.int .u64 ((rd_T29 l0 x5_1).f0), .int .u64 ((rd_T29 l0 x5_1).f1), .int .i64 ((rd_T29 l0 x5_1).f2), .int .i64 ((rd_T29 l0 x5_1).f3), .int .u64 ((rd_T29 l0 x5_1).f4), .bool ((rd_T29 l0 x5_1).f5), .int .i64 ((rd_T29 l0 x5_1).f6), .slice A185_7 ((rd_T29 l0 x5_1).f7).length c185_7], .agg #[.int .u64 ((rd_T29 l1 x5_1).f0), .int .u64 ((rd_T29 l1 x5_1).f1), .int .i64 ((rd_T29 l1 x5_1).f2), .int .i64 ((rd_T29 l1 x5_1).f3), .int .u64 ((rd_T29 l1 x5_1).f4), .bool ((rd_T29 l1 x5_1).f5), .int .i64 ((rd_T29 l1 x5_1).f6), .slice A186_7 ((rd_T29 l1 x5_1).f7).length c186_7]] (by rfl) rfl rfl (by (try simp only [List.map_toArray, List.map_cons, List.map_nil]); first | done | rfl | (simp only [List.length_drop, List.length_take]; rfl)) ?_
                with_reducible refine (wagtailref26_Same.calls k1 ((rd_T29 l0 x5_1).f0) ((rd_T29 l0 x5_1).f1) ((rd_T29 l0 x5_1).f2) ((rd_T29 l0 x5_1).f3) ((rd_T29 l0 x5_1).f4) ((rd_T29 l0 x5_1).f5) ((rd_T29 l0 x5_1).f6) _ _ ((rd_T29 l0 x5_1).f7) ((rd_T29 l1 x5_1).f0) ((rd_T29 l1 x5_1).f1) ((rd_T29 l1 x5_1).f2) ((rd_T29 l1 x5_1).f3) ((rd_T29 l1 x5_1).f4) ((rd_T29 l1 x5_1).f5) ((rd_T29 l1 x5_1).f6) _ _ ((rd_T29 l1 x5_1).f7) true _ ?side1 ?side2 ?side3 ?side4 A7.out).mono ?_
                (case side1 => repeat (first | exact (Kd.C_below HR185_7.out HB.out) | (with_reducible refine Kd.C_alloc ?_ _) | (with_reducible refine Kd.C_drewN ?_ _) | (with_reducible refine Kd.C_drew ?_)))
                (case side2 => exact HC185_7.out)
                (case side3 => repeat (first | exact (Kd.C_below HR186_7.out HB.out) | (with_reducible refine Kd.C_alloc ?_ _) | (with_reducible refine Kd.C_drewN ?_ _) | (with_reducible refine Kd.C_drew ?_)))
                (case side4 => exact HC186_7.out)
                rintro e w10 ⟨rfl, hb⟩
                refine ⟨_, rfl, ?_⟩
                have n0_ := Aside0.mk (below_step (by repeat (first | (with_reducible first | exact HB.out | apply below_alloc | apply pw_below_drewN | apply below_drew1) | exact HB.out)) hb)
                clear HB
                have HB := n0_
                clear n0_
                (try clear hb)
                (try clear hb2)
                (try clear hk)
                (try clear hi)
                refine hK.out _ _ ⟨((HB.out.cell (World.block_lt_of_cell? w _ hw185_0)).trans hw185_0), ((HB.out.cell (World.block_lt_of_cell? w _ hw185_1)).trans hw185_1), ((HB.out.cell (World.block_lt_of_cell? w _ hw185_2)).trans hw185_2), ((HB.out.cell (World.block_lt_of_cell? w _ hw185_3)).trans hw185_3), ((HB.out.cell (World.block_lt_of_cell? w _ hw185_4)).trans hw185_4), ((HB.out.cell (World.block_lt_of_cell? w _ hw185_5)).trans hw185_5), ((HB.out.cell (World.block_lt_of_cell? w _ hw185_6)).trans hw185_6), ((HB.out.cell (World.block_lt_of_cell? w _ hw185_7)).trans hw185_7), ((HB.out.cell (World.block_lt_of_cell? w _ hw186_0)).trans hw186_0), ((HB.out.cell (World.block_lt_of_cell? w _ hw186_1)).trans hw186_1), ((HB.out.cell (World.block_lt_of_cell? w _ hw186_2)).trans hw186_2), ((HB.out.cell (World.block_lt_of_cell? w _ hw186_3)).trans hw186_3), ((HB.out.cell (World.block_lt_of_cell? w _ hw186_4)).trans hw186_4), ((HB.out.cell (World.block_lt_of_cell? w _ hw186_5)).trans hw186_5), ((HB.out.cell (World.block_lt_of_cell? w _ hw186_6)).trans hw186_6), ((HB.out.cell (World.block_lt_of_cell? w _ hw186_7)).trans hw186_7)⟩ (fun hHeld => ?_)
                clear hK K
                refine norm_ (a' := ?_) ?_ ?_
                rotate_left
                · show Act.put _ (some 25) _ = _
                  simp only [Act.put, List.setIfInBounds_toArray, List.set_cons_zero, List.set_cons_succ, i64_w, i32_w]
                  rfl
                refine pure_ (i := 9) (N := some 26) (v := ?_) (a' := ?_) #[true, true, true, true, true, true, true, true, true, true] rfl rfl (any_of HT_.out (by kernel_rfl)) (fun _ _ _ h => h) (Or.inl ⟨by rfl, ?_⟩) ?_ ?_
                rotate_left
                · intro w'
                  go_simp
                  with_reducible rfl
                rotate_left
                · simp only [Act.put, List.setIfInBounds_toArray, List.set_cons_zero, List.set_cons_succ, i64_w, i32_w]
                  rfl
                refine done_ (done_of HT_.out (by kernel_rfl)) ?_
                try go_wp2
                go_roundg k1
                case measure => have := HK1.out; omega
                case rel => exact ⟨(wrap64 (x5_1 + 1)), (by first | rfl | (simp; done) | (simp [*]; done)), H', ⟨by have := HK1.out; omega⟩, ⟨by repeat (first | (with_reducible first | exact HB.out | apply below_alloc | apply pw_below_drewN | apply below_drew1) | exact HB.out)⟩⟩
              · replace c8 := Bool.eq_false_iff.mpr c8
                subst c8
                have H1 : (some false) = some r := by rw [if_neg (show ¬ (false = true) by decide)] at H; exact H
                clear H
                have H := H1
                clear H1
                obtain rfl := Option.some.inj H
                try go_wp2
                have n0_ := Aside0.mk (below_drew1 HB.out)
                clear HB
                have HB := n0_
                clear n0_
                have p185 : 0 ≤ (x5_1 : Int) := of_decide_eq_true (by first | (with_reducible assumption) | assumption)
                have q185 : x5_1 < (l0.length : Int) := of_decide_eq_true (by first | (with_reducible assumption) | assumption)
                obtain ⟨ad185, A185_7, c185_7, e185, hx185_0, hx185_1, hx185_2, hx185_3, hx185_4, hx185_5, hx185_6, hx185_7, hl185_7, hi185_7⟩ := at_T29 HR0.out x5_1 p185 q185
                have hw185_7 := hx185_7
                have hw185_6 := hx185_6
                have hw185_5 := hx185_5
                have hw185_4 := hx185_4
                have hw185_3 := hx185_3
                have hw185_2 := hx185_2
                have hw185_1 := hx185_1
                have hw185_0 := hx185_0
                cases e185
                replace hx185_0 := (HB.out.cell (World.block_lt_of_cell? w _ hx185_0)).trans hx185_0
                replace hx185_1 := (HB.out.cell (World.block_lt_of_cell? w _ hx185_1)).trans hx185_1
                replace hx185_2 := (HB.out.cell (World.block_lt_of_cell? w _ hx185_2)).trans hx185_2
                replace hx185_3 := (HB.out.cell (World.block_lt_of_cell? w _ hx185_3)).trans hx185_3
                replace hx185_4 := (HB.out.cell (World.block_lt_of_cell? w _ hx185_4)).trans hx185_4
                replace hx185_5 := (HB.out.cell (World.block_lt_of_cell? w _ hx185_5)).trans hx185_5
                replace hx185_6 := (HB.out.cell (World.block_lt_of_cell? w _ hx185_6)).trans hx185_6
                replace hx185_7 := (HB.out.cell (World.block_lt_of_cell? w _ hx185_7)).trans hx185_7
                have HR185_7 := Aside0.mk hi185_7
                have HC185_7 := Aside0.mk hl185_7
                clear hi185_7 hl185_7
                replace p185 := eq_true p185
                replace q185 := eq_true q185
                have p186 : 0 ≤ (x5_1 : Int) := of_decide_eq_true (by first | (with_reducible assumption) | assumption)
                have q186 : x5_1 < (l1.length : Int) := of_decide_eq_true (by first | (with_reducible assumption) | assumption)
                obtain ⟨ad186, A186_7, c186_7, e186, hx186_0, hx186_1, hx186_2, hx186_3, hx186_4, hx186_5, hx186_6, hx186_7, hl186_7, hi186_7⟩ := at_T29 HR1.out x5_1 p186 q186
                have hw186_7 := hx186_7
                have hw186_6 := hx186_6
                have hw186_5 := hx186_5
                have hw186_4 := hx186_4
                have hw186_3 := hx186_3
                have hw186_2 := hx186_2
                have hw186_1 := hx186_1
                have hw186_0 := hx186_0
                cases e186
                replace hx186_0 := (HB.out.cell (World.block_lt_of_cell? w _ hx186_0)).trans hx186_0
                replace hx186_1 := (HB.out.cell (World.block_lt_of_cell? w _ hx186_1)).trans hx186_1
                replace hx186_2 := (HB.out.cell (World.block_lt_of_cell? w _ hx186_2)).trans hx186_2
                replace hx186_3 := (HB.out.cell (World.block_lt_of_cell? w _ hx186_3)).trans hx186_3
                replace hx186_4 := (HB.out.cell (World.block_lt_of_cell? w _ hx186_4)).trans hx186_4
                replace hx186_5 := (HB.out.cell (World.block_lt_of_cell? w _ hx186_5)).trans hx186_5
                replace hx186_6 := (HB.out.cell (World.block_lt_of_cell? w _ hx186_6)).trans hx186_6
                replace hx186_7 := (HB.out.cell (World.block_lt_of_cell? w _ hx186_7)).trans hx186_7
                have HR186_7 := Aside0.mk hi186_7
                have HC186_7 := Aside0.mk hl186_7
                clear hi186_7 hl186_7
                replace p186 := eq_true p186
                replace q186 := eq_true q186
                refine start_ (n := 10) (S := fun w' => w'.cell? (ad185.add ((x5_1).toNat * 8)) = some (.int .u64 ((rd_T29 l0 x5_1).f0)) ∧ w'.cell? ⟨(ad185.add ((x5_1).toNat * 8)).block, (ad185.add ((x5_1).toNat * 8)).off + 1, none⟩ = some (.int .u64 ((rd_T29 l0 x5_1).f1)) ∧ w'.cell? ⟨(ad185.add ((x5_1).toNat * 8)).block, (ad185.add ((x5_1).toNat * 8)).off + 2, none⟩ = some (.int .i64 ((rd_T29 l0 x5_1).f2)) ∧ w'.cell? ⟨(ad185.add ((x5_1).toNat * 8)).block, (ad185.add ((x5_1).toNat * 8)).off + 3, none⟩ = some (.int .i64 ((rd_T29 l0 x5_1).f3)) ∧ w'.cell? ⟨(ad185.add ((x5_1).toNat * 8)).block, (ad185.add ((x5_1).toNat * 8)).off + 4, none⟩ = some (.int .u64 ((rd_T29 l0 x5_1).f4)) ∧ w'.cell? ⟨(ad185.add ((x5_1).toNat * 8)).block, (ad185.add ((x5_1).toNat * 8)).off + 5, none⟩ = some (.bool ((rd_T29 l0 x5_1).f5)) ∧ w'.cell? ⟨(ad185.add ((x5_1).toNat * 8)).block, (ad185.add ((x5_1).toNat * 8)).off + 6, none⟩ = some (.int .i64 ((rd_T29 l0 x5_1).f6)) ∧ w'.cell? ⟨(ad185.add ((x5_1).toNat * 8)).block, (ad185.add ((x5_1).toNat * 8)).off + 7, none⟩ = some (.slice A185_7 ((rd_T29 l0 x5_1).f7).length c185_7) ∧ w'.cell? (ad186.add ((x5_1).toNat * 8)) = some (.int .u64 ((rd_T29 l1 x5_1).f0)) ∧ w'.cell? ⟨(ad186.add ((x5_1).toNat * 8)).block, (ad186.add ((x5_1).toNat * 8)).off + 1, none⟩ = some (.int .u64 ((rd_T29 l1 x5_1).f1)) ∧ w'.cell? ⟨(ad186.add ((x5_1).toNat * 8)).block, (ad186.add ((x5_1).toNat * 8)).off + 2, none⟩ = some (.int .i64 ((rd_T29 l1 x5_1).f2)) ∧ w'.cell? ⟨(ad186.add ((x5_1).toNat * 8)).block, (ad186.add ((x5_1).toNat * 8)).off + 3, none⟩ = some (.int .i64 ((rd_T29 l1 x5_1).f3)) ∧ w'.cell? ⟨(ad186.add ((x5_1).toNat * 8)).block, (ad186.add ((x5_1).toNat * 8)).off + 4, none⟩ = some (.int .u64 ((rd_T29 l1 x5_1).f4)) ∧ w'.cell? ⟨(ad186.add ((x5_1).toNat * 8)).block, (ad186.add ((x5_1).toNat * 8)).off + 5, none⟩ = some (.bool ((rd_T29 l1 x5_1).f5)) ∧ w'.cell? ⟨(ad186.add ((x5_1).toNat * 8)).block, (ad186.add ((x5_1).toNat * 8)).off + 6, none⟩ = some (.int .i64 ((rd_T29 l1 x5_1).f6)) ∧ w'.cell? ⟨(ad186.add ((x5_1).toNat * 8)).block, (ad186.add ((x5_1).toNat * 8)).off + 7, none⟩ = some (.slice A186_7 ((rd_T29 l1 x5_1).f7).length c186_7)) (ds := []) #[false, false, false, false, false, false, false, false, false, false] (by kernel_rfl) rfl rfl ⟨((HB.out.cell (World.block_lt_of_cell? w _ hw185_0)).trans hw185_0), ((HB.out.cell (World.block_lt_of_cell? w _ hw185_1)).trans hw185_1), ((HB.out.cell (World.block_lt_of_cell? w _ hw185_2)).trans hw185_2), ((HB.out.cell (World.block_lt_of_cell? w _ hw185_3)).trans hw185_3), ((HB.out.cell (World.block_lt_of_cell? w _ hw185_4)).trans hw185_4), ((HB.out.cell (World.block_lt_of_cell? w _ hw185_5)).trans hw185_5), ((HB.out.cell (World.block_lt_of_cell? w _ hw185_6)).trans hw185_6), ((HB.out.cell (World.block_lt_of_cell? w _ hw185_7)).trans hw185_7), ((HB.out.cell (World.block_lt_of_cell? w _ hw186_0)).trans hw186_0), ((HB.out.cell (World.block_lt_of_cell? w _ hw186_1)).trans hw186_1), ((HB.out.cell (World.block_lt_of_cell? w _ hw186_2)).trans hw186_2), ((HB.out.cell (World.block_lt_of_cell? w _ hw186_3)).trans hw186_3), ((HB.out.cell (World.block_lt_of_cell? w _ hw186_4)).trans hw186_4), ((HB.out.cell (World.block_lt_of_cell? w _ hw186_5)).trans hw186_5), ((HB.out.cell (World.block_lt_of_cell? w _ hw186_6)).trans hw186_6), ((HB.out.cell (World.block_lt_of_cell? w _ hw186_7)).trans hw186_7)⟩ (fun hHeld => ?_); refine with_tabW wagtailref27_Same.tab6 wagtailref27_Same.bits6 (fun HT_ HW_ => ?_)
                generalize wr.drew = w11 at HB HR185_7 HR186_7 hx185_0 hx185_1 hx185_2 hx185_3 hx185_4 hx185_5 hx185_6 hx185_7 hx186_0 hx186_1 hx186_2 hx186_3 hx186_4 hx186_5 hx186_6 hx186_7 hHeld ⊢
                refine pure_ (i := 0) (N := some 17) (v := ?_) (a' := ?_) #[true, false, false, false, false, false, false, false, false, false] rfl rfl (any_of HT_.out (by kernel_rfl)) (fun _ _ _ h => h) (Or.inl ⟨by rfl, ?_⟩) ?_ ?_
                rotate_left
                · intro w'
                  go_simp
                  with_reducible rfl
                rotate_left
                · simp only [Act.put, List.setIfInBounds_toArray, List.set_cons_zero, List.set_cons_succ, i64_w, i32_w]
                  rfl
                refine pure_ (i := 1) (N := some 18) (v := ?_) (a' := ?_) #[true, true, false, false, false, false, false, false, false, false] rfl rfl (any_of HT_.out (by kernel_rfl)) (fun _ _ _ h => h) (Or.inl ⟨by rfl, ?_⟩) ?_ ?_
                rotate_left
                · intro w'
                  go_simp
                  with_reducible rfl
                rotate_left
                · simp only [Act.put, List.setIfInBounds_toArray, List.set_cons_zero, List.set_cons_succ, i64_w, i32_w]
                  rfl
                refine pure_ (i := 2) (N := some 19) (v := ?_) (a' := ?_) #[true, true, true, false, false, false, false, false, false, false] rfl rfl (any_of HT_.out (by kernel_rfl)) (fun _ _ _ h => h) (Or.inl ⟨by rfl, ?_⟩) ?_ ?_
                rotate_left
                · intro w'
                  go_simp
                  with_reducible rfl
                rotate_left
                · simp only [Act.put, List.setIfInBounds_toArray, List.set_cons_zero, List.set_cons_succ, i64_w, i32_w]
                  rfl
                refine pure_ (i := 4) (N := some 21) (v := ?_) (a' := ?_) #[true, true, true, false, true, false, false, false, false, false] rfl rfl (any_of HT_.out (by kernel_rfl)) (fun _ _ _ h => h) (Or.inl ⟨by rfl, ?_⟩) ?_ ?_
                rotate_left
                · intro w'
                  go_simp
                  with_reducible rfl
                rotate_left
                · simp only [Act.put, List.setIfInBounds_toArray, List.set_cons_zero, List.set_cons_succ, i64_w, i32_w]
                  rfl
                refine pure_ (i := 5) (N := some 22) (v := ?_) (a' := ?_) #[true, true, true, false, true, true, false, false, false, false] rfl rfl (any_of HT_.out (by kernel_rfl)) (fun _ _ _ h => h) (Or.inl ⟨by rfl, ?_⟩) ?_ ?_
                rotate_left
                · intro w'
                  go_simp
                  with_reducible rfl
                rotate_left
                · simp only [Act.put, List.setIfInBounds_toArray, List.set_cons_zero, List.set_cons_succ, i64_w, i32_w]
                  rfl
                refine pure_ (i := 6) (N := some 23) (v := ?_) (a' := ?_) #[true, true, true, false, true, true, true, false, false, false] rfl rfl (any_of HT_.out (by kernel_rfl)) (fun _ _ _ h => h) (Or.inl ⟨by rfl, ?_⟩) ?_ ?_
                rotate_left
                · intro w'
                  go_simp
                  with_reducible rfl
                rotate_left
                · simp only [Act.put, List.setIfInBounds_toArray, List.set_cons_zero, List.set_cons_succ, i64_w, i32_w]
                  rfl
                refine take_ (i := 3) (N := some 20) (v := ?_) (a' := ?_) #[true, true, true, true, true, true, true, false, false, false] rfl rfl (take_ofW HT_.out HW_.out (by kernel_rfl)) (fun _ _ _ h => h) (Or.inl ⟨by rfl, ?_⟩) hHeld ?_ ?_
                rotate_left
                · rintro w' ⟨s0, s1, s2, s3, s4, s5, s6, s7, s8, s9, s10, s11, s12, s13, s14, s15⟩
                  go_simp
                  with_reducible rfl
                rotate_left
                · simp only [Act.put, List.setIfInBounds_toArray, List.set_cons_zero, List.set_cons_succ, i64_w, i32_w]
                  rfl
                refine take_ (i := 7) (N := some 24) (v := ?_) (a' := ?_) #[true, true, true, true, true, true, true, true, false, false] rfl rfl (take_ofW HT_.out HW_.out (by kernel_rfl)) (fun _ _ _ h => h) (Or.inl ⟨by rfl, ?_⟩) hHeld ?_ ?_
                rotate_left
                · rintro w' ⟨s0, s1, s2, s3, s4, s5, s6, s7, s8, s9, s10, s11, s12, s13, s14, s15⟩
                  go_simp
                  with_reducible rfl
                rotate_left
                · simp only [Act.put, List.setIfInBounds_toArray, List.set_cons_zero, List.set_cons_succ, i64_w, i32_w]
                  rfl
                refine one_ (i := 8) (N := some 25) #[true, true, true, true, true, true, true, true, true, false] rfl rfl (one_of HT_.out (by kernel_rfl)) (by decide) (fun K hK => ?_)
                refine goes_ Try.func11 (by kernel_rfl) rfl #[.agg #[.int .u64 ((rd_T29 l0 x5_1).f0), .int .u64 ((rd_T29 l0 x5_1).f1), .int .i64 ((rd_T29 l0 x5_1).f2), .int .i64 ((rd_T29 l0 x5_1).f3), .int .u64 ((rd_T29 l0 x5_1).f4), .bool ((rd_T29 l0 x5_1).f5), .int .i64 ((rd_T29 l0 x5_1).f6), .slice A185_7 ((rd_T29 l0 x5_1).f7).length c185_7], .agg #[.int .u64 ((rd_T29 l1 x5_1).f0), .int .u64 ((rd_T29 l1 x5_1).f1), .int .i64 ((rd_T29 l1 x5_1).f2), .int .i64 ((rd_T29 l1 x5_1).f3), .int .u64 ((rd_T29 l1 x5_1).f4), .bool ((rd_T29 l1 x5_1).f5), .int .i64 ((rd_T29 l1 x5_1).f6), .slice A186_7 ((rd_T29 l1 x5_1).f7).length c186_7]] (by rfl) rfl rfl (by (try simp only [List.map_toArray, List.map_cons, List.map_nil]); first | done | rfl | (simp only [List.length_drop, List.length_take]; rfl)) ?_
                with_reducible refine (wagtailref26_Same.calls k1 ((rd_T29 l0 x5_1).f0) ((rd_T29 l0 x5_1).f1) ((rd_T29 l0 x5_1).f2) ((rd_T29 l0 x5_1).f3) ((rd_T29 l0 x5_1).f4) ((rd_T29 l0 x5_1).f5) ((rd_T29 l0 x5_1).f6) _ _ ((rd_T29 l0 x5_1).f7) ((rd_T29 l1 x5_1).f0) ((rd_T29 l1 x5_1).f1) ((rd_T29 l1 x5_1).f2) ((rd_T29 l1 x5_1).f3) ((rd_T29 l1 x5_1).f4) ((rd_T29 l1 x5_1).f5) ((rd_T29 l1 x5_1).f6) _ _ ((rd_T29 l1 x5_1).f7) false _ ?side1 ?side2 ?side3 ?side4 A7.out).mono ?_
                (case side1 => repeat (first | exact (Kd.C_below HR185_7.out HB.out) | (with_reducible refine Kd.C_alloc ?_ _) | (with_reducible refine Kd.C_drewN ?_ _) | (with_reducible refine Kd.C_drew ?_)))
                (case side2 => exact HC185_7.out)
                (case side3 => repeat (first | exact (Kd.C_below HR186_7.out HB.out) | (with_reducible refine Kd.C_alloc ?_ _) | (with_reducible refine Kd.C_drewN ?_ _) | (with_reducible refine Kd.C_drew ?_)))
                (case side4 => exact HC186_7.out)
                rintro e w12 ⟨rfl, hb⟩
                refine ⟨_, rfl, ?_⟩
                have n0_ := Aside0.mk (below_step (by repeat (first | (with_reducible first | exact HB.out | apply below_alloc | apply pw_below_drewN | apply below_drew1) | exact HB.out)) hb)
                clear HB
                have HB := n0_
                clear n0_
                (try clear hb)
                (try clear hb2)
                (try clear hk)
                (try clear hi)
                refine hK.out _ _ ⟨((HB.out.cell (World.block_lt_of_cell? w _ hw185_0)).trans hw185_0), ((HB.out.cell (World.block_lt_of_cell? w _ hw185_1)).trans hw185_1), ((HB.out.cell (World.block_lt_of_cell? w _ hw185_2)).trans hw185_2), ((HB.out.cell (World.block_lt_of_cell? w _ hw185_3)).trans hw185_3), ((HB.out.cell (World.block_lt_of_cell? w _ hw185_4)).trans hw185_4), ((HB.out.cell (World.block_lt_of_cell? w _ hw185_5)).trans hw185_5), ((HB.out.cell (World.block_lt_of_cell? w _ hw185_6)).trans hw185_6), ((HB.out.cell (World.block_lt_of_cell? w _ hw185_7)).trans hw185_7), ((HB.out.cell (World.block_lt_of_cell? w _ hw186_0)).trans hw186_0), ((HB.out.cell (World.block_lt_of_cell? w _ hw186_1)).trans hw186_1), ((HB.out.cell (World.block_lt_of_cell? w _ hw186_2)).trans hw186_2), ((HB.out.cell (World.block_lt_of_cell? w _ hw186_3)).trans hw186_3), ((HB.out.cell (World.block_lt_of_cell? w _ hw186_4)).trans hw186_4), ((HB.out.cell (World.block_lt_of_cell? w _ hw186_5)).trans hw186_5), ((HB.out.cell (World.block_lt_of_cell? w _ hw186_6)).trans hw186_6), ((HB.out.cell (World.block_lt_of_cell? w _ hw186_7)).trans hw186_7)⟩ (fun hHeld => ?_)
                clear hK K
                refine norm_ (a' := ?_) ?_ ?_
                rotate_left
                · show Act.put _ (some 25) _ = _
                  simp only [Act.put, List.setIfInBounds_toArray, List.set_cons_zero, List.set_cons_succ, i64_w, i32_w]
                  rfl
                refine pure_ (i := 9) (N := some 26) (v := ?_) (a' := ?_) #[true, true, true, true, true, true, true, true, true, true] rfl rfl (any_of HT_.out (by kernel_rfl)) (fun _ _ _ h => h) (Or.inl ⟨by rfl, ?_⟩) ?_ ?_
                rotate_left
                · intro w'
                  go_simp
                  with_reducible rfl
                rotate_left
                · simp only [Act.put, List.setIfInBounds_toArray, List.set_cons_zero, List.set_cons_succ, i64_w, i32_w]
                  rfl
                refine done_ (done_of HT_.out (by kernel_rfl)) ?_
                try go_wp2
                go_ret
                exact ⟨by first | rfl | (simp [errW_none, errW_some] <;> rfl) | (simp [*, errW_none, errW_some] <;> rfl), by repeat (first | (with_reducible first | exact HB.out | apply below_alloc | apply pw_below_drewN | apply below_drew1) | exact HB.out)⟩
            · rw [if_neg c6] at H
              exact absurd H (by simp)
          · rw [if_neg c5] at H
            exact absurd H (by simp)
        · rw [if_neg c4] at H
          have c4b0 : decide (x5_1 < (l0.length : Int)) = false := decide_eq_false c4
          clear c4
          obtain rfl := Option.some.inj H
          go_wp2
          go_ret
          exact ⟨by first | rfl | (simp [errW_none, errW_some] <;> rfl) | (simp [*, errW_none, errW_some] <;> rfl), by repeat (first | (with_reducible first | exact HB.out | apply below_alloc | apply pw_below_drewN | apply below_drew1) | exact HB.out)⟩
  · rw [if_neg c3] at H
    have c3b0 : ((l0.length : Int) == (l1.length : Int)) = false := beq_eq_false_iff_ne.mpr c3
    have c3b1 : ((l0.length : Int) != (l1.length : Int)) = true := bne_iff_ne.mpr c3
    have c3b2 : (l0.length == l1.length) = false := by first | simpa using c3 | (simp at c3 ⊢; omega)
    obtain rfl := Option.some.inj H
    go_enter Try.func20, Try.ntmps20
    go_wp2
    go_ret
    exact ⟨by first | rfl | (simp [errW_none, errW_some] <;> rfl) | (simp [*, errW_none, errW_some] <;> rfl), by repeat (first | (with_reducible first | exact HB.out | apply below_alloc | apply pw_below_drewN | apply below_drew1) | exact HB.out)⟩
end Go.Proofs.Ytaepbgieahedjaa.Hp
namespace Go.Proofs.Ytaepbgieahedjaa.Hp
open Go.RowKit Go.Proofs.YtaepbgieahedjaaW.PrintWords Go.Proofs.YtaepbgieahedjaaW.PrintLast Go.Proofs.YtaepbgieahedjaaW.PrintMore
attribute [local go_sem] max2_int min2_int max_two min_two max_three min_three max_four min_four   -- for this text's walks alone
set_option linter.unusedVariables false
set_option linter.unusedSimpArgs false
def wagtailref27_Some.l0 : Nat → List (S29) → Int → Bool → List (S29) → Int → Option ((List (S29)))
  | 0, _, _, _, _, _ => none
  | k + 1, x0, x1, x2, x7, x8 => if x8 < (x0.length : Int) then (if 0 ≤ x8 then (if ((decide (((rd_T29 x0 x8).f4) ≤ x1)) == x2) = true then (if x7.length < 1759218604441 then (wagtailref27_Some.l0 k x0 x1 x2 (x7 ++ [(⟨(rd_T29 x0 x8).f0, (rd_T29 x0 x8).f1, (rd_T29 x0 x8).f2, (rd_T29 x0 x8).f3, (rd_T29 x0 x8).f4, (rd_T29 x0 x8).f5, (rd_T29 x0 x8).f6, (rd_T29 x0 x8).f7⟩ : S29)]) (wrap64 (x8 + 1))) else (none)) else (wagtailref27_Some.l0 k x0 x1 x2 x7 (wrap64 (x8 + 1)))) else (none)) else (some x7)
def wagtailref27_Some.f (k : Nat) (l0 : List (S29)) (a1 : Int) (a2 : Bool) : Option ((List (S29))) := wagtailref27_Some.l0 k l0 a1 a2 ([] : List (S29)) 0
theorem wagtailref27_Some.mono_l : ∀ k, (∀ y0 y1 y2 y3 y4, LeO (wagtailref27_Some.l0 k y0 y1 y2 y3 y4) (wagtailref27_Some.l0 (k + 1) y0 y1 y2 y3 y4))
  | 0 => fun _ _ _ _ _ r h => by simp [wagtailref27_Some.l0] at h
  | k + 1 => by
    have ih0 := wagtailref27_Some.mono_l k
    · intro y0 y1 y2 y3 y4
      unfold wagtailref27_Some.l0
      repeat' first
      | (with_reducible exact ih0 _ _ _ _ _)
      | (with_reducible exact LeO.refl _)
      | (with_reducible exact LeO.none _)
      | (with_reducible refine LeO.ite ?_ ?_)
      | (with_reducible refine LeO.bind ?_ (fun _ => ?_))
      | exact ih0 _ _ _ _ _
      | exact LeO.none _
      | refine LeO.ite ?_ ?_
      | refine LeO.bind ?_ (fun _ => ?_)
theorem wagtailref27_Some.mono : ∀ a0 a1 a2 k, LeO (wagtailref27_Some.f k a0 a1 a2) (wagtailref27_Some.f (k + 1) a0 a1 a2) := by
  intro a0 a1 a2 k
  have ih0 := wagtailref27_Some.mono_l k
  unfold wagtailref27_Some.f
  repeat' first
      | (with_reducible exact ih0 _ _ _ _ _)
      | (with_reducible exact LeO.refl _)
      | (with_reducible exact LeO.none _)
      | (with_reducible refine LeO.ite ?_ ?_)
      | (with_reducible refine LeO.bind ?_ (fun _ => ?_))
      | exact ih0 _ _ _ _ _
      | exact LeO.none _
      | refine LeO.ite ?_ ?_
      | refine LeO.bind ?_ (fun _ => ?_)
set_option maxHeartbeats 8000000 in
set_option maxRecDepth 100000 in
theorem wagtailref27_Some.calls (k : Nat) (P0_ : Nat → Prop) (A0 : Option Addr) (c0 : Nat) (l0 : List (S29)) (a1 : Int) (a2 : Bool) (r : List (S29)) (w : World) (hs0 : Kd.V k29 29 w w.heap.size (fun k_ => P0_ k_) (.slice A0 l0.length c0) l0) (h : wagtailref27_Some.f k l0 a1 a2 = some r) :
    Calls Try.prog 23 #[.slice A0 l0.length c0, .int .u64 a1, .bool a2] w fun e w' => ∃ v0_ : Value, e = .returned (v0_) ∧ Kd.N k29 29 w' w.heap.size (fun k_ => (P0_ k_ ∨ w.heap.size ≤ k_)) v0_ r ∧ Below w.heap.size w w' := by
  have hu29 := Try.underlying29
  have HO0 := Aside0.mk (show Kd.V k29 29 w w.heap.size (fun k_ => (P0_ k_ ∨ w.heap.size ≤ k_)) (.slice A0 l0.length c0) l0 from Kd.V_mono hs0 (fun k_ hk => .inl hk))
  have HB := Aside0.mk (Below.refl w.heap.size w)
  have H : (wagtailref27_Some.l0 k l0 a1 a2 ([] : List (S29)) 0) = some r := h
  clear h
  have H' := Aside0.mk H
  clear H
  go_enter Try.func23, Try.ntmps23
  go_wp2
  go_loopg [7, 8] k (fun kq v7 v8 w' => ∃ (x7_1 : List (S29)) (x8_1 : Int), v8 = .int .i64 x8_1 ∧ Aside0 (wagtailref27_Some.l0 kq l0 a1 a2 x7_1 x8_1 = some r) ∧ Aside0 (kq ≤ k) ∧ Aside0 (Kd.V k29 29 w' w.heap.size (fun k_ => (P0_ k_ ∨ w.heap.size ≤ k_) ∧ some k_ ≠ (v7 : Value).ownBlock) (.slice A0 l0.length c0) l0) ∧ Aside0 (Kd.N k29 29 w' w.heap.size (fun k_ => (P0_ k_ ∨ w.heap.size ≤ k_)) v7 x7_1) ∧ Aside0 (Below w.heap.size w w'))
  case atStart => exact ⟨(([] : List (S29))), (0), (by first | rfl | (simp; done) | (simp [*]; done)), H', ⟨Nat.le_refl _⟩, ⟨by (with_reducible repeat (first | apply Kd.V_alloc | apply Kd.V_drewN | apply Kd.V_drew)); exact Kd.V_mono HO0.out (fun _ hk => ⟨hk, (by simp [Value.ownBlock])⟩)⟩, ⟨by first | exact Kd.S_nil _ _ _ _ _ | exact Kd.N_nil _ _ _ _ _ | exact Kd.V_nil _ _ _ _ _ | exact Kd.Q_nil _ _ _ _ _ | exact Kd.R_nil _ _ _ _ _⟩, ⟨by repeat (first | (with_reducible first | exact HB.out | apply below_alloc | apply pw_below_drewN | apply below_drew1) | exact HB.out)⟩⟩
  case round =>
    clear H'
    try clear c2
    try clear p2
    obtain ⟨x7_1, x8_1, rfl, HA, HK1, HO_0, HO_7, HB⟩ := hrel
    cases gk with
    | zero => exact absurd HA.out (by simp [wagtailref27_Some.l0])
    | succ k1 =>
      have H := HA.out
      clear HA
      simp only [wagtailref27_Some.l0] at H
      by_cases c4 : x8_1 < (l0.length : Int)
      · rw [if_pos c4] at H
        have c4b0 : decide (x8_1 < (l0.length : Int)) = true := decide_eq_true c4
        clear c4
        by_cases c5 : 0 ≤ x8_1
        · rw [if_pos c5] at H
          have c5b0 : decide (0 ≤ x8_1) = true := decide_eq_true c5
          clear c5
          by_cases c6 : ((decide (((rd_T29 l0 x8_1).f4) ≤ a1)) == a2) = true
          · rw [if_pos c6] at H
            have c6b0 : ((decide (((rd_T29 l0 x8_1).f4) ≤ a1)) == a2) = true := c6
            (try (have c6b1 : decide ((decide (((rd_T29 l0 x8_1).f4) ≤ a1)) = a2) = true := by simpa using c6))
            (try (have c6b2 : ((decide (((rd_T29 l0 x8_1).f4) ≤ a1)) == a2) = true := by simpa using c6))
            clear c6
            by_cases c7 : x7_1.length < 1759218604441
            · rw [if_pos c7] at H
              have LMc7 := Aside0.mk c7
              clear c7
              obtain ⟨y190, hy190⟩ : ∃ y_ : List (S29), y_ = (x7_1 ++ [(⟨(rd_T29 l0 x8_1).f0, (rd_T29 l0 x8_1).f1, (rd_T29 l0 x8_1).f2, (rd_T29 l0 x8_1).f3, (rd_T29 l0 x8_1).f4, (rd_T29 l0 x8_1).f5, (rd_T29 l0 x8_1).f6, (rd_T29 l0 x8_1).f7⟩ : S29)]) := ⟨_, rfl⟩
              replace H : (wagtailref27_Some.l0 k1 l0 a1 a2 y190 (wrap64 (x8_1 + 1))) = some r := by first | (rw [hy190]; with_reducible exact H) | (have H2_ := (Option.bind_some _ _).symm.trans H; rw [hy190]; with_reducible exact H2_) | (have H2_ := (Option.bind_some _ _).symm.trans H; with_reducible exact H2_) | with_reducible exact H | (rw [hy190]; exact H) | exact H
              have Ny190 := Aside0.mk hy190
              clear hy190
              have H' := Aside0.mk H
              clear H
              have p188 : 0 ≤ (x8_1 : Int) := of_decide_eq_true (by first | (with_reducible assumption) | assumption)
              have q188 : x8_1 < (l0.length : Int) := of_decide_eq_true (by first | (with_reducible assumption) | assumption)
              obtain ⟨ad188, A188_7, c188_7, e188, hx188_0, hx188_1, hx188_2, hx188_3, hx188_4, hx188_5, hx188_6, hx188_7, hl188_7, hi188_7⟩ := at_T29 (Kd.V_reads' HO_0.out).2.2 x8_1 p188 q188
              cases e188
              obtain ⟨ce188, hce188, hMe188, hcc188⟩ := Kd.V_get HO_0.out z29 x8_1 p188 (by first | exact q188 | exact of_decide_eq_true (by first | (with_reducible assumption) | assumption) | (have e_ := (Kd.V_reads' HO_0.out).1; omega))
              obtain ⟨ua188_7, uc188_7, rfl, ul188_7, ge188_7⟩ := k29_openF hMe188
              have hv188_7 := hcc188 7 _ rfl
              rw [add_field _ _ 7 (by omega)] at hv188_7
              replace hv188_7 := Option.some.inj (hv188_7.symm.trans hx188_7)
              injection hv188_7 with hva_ hvn_ hvc_
              rw [hva_] at ge188_7
              rw [hvc_] at ul188_7
              have HL188_7 := Aside0.mk (show Kd.V (Kd.int .i64) 3 _ w.heap.size _ _ ((rd_T29 l0 x8_1).f7) from Kd.V_mk ul188_7 ge188_7)
              clear hva_ hvn_ hvc_ ge188_7 ul188_7
              clear hcc188 hce188
              have HR188_7 := Aside0.mk hi188_7
              have HC188_7 := Aside0.mk hl188_7
              clear hi188_7 hl188_7
              replace p188 := eq_true p188
              replace q188 := eq_true q188
              have p189 : 0 ≤ (x8_1 : Int) := of_decide_eq_true (by first | (with_reducible assumption) | assumption)
              have q189 : x8_1 < (l0.length : Int) := of_decide_eq_true (by first | (with_reducible assumption) | assumption)
              obtain ⟨ad189, A189_7, c189_7, e189, hx189_0, hx189_1, hx189_2, hx189_3, hx189_4, hx189_5, hx189_6, hx189_7, hl189_7, hi189_7⟩ := at_T29 (Kd.V_reads' HO_0.out).2.2 x8_1 p189 q189
              obtain rfl : ad188 = ad189 := (by injection e189)
              obtain ⟨ce189, hce189, hMe189, hcc189⟩ := Kd.V_get HO_0.out z29 x8_1 p189 (by first | exact q189 | exact of_decide_eq_true (by first | (with_reducible assumption) | assumption) | (have e_ := (Kd.V_reads' HO_0.out).1; omega))
              obtain ⟨ua189_7, uc189_7, rfl, ul189_7, ge189_7⟩ := k29_openF hMe189
              have hv189_7 := hcc189 7 _ rfl
              rw [add_field _ _ 7 (by omega)] at hv189_7
              replace hv189_7 := Option.some.inj (hv189_7.symm.trans hx189_7)
              injection hv189_7 with hva_ hvn_ hvc_
              rw [hva_] at ge189_7
              rw [hvc_] at ul189_7
              have HL189_7 := Aside0.mk (show Kd.V (Kd.int .i64) 3 _ w.heap.size _ _ ((rd_T29 l0 x8_1).f7) from Kd.V_mk ul189_7 ge189_7)
              clear hva_ hvn_ hvc_ ge189_7 ul189_7
              clear hcc189 hce189
              have HR189_7 := Aside0.mk hi189_7
              have HC189_7 := Aside0.mk hl189_7
              clear hi189_7 hl189_7
              replace p189 := eq_true p189
              replace q189 := eq_true q189
              have ea_ := Option.some.inj (hx188_7.symm.trans hx189_7)
              injection ea_ with ea_ en_ ec_
              subst ea_
              subst ec_
              clear en_
              go_wp2_with (first | ((with_reducible refine gate_builtin (b := .append) (xs := #[.tmp 24, .tmp 29]) rfl ?_); at_builtin; refine Kd.N_append k29 (w0 := w) w.heap.size rfl (.tmp 24) (.tmp 29) 22 29 (.agg #[(.int .u64 0), (.int .u64 0), (.int .i64 0), (.int .i64 0), (.int .u64 0), (.bool false), (.int .i64 0), (.slice none 0 0)]) 80 rfl Try.underlying22 info29 rfl (by decide) (by omega) u7 x7_1 (⟨(rd_T29 l0 x8_1).f0, (rd_T29 l0 x8_1).f1, (rd_T29 l0 x8_1).f2, (rd_T29 l0 x8_1).f3, (rd_T29 l0 x8_1).f4, (rd_T29 l0 x8_1).f5, (rd_T29 l0 x8_1).f6, (rd_T29 l0 x8_1).f7⟩ : S29) [.int .u64 ((rd_T29 l0 x8_1).f0), .int .u64 ((rd_T29 l0 x8_1).f1), .int .i64 ((rd_T29 l0 x8_1).f2), .int .i64 ((rd_T29 l0 x8_1).f3), .int .u64 ((rd_T29 l0 x8_1).f4), .bool ((rd_T29 l0 x8_1).f5), .int .i64 ((rd_T29 l0 x8_1).f6), .slice A188_7 ((rd_T29 l0 x8_1).f7).length c188_7] (fun k_ => (P0_ k_ ∨ w.heap.size ≤ k_)) (fun k_ => ((fun k_ => (P0_ k_ ∨ w.heap.size ≤ k_))) k_ ∧ some k_ ≠ (u7 : Value).ownBlock) rfl rfl ?aP (fun _ hk => hk) ?aF ?aO ?aB ?aS ?aL ?_; (case aP => exact (k29_mkF _ _ (⟨(rd_T29 l0 x8_1).f0, (rd_T29 l0 x8_1).f1, (rd_T29 l0 x8_1).f2, (rd_T29 l0 x8_1).f3, (rd_T29 l0 x8_1).f4, (rd_T29 l0 x8_1).f5, (rd_T29 l0 x8_1).f6, (rd_T29 l0 x8_1).f7⟩ : S29) (Kd.V_reads' (Kd.V_mono (ok' := (fun k_ => ((fun k_ => (P0_ k_ ∨ w.heap.size ≤ k_))) k_ ∧ some k_ ≠ (u7 : Value).ownBlock)) (HL189_7.out) (fun k_ hk => ⟨hk.1, hk.2⟩))).2.1 (Kd.V_F (Kd.V_mono (ok' := (fun k_ => ((fun k_ => (P0_ k_ ∨ w.heap.size ≤ k_))) k_ ∧ some k_ ≠ (u7 : Value).ownBlock)) (HL189_7.out) (fun k_ hk => ⟨hk.1, hk.2⟩))))); (case aB => exact (by repeat (first | (with_reducible first | exact HB.out | apply below_alloc | apply pw_below_drewN | apply below_drew1) | exact HB.out))); (case aF => exact (fun k_ hk => (.inr (Nat.le_trans (below_size (by repeat (first | (with_reducible first | exact HB.out | apply below_alloc | apply pw_below_drewN | apply below_drew1) | exact HB.out))) hk)))); (case aO => exact (by (with_reducible repeat (first | apply Kd.N_alloc | apply Kd.N_drewN | apply Kd.N_drew)); exact HO_7.out)); (case aS => exact (below_size (by repeat (first | (with_reducible first | exact HB.out | apply below_alloc | apply pw_below_drewN | apply below_drew1) | exact HB.out)))); (case aL => have := LMc7.out; omega); intro v191 w8 ho hb hg hat; rw [← Ny190.out] at ho; have n0_ := Aside0.mk (Kd.V_afterv (ok := (fun k_ => (P0_ k_ ∨ w.heap.size ≤ k_))) (by (with_reducible repeat (first | apply Kd.V_alloc | apply Kd.V_drewN | apply Kd.V_drew)); exact HO_0.out) hg hat); have n1_ := Aside0.mk (Kd.V_afterv (ok := (fun k_ => (P0_ k_ ∨ w.heap.size ≤ k_))) (by (with_reducible repeat (first | apply Kd.V_alloc | apply Kd.V_drewN | apply Kd.V_drew)); exact HL188_7.out) hg hat); have n2_ := Aside0.mk (Kd.V_afterv (ok := (fun k_ => (P0_ k_ ∨ w.heap.size ≤ k_))) (by (with_reducible repeat (first | apply Kd.V_alloc | apply Kd.V_drewN | apply Kd.V_drew)); exact HL189_7.out) hg hat); have n3_ := Aside0.mk (hb); have n4_ := Aside0.mk (ho); clear HO_0; clear HL188_7; clear HL189_7; clear HB; clear HO_7; have HO_0 := n0_; have HL188_7 := n1_; have HL189_7 := n2_; have HB := n3_; have HO192 := n4_; clear n0_ n1_ n2_ n3_ n4_; clear ho hb hg hat))
              go_roundg k1
              case measure => have := HK1.out; omega
              case rel => exact ⟨(y190), (wrap64 (x8_1 + 1)), (by first | rfl | (simp; done) | (simp [*]; done)), H', ⟨by have := HK1.out; omega⟩, ⟨by (with_reducible repeat (first | apply Kd.V_alloc | apply Kd.V_drewN | apply Kd.V_drew)); exact HO_0.out⟩, ⟨by (with_reducible repeat (first | apply Kd.N_alloc | apply Kd.N_drewN | apply Kd.N_drew)); exact HO192.out⟩, ⟨by repeat (first | (with_reducible first | exact HB.out | apply below_alloc | apply pw_below_drewN | apply below_drew1) | exact HB.out)⟩⟩
            · rw [if_neg c7] at H
              exact absurd H (by simp)
          · rw [if_neg c6] at H
            have c6b0 : ((decide (((rd_T29 l0 x8_1).f4) ≤ a1)) == a2) = false := by simpa using c6
            (try (have c6b1 : decide ((decide (((rd_T29 l0 x8_1).f4) ≤ a1)) = a2) = false := by simpa using c6))
            (try (have c6b2 : ((decide (((rd_T29 l0 x8_1).f4) ≤ a1)) == a2) = false := by simpa using c6))
            (try (have c6b3 : ¬ ((decide (((rd_T29 l0 x8_1).f4) ≤ a1)) = a2) := by simpa using c6))
            clear c6
            have H' := Aside0.mk H
            clear H
            have p188 : 0 ≤ (x8_1 : Int) := of_decide_eq_true (by first | (with_reducible assumption) | assumption)
            have q188 : x8_1 < (l0.length : Int) := of_decide_eq_true (by first | (with_reducible assumption) | assumption)
            obtain ⟨ad188, A188_7, c188_7, e188, hx188_0, hx188_1, hx188_2, hx188_3, hx188_4, hx188_5, hx188_6, hx188_7, hl188_7, hi188_7⟩ := at_T29 (Kd.V_reads' HO_0.out).2.2 x8_1 p188 q188
            cases e188
            obtain ⟨ce188, hce188, hMe188, hcc188⟩ := Kd.V_get HO_0.out z29 x8_1 p188 (by first | exact q188 | exact of_decide_eq_true (by first | (with_reducible assumption) | assumption) | (have e_ := (Kd.V_reads' HO_0.out).1; omega))
            obtain ⟨ua188_7, uc188_7, rfl, ul188_7, ge188_7⟩ := k29_openF hMe188
            have hv188_7 := hcc188 7 _ rfl
            rw [add_field _ _ 7 (by omega)] at hv188_7
            replace hv188_7 := Option.some.inj (hv188_7.symm.trans hx188_7)
            injection hv188_7 with hva_ hvn_ hvc_
            rw [hva_] at ge188_7
            rw [hvc_] at ul188_7
            have HL188_7 := Aside0.mk (show Kd.V (Kd.int .i64) 3 _ w.heap.size _ _ ((rd_T29 l0 x8_1).f7) from Kd.V_mk ul188_7 ge188_7)
            clear hva_ hvn_ hvc_ ge188_7 ul188_7
            clear hcc188 hce188
            have HR188_7 := Aside0.mk hi188_7
            have HC188_7 := Aside0.mk hl188_7
            clear hi188_7 hl188_7
            replace p188 := eq_true p188
            replace q188 := eq_true q188
            go_wp2
            go_roundg k1
            case measure => have := HK1.out; omega
            case rel => exact ⟨(x7_1), (wrap64 (x8_1 + 1)), (by first | rfl | (simp; done) | (simp [*]; done)), H', ⟨by have := HK1.out; omega⟩, ⟨by (with_reducible repeat (first | apply Kd.V_alloc | apply Kd.V_drewN | apply Kd.V_drew)); exact HO_0.out⟩, ⟨by (with_reducible repeat (first | apply Kd.N_alloc | apply Kd.N_drewN | apply Kd.N_drew)); exact HO_7.out⟩, ⟨by repeat (first | (with_reducible first | exact HB.out | apply below_alloc | apply pw_below_drewN | apply below_drew1) | exact HB.out)⟩⟩
        · rw [if_neg c5] at H
          exact absurd H (by simp)
      · rw [if_neg c4] at H
        have c4b0 : decide (x8_1 < (l0.length : Int)) = false := decide_eq_false c4
        clear c4
        obtain rfl := Option.some.inj H
        go_wp2
        go_ret
        exact ⟨_, by first | rfl | (simp [errW_none, errW_some] <;> rfl) | (simp [*, errW_none, errW_some] <;> rfl), by (with_reducible repeat (first | apply Kd.N_alloc | apply Kd.N_drewN | apply Kd.N_drew)); exact HO_7.out, by repeat (first | (with_reducible first | exact HB.out | apply below_alloc | apply pw_below_drewN | apply below_drew1) | exact HB.out)⟩
end Go.Proofs.Ytaepbgieahedjaa.Hp
namespace Go.Proofs.Ytaepbgieahedjaa.QS
set_option linter.unusedVariables false
set_option linter.unusedSimpArgs false
open Go.RowKit Go.Proofs.Ytaepbgieahedjaa.Hp Go.Proofs.YtaepbgieahedjaaW.PrintWords Go.Proofs.YtaepbgieahedjaaW.PrintLast Go.Proofs.YtaepbgieahedjaaW.PrintMore
open Go.Proofs.Ytaepbgieahedjaa.IP
theorem rd_nat (l : List R0) (i : Nat) (h : i < l.length) : rd_T29 l (i : Int) = l[i] := by
  unfold rd_T29
  rw [Int.toNat_natCast, List.getD_eq_getElem?_getD, List.getElem?_eq_getElem h]
  rfl
theorem rd_int (l : List Int) (i : Nat) (h : i < l.length) : rd l (i : Int) = l[i] := by
  unfold rd
  rw [Int.toNat_natCast, List.getD_eq_getElem?_getD, List.getElem?_eq_getElem h]
  rfl
theorem w_succ (i : Nat) (h : i ≤ 9223372036854775800) : wrap64 ((i : Int) + 1) = ((i + 1 : Nat) : Int) := by unfold wrap64; omega
theorem ev_may0 (x : R0) (hu : x.f7.length ≤ 9223372036854775000) : ∀ (d i : Nat), i + d = x.f7.length → Ev (fun k => wagtailref26_May.l0 k (i : Int) x.f0 x.f1 x.f2 x.f3 x.f4 x.f5 x.f6 x.f7) ((x.f7.drop i).all pageB)
  | 0, i, hd => by
    rw [List.drop_of_length_le (by omega)]
    refine Ev.step (f := fun k => some true) (fun k => ?_) (Ev.now _)
    simp only [wagtailref26_May.l0]
    rw [if_neg (by omega)]
  | d + 1, i, hd => by
    have hi : i < x.f7.length := by omega
    rw [List.drop_eq_getElem_cons hi, List.all_cons]
    by_cases h1 : x.f7[i] < 1
    · have e : pageB x.f7[i] = false := by unfold pageB; rw [decide_eq_false (by omega), Bool.false_and]
      rw [e, Bool.false_and]
      refine Ev.step (f := fun k => some false) (fun k => ?_) (Ev.now _)
      simp only [wagtailref26_May.l0]
      rw [if_pos (by omega), if_pos (by omega), rd_int _ i hi, if_pos h1]
    · by_cases h2 : x.f7[i] > 65535
      · have e : pageB x.f7[i] = false := by unfold pageB; rw [decide_eq_false (p := x.f7[i] ≤ 65535) (by omega), Bool.and_false]
        rw [e, Bool.false_and]
        refine Ev.step (f := fun k => some false) (fun k => ?_) (Ev.now _)
        simp only [wagtailref26_May.l0]
        rw [if_pos (by omega), if_pos (by omega), rd_int _ i hi, if_neg h1, if_pos h2]
      · have e : pageB x.f7[i] = true := by unfold pageB; rw [decide_eq_true (by omega), decide_eq_true (by omega)]; rfl
        rw [e, Bool.true_and]
        refine Ev.step (f := fun k => wagtailref26_May.l0 k ((i + 1 : Nat) : Int) x.f0 x.f1 x.f2 x.f3 x.f4 x.f5 x.f6 x.f7) (fun k => ?_) (ev_may0 x hu d (i + 1) (by omega))
        simp only [wagtailref26_May.l0]
        rw [if_pos (by omega), if_pos (by omega), rd_int _ i hi, if_neg h1, if_neg h2, w_succ i (by omega)]
theorem ev_may (x : R0) (hu : x.f7.length ≤ 9223372036854775000) : Ev (fun k => wagtailref26_May.f k x.f0 x.f1 x.f2 x.f3 x.f4 x.f5 x.f6 x.f7) (mayB x) := by
  have hT : Ev (fun k => wagtailref26_May.j0 k true x.f0 x.f1 x.f2 x.f3 x.f4 x.f5 x.f6 x.f7) false := by
    refine Ev.step (f := fun k => some false) (fun k => ?_) (Ev.now _)
    simp only [wagtailref26_May.j0]
    rw [if_pos trivial]
  unfold mayB headB
  unfold wagtailref26_May.f
  by_cases h1 : x.f0 ≥ 2147483648
  · rw [decide_eq_false (p := x.f0 < 2147483648) (by omega)]
    exact Ev.congr (fun k => if_pos h1) hT
  rw [decide_eq_true (p := x.f0 < 2147483648) (by omega)]
  refine Ev.congr (fun k => if_neg h1) ?_
  by_cases h2 : x.f1 ≥ 2147483648
  · rw [decide_eq_false (p := x.f1 < 2147483648) (by omega)]
    exact Ev.congr (fun k => if_pos h2) hT
  rw [decide_eq_true (p := x.f1 < 2147483648) (by omega)]
  refine Ev.congr (fun k => if_neg h2) ?_
  by_cases h3 : x.f2 < 0
  · rw [decide_eq_false (p := 0 ≤ x.f2) (by omega)]
    exact Ev.congr (fun k => if_pos h3) hT
  rw [decide_eq_true (p := 0 ≤ x.f2) (by omega)]
  refine Ev.congr (fun k => if_neg h3) ?_
  by_cases h4 : x.f2 > 2
  · rw [decide_eq_false (p := x.f2 ≤ 2) (by omega)]
    exact Ev.congr (fun k => if_pos h4) hT
  rw [decide_eq_true (p := x.f2 ≤ 2) (by omega)]
  refine Ev.congr (fun k => if_neg h4) ?_
  by_cases h5 : x.f3 < 1
  · rw [decide_eq_false (p := 1 ≤ x.f3) (by omega)]
    exact Ev.congr (fun k => if_pos h5) hT
  rw [decide_eq_true (p := 1 ≤ x.f3) (by omega)]
  refine Ev.congr (fun k => if_neg h5) ?_
  by_cases h6 : x.f3 > 3192
  · rw [decide_eq_false (p := x.f3 ≤ 3192) (by omega)]
    exact Ev.congr (fun k => if_pos h6) hT
  rw [decide_eq_true (p := x.f3 ≤ 3192) (by omega)]
  refine Ev.congr (fun k => if_neg h6) ?_
  unfold pageB
  by_cases h7 : x.f6 < 1
  · rw [decide_eq_false (p := 1 ≤ x.f6) (by omega)]
    exact Ev.congr (fun k => if_pos h7) hT
  rw [decide_eq_true (p := 1 ≤ x.f6) (by omega)]
  refine Ev.congr (fun k => if_neg h7) ?_
  by_cases h8 : x.f6 > 65535
  · rw [decide_eq_false (p := x.f6 ≤ 65535) (by omega)]
    exact Ev.congr (fun k => if_pos h8) hT
  rw [decide_eq_true (p := x.f6 ≤ 65535) (by omega)]
  refine Ev.congr (fun k => if_neg h8) ?_
  by_cases h9 : (x.f7.length : Int) < 1
  · rw [decide_eq_false (p := (1 : Int) ≤ (x.f7.length : Int)) (by omega)]
    exact Ev.congr (fun k => if_pos h9) hT
  rw [decide_eq_true (p := (1 : Int) ≤ (x.f7.length : Int)) (by omega)]
  refine Ev.congr (fun k => if_neg h9) ?_
  by_cases h10 : (x.f7.length : Int) > 14
  · rw [decide_eq_false (p := (x.f7.length : Int) ≤ 14) (by omega), decide_eq_true h10]
    exact hT
  · rw [decide_eq_true (p := (x.f7.length : Int) ≤ 14) (by omega), decide_eq_false h10]
    refine Ev.step (f := fun k => wagtailref26_May.l0 k ((0 : Nat) : Int) x.f0 x.f1 x.f2 x.f3 x.f4 x.f5 x.f6 x.f7) (fun k => ?_) (ev_may0 x hu _ 0 (Nat.zero_add _))
    simp only [wagtailref26_May.j0]
    rw [if_neg (by decide)]
    rfl
def putP (l : List R0) (x : R0) : List R0 × Bool := if mayB x = true then (if hasKey keyR l x.f0 = true then (l, false) else (putAt l (low keyR l x.f0) x, true)) else (l, false)
theorem ev_put0 (l : List R0) (x : R0) (hl : l.length ≤ 1000000) : ∀ (d i : Nat), i + d = l.length → (∀ (j : Nat) (y : R0), j < i → l[j]? = some y → y.f0 < x.f0) → Ev (fun k => wagtailref27_Put.l0 k l (i : Int) x.f0 x.f1 x.f2 x.f3 x.f4 x.f5 x.f6 x.f7) (if hasKey keyR l x.f0 = true then (l, false) else (putAt l (low keyR l x.f0) x, true))
  | 0, i, hd, hb => by
    have hlow : i = low keyR l x.f0 := low_of (by omega) hb (fun y hy => by have := (List.getElem?_eq_some_iff.1 hy).1; omega)
    have hk : hasKey keyR l x.f0 = false := by unfold hasKey; rw [← hlow, List.getElem?_eq_none (by omega)]
    rw [hk, if_neg (by decide), ← hlow]
    refine Ev.step (f := fun k => some (putAt l i x, true)) (fun k => ?_) (Ev.now _)
    simp only [wagtailref27_Put.l0, Option.bind_some]
    have e1 : ([] ++ l.take i : List R0).length = i := by rw [List.nil_append, List.length_take]; omega
    have e2 : (l.drop i).length = 0 := by rw [List.length_drop]; omega
    rw [if_neg (by omega), if_pos (by omega), if_pos (by omega), Int.toNat_natCast, if_pos (by rw [List.length_take]; simp; omega), if_pos (by rw [e1]; omega), if_pos (by rw [List.length_append, e1, e2]; simp; omega)]
    unfold putAt
    simp
  | d + 1, i, hd, hb => by
    have hi : i < l.length := by omega
    by_cases h1 : l[i].f0 < x.f0
    · refine Ev.step (f := fun k => wagtailref27_Put.l0 k l ((i + 1 : Nat) : Int) x.f0 x.f1 x.f2 x.f3 x.f4 x.f5 x.f6 x.f7) (fun k => ?_) (ev_put0 l x hl d (i + 1) (by omega) (fun j y hj hy => by
        rcases Nat.lt_or_ge j i with h | h
        · exact hb j y h hy
        · have : j = i := by omega
          subst this
          rw [List.getElem?_eq_getElem hi] at hy
          rw [← Option.some.inj hy]
          exact h1))
      simp only [wagtailref27_Put.l0]
      rw [if_pos (by omega), if_pos (by omega), rd_nat l i hi, if_pos h1, w_succ i (by omega)]
    · have hlow : i = low keyR l x.f0 := low_of (by omega) hb (fun y hy => by rw [List.getElem?_eq_getElem hi] at hy; rw [← Option.some.inj hy]; show x.f0 ≤ l[i].f0; omega)
      by_cases h2 : l[i].f0 = x.f0
      · have hk : hasKey keyR l x.f0 = true := by unfold hasKey; rw [← hlow, List.getElem?_eq_getElem hi]; simp [keyR, h2]
        rw [hk, if_pos rfl]
        refine Ev.step (f := fun k => some (l, false)) (fun k => ?_) (Ev.now _)
        simp only [wagtailref27_Put.l0]
        rw [if_pos (by omega), if_pos (by omega), rd_nat l i hi, if_neg h1, if_pos h2]
      · have hk : hasKey keyR l x.f0 = false := by unfold hasKey; rw [← hlow, List.getElem?_eq_getElem hi]; simp [keyR, h2]
        rw [hk, if_neg (by decide), ← hlow]
        refine Ev.step (f := fun k => some (putAt l i x, true)) (fun k => ?_) (Ev.now _)
        simp only [wagtailref27_Put.l0, Option.bind_some]
        have e1 : ([] ++ l.take i : List R0).length = i := by rw [List.nil_append, List.length_take]; omega
        have e2 : (l.drop i).length = l.length - i := List.length_drop
        rw [if_pos (by omega), if_pos (by omega), rd_nat l i hi, if_neg h1, if_neg h2, if_pos (by omega), Int.toNat_natCast, if_pos (by rw [List.length_take]; simp; omega), if_pos (by rw [e1]; omega), if_pos (by rw [List.length_append, e1, e2]; simp; omega)]
        unfold putAt
        simp
theorem ev_put (l : List R0) (x : R0) (hl : l.length ≤ 1000000) (hu : x.f7.length ≤ 9223372036854775000) : Ev (fun k => wagtailref27_Put.f k l x.f0 x.f1 x.f2 x.f3 x.f4 x.f5 x.f6 x.f7) (putP l x) := by
  unfold putP wagtailref27_Put.f
  refine Ev.bind (ev_may x hu) ?_
  cases hm : mayB x with
  | false => exact Ev.congr (fun k => if_neg (by decide)) (Ev.now _)
  | true => exact Ev.congr (fun k => if_pos rfl) (ev_put0 l x hl _ 0 (Nat.zero_add _) (fun j y hj => by omega))
def findP (l : List R0) (id : Int) : Int := if hasKey keyR l id = true then (low keyR l id : Int) else -1
theorem ev_find0 (l : List R0) (id : Int) (hl : l.length ≤ 1000000) (hr : Rising keyR l) : ∀ (d i : Nat), i + d = l.length → (∀ (j : Nat) (y : R0), j < i → l[j]? = some y → y.f0 ≠ id) → Ev (fun k => wagtailref27_Find.l0 k l id (i : Int)) (findP l id)
  | 0, i, hd, hb => by
    have hk : hasKey keyR l id = false := by
      unfold hasKey
      cases hx : l[low keyR l id]? with
      | none => rfl
      | some y =>
        have := hb _ y (by have := (List.getElem?_eq_some_iff.1 hx).1; omega) hx
        simp [keyR, this]
    unfold findP
    rw [hk, if_neg (by decide)]
    refine Ev.step (f := fun k => some (-1)) (fun k => ?_) (Ev.now _)
    simp only [wagtailref27_Find.l0]
    rw [if_neg (by omega)]
  | d + 1, i, hd, hb => by
    have hi : i < l.length := by omega
    by_cases h2 : l[i].f0 = id
    · have hlow : i = low keyR l id := low_of (by omega) (fun j y hj hy => by have h3 : y.f0 < l[i].f0 := hr j i y l[i] hj hy (List.getElem?_eq_getElem hi); show y.f0 < id; omega) (fun y hy => by rw [List.getElem?_eq_getElem hi] at hy; rw [← Option.some.inj hy]; show id ≤ l[i].f0; omega)
      have hk : hasKey keyR l id = true := by unfold hasKey; rw [← hlow, List.getElem?_eq_getElem hi]; simp [keyR, h2]
      unfold findP
      rw [hk, if_pos rfl, ← hlow]
      refine Ev.step (f := fun k => some (i : Int)) (fun k => ?_) (Ev.now _)
      simp only [wagtailref27_Find.l0]
      rw [if_pos (by omega), if_pos (by omega), rd_nat l i hi, if_pos h2]
    · refine Ev.step (f := fun k => wagtailref27_Find.l0 k l id ((i + 1 : Nat) : Int)) (fun k => ?_) (ev_find0 l id hl hr d (i + 1) (by omega) (fun j y hj hy => by
        rcases Nat.lt_or_ge j i with h | h
        · exact hb j y h hy
        · have : j = i := by omega
          subst this
          rw [List.getElem?_eq_getElem hi] at hy
          rw [← Option.some.inj hy]
          exact h2))
      simp only [wagtailref27_Find.l0]
      rw [if_pos (by omega), if_pos (by omega), rd_nat l i hi, if_neg h2, w_succ i (by omega)]
theorem ev_find (l : List R0) (id : Int) (hl : l.length ≤ 1000000) (hr : Rising keyR l) : Ev (fun k => wagtailref27_Find.f k l id) (findP l id) := ev_find0 l id hl hr _ 0 (Nat.zero_add _) (fun j y hj => by omega)
theorem ev_ints (u : List Int) (hu : u.length ≤ 9223372036854775000) : ∀ (d i : Nat), i + d = u.length → Ev (fun k => wagtailref01_Ints.l0 k u u (i : Int)) true
  | 0, i, hd => by
    refine Ev.step (f := fun k => some true) (fun k => ?_) (Ev.now _)
    simp only [wagtailref01_Ints.l0]
    rw [if_neg (by omega)]
  | d + 1, i, hd => by
    refine Ev.step (f := fun k => wagtailref01_Ints.l0 k u u ((i + 1 : Nat) : Int)) (fun k => ?_) (ev_ints u hu d (i + 1) (by omega))
    simp only [wagtailref01_Ints.l0]
    rw [if_pos (by omega), if_pos (by omega), if_pos (by omega), if_pos trivial, w_succ i (by omega)]
theorem ev_ints_same (u : List Int) (hu : u.length ≤ 9223372036854775000) : Ev (fun k => wagtailref01_Ints.f k u u) true := Ev.congr (f := fun k => wagtailref01_Ints.l0 k u u ((0 : Nat) : Int)) (fun k => if_pos rfl) (ev_ints u hu _ 0 (Nat.zero_add _))
theorem ev_one_same (x : R0) (hu : x.f7.length ≤ 9223372036854775000) : Ev (fun k => wagtailref26_Same.f k x.f0 x.f1 x.f2 x.f3 x.f4 x.f5 x.f6 x.f7 x.f0 x.f1 x.f2 x.f3 x.f4 x.f5 x.f6 x.f7) true := by
  refine Ev.congr (f := fun k => (wagtailref01_Ints.f k x.f7 x.f7).bind fun t => some t) (fun k => ?_) (Ev.bind (ev_ints_same x.f7 hu) (Ev.now _))
  unfold wagtailref26_Same.f
  simp
theorem ev_rsame (l : List R0) (hl : l.length ≤ 1000000) (hp : ∀ x ∈ l, x.f7.length ≤ 1000000) : ∀ (d i : Nat), i + d = l.length → Ev (fun k => wagtailref27_Same.l0 k l l (i : Int)) true
  | 0, i, hd => by
    refine Ev.step (f := fun k => some true) (fun k => ?_) (Ev.now _)
    simp only [wagtailref27_Same.l0]
    rw [if_neg (by omega)]
  | d + 1, i, hd => by
    have hi : i < l.length := by omega
    have hx := hp l[i] (List.getElem_mem hi)
    refine Ev.step (f := fun k => (wagtailref26_Same.f k l[i].f0 l[i].f1 l[i].f2 l[i].f3 l[i].f4 l[i].f5 l[i].f6 l[i].f7 l[i].f0 l[i].f1 l[i].f2 l[i].f3 l[i].f4 l[i].f5 l[i].f6 l[i].f7).bind fun t => if t = true then wagtailref27_Same.l0 k l l ((i + 1 : Nat) : Int) else some false) (fun k => ?_) ?_
    · simp only [wagtailref27_Same.l0]
      rw [if_pos (by omega), if_pos (by omega), if_pos (by omega), rd_nat l i hi, w_succ i (by omega)]
    · refine Ev.bind (ev_one_same l[i] (by omega)) ?_
      exact Ev.congr (fun k => if_pos rfl) (ev_rsame l hl hp d (i + 1) (by omega))
theorem rsame_calls (l : List R0) (hl : l.length ≤ 1000000) (hp : ∀ x ∈ l, x.f7.length ≤ 1000000) (A : Option Addr) (c : Nat) (A' : Option Addr) (c' : Nat) (W : World) (h1 : l.length ≤ c) (h2 : Kd.C k29 W A l.length l) (h3 : l.length ≤ c') (h4 : Kd.C k29 W A' l.length l) :
    Calls Try.prog 20 #[.slice A l.length c, .slice A' l.length c'] W fun e w' => e = .returned (.bool true) ∧ Below W.heap.size W w' := by
  obtain ⟨K, hK⟩ := Ev.congr (f := fun k => wagtailref27_Same.l0 k l l ((0 : Nat) : Int)) (g := fun k => wagtailref27_Same.f k l l) (fun k => if_pos rfl) (ev_rsame l hl hp _ 0 (Nat.zero_add _))
  exact wagtailref27_Same.calls K A c l A' c' l true W h2 h1 h4 h3 (hK K (Nat.le_refl _))
theorem osame_calls (x : R0) (hx : x.f7.length ≤ 1000000) (Ax : Option Addr) (cx : Nat) (Ay : Option Addr) (cy : Nat) (W : World) (h1 : Kd.C (Kd.int .i64) W Ax x.f7.length x.f7) (h2 : x.f7.length ≤ cx) (h3 : Kd.C (Kd.int .i64) W Ay x.f7.length x.f7) (h4 : x.f7.length ≤ cy) :
    Calls Try.prog 11 #[.agg #[.int .u64 x.f0, .int .u64 x.f1, .int .i64 x.f2, .int .i64 x.f3, .int .u64 x.f4, .bool x.f5, .int .i64 x.f6, .slice Ax x.f7.length cx], .agg #[.int .u64 x.f0, .int .u64 x.f1, .int .i64 x.f2, .int .i64 x.f3, .int .u64 x.f4, .bool x.f5, .int .i64 x.f6, .slice Ay x.f7.length cy]] W fun e w' => e = .returned (.bool true) ∧ Below W.heap.size W w' := by
  obtain ⟨K, hK⟩ := ev_one_same x (by omega)
  exact wagtailref26_Same.calls K x.f0 x.f1 x.f2 x.f3 x.f4 x.f5 x.f6 Ax cx x.f7 x.f0 x.f1 x.f2 x.f3 x.f4 x.f5 x.f6 Ay cy x.f7 true W h1 h2 h3 h4 (hK K (Nat.le_refl _))
theorem rput_calls (l : List R0) (x : R0) (hl : l.length ≤ 1000000) (hu : x.f7.length ≤ 9223372036854775000) (A : Option Addr) (c : Nat) (Ax : Option Addr) (cx : Nat) (W : World) (P Px : Nat → Prop) (h1 : Kd.V k29 29 W W.heap.size (fun k => P k) (.slice A l.length c) l) (h2 : Kd.V (Kd.int .i64) 3 W W.heap.size (fun k => Px k) (.slice Ax x.f7.length cx) x.f7) :
    Calls Try.prog 8 #[.slice A l.length c, .agg #[.int .u64 x.f0, .int .u64 x.f1, .int .i64 x.f2, .int .i64 x.f3, .int .u64 x.f4, .bool x.f5, .int .i64 x.f6, .slice Ax x.f7.length cx]] W fun e w' => ∃ v, e = .returned (.tuple #[v, .bool (putP l x).2]) ∧ Kd.V k29 29 w' W.heap.size (fun k => ((P k ∨ Px k) ∨ W.heap.size ≤ k)) v (putP l x).1 ∧ Below W.heap.size W w' := by
  obtain ⟨K, hK⟩ := ev_put l x hl hu
  exact wagtailref27_Put.calls K P A c l x.f0 x.f1 x.f2 x.f3 x.f4 x.f5 x.f6 Px Ax cx x.f7 _ _ W h1 h2 (hK K (Nat.le_refl _))
theorem rfind_calls (l : List R0) (id : Int) (hl : l.length ≤ 1000000) (hr : Rising keyR l) (A : Option Addr) (c : Nat) (W : World) (h1 : l.length ≤ c) (h2 : Kd.C k29 W A l.length l) :
    Calls Try.prog 16 #[.slice A l.length c, .int .u64 id] W fun e w' => e = .returned (.int .i64 (findP l id)) ∧ Below W.heap.size W w' := by
  obtain ⟨K, hK⟩ := ev_find l id hl hr
  exact (wagtailref27_Find.calls K A c l id _ W h2 h1 (hK K (Nat.le_refl _))).mono (fun e w' ⟨he, hb⟩ => ⟨he, hb.below⟩)
end Go.Proofs.Ytaepbgieahedjaa.QS
namespace Go.Proofs.Ytaepbgieahedjaa.QS
set_option linter.unusedVariables false
set_option linter.unusedSimpArgs false
open Go.RowKit Go.Proofs.Ytaepbgieahedjaa.Hp Go.Proofs.YtaepbgieahedjaaW.PrintWords Go.Proofs.YtaepbgieahedjaaW.PrintLast Go.Proofs.YtaepbgieahedjaaW.PrintMore
open Go.Proofs.Ytaepbgieahedjaa.IP
theorem app_any {W : World} (base ty T e : TypeId) (hT : Try.prog.underlying T = some (.slice e)) {z : Value} {sz bytes : Nat} (hinf : (Try.prog.info? e).map (fun i => (i.zero, i.size, i.bytes)) = some (some z, sz, bytes)) (hz : z.cells.size = sz) (hs : 0 < sz) (hb0 : 0 < bytes) (hb1 : bytes ≤ 1000)
    (v : Value) (n : Nat) (xs : List Value) (ho : W.ownsRow base e sz v n xs) (ad : Addr) (m c : Nat) (ys : List Value) (hl : ys.length = m * sz) (hc : ∀ (j : Nat) (u : Value), ys[j]? = some u → W.cell? (ad.add j) = some u) (h1 : ∀ u ∈ ys, u.oneCell' = true) (hn : n + m ≤ 100000) (hb : base ≤ W.heap.size) :
    ∃ v' w', (Builtin.append_ #[T, T] ty #[v, .slice (some ad) m c]).run Try.prog W = .ok v' w' ∧ w'.ownsRow base e sz v' (n + m) (xs ++ ys) ∧ W.grownBy w' v.ownBlock ∧ (v'.ownBlock = v.ownBlock ∨ v'.ownBlock = some W.heap.size) := by
  obtain ⟨i0, hi, hzz⟩ := Option.map_eq_some_iff.1 hinf
  simp only [Prod.mk.injEq] at hzz
  have hmul : (n + m) * bytes ≤ 100000 * 1000 := Nat.mul_le_mul hn hb1
  obtain ⟨v', w', h1, h2, h3, _, h5⟩ := run_append_own_at (P := Try.prog) W base T ty e i0 _ sz bytes hT hi hzz.1 hzz.2.1 hzz.2.2 hz hs v n xs ho ad m c ys hl hc h1 (by unfold maxLen; omega) (by omega) hb
  exact ⟨v', w', h1, h2, h3, h5⟩
def encR (x : R0) (A : Option Addr) (c : Nat) : List Value := [.int .u64 x.f0, .int .u64 x.f1, .int .i64 x.f2, .int .i64 x.f3, .int .u64 x.f4, .bool x.f5, .int .i64 x.f6, .slice A x.f7.length c]
theorem rec_app {W : World} {base gx : Nat} {v : Value} {l : List R0} {ok : Nat → Prop} (x : R0) (Ax : Option Addr) (cx : Nat) (hR : k29.R 29 W base ok v l) (hM : (Kd.int .i64).R 3 W base (fun k => ok k ∧ some k ≠ v.ownBlock) (.slice Ax x.f7.length cx) x.f7)
    (hx : W.heap[gx]? = some (.cells #[.int .u64 x.f0, .int .u64 x.f1, .int .i64 x.f2, .int .i64 x.f3, .int .u64 x.f4, .bool x.f5, .int .i64 x.f6, .slice Ax x.f7.length cx] 29 (0, 0))) (hn : l.length + 1 ≤ 100000) (hs : base ≤ W.heap.size) (hfresh : ∀ k, W.heap.size ≤ k → ok k) :
    ∃ v' w', (Builtin.append_ #[22, 22] 22 #[v, .slice (some ⟨gx, 0, none⟩) 1 1]).run Try.prog W = .ok v' w' ∧ k29.R 29 w' base ok v' (l ++ [x]) ∧ W.grownBy w' v.ownBlock ∧ (v'.ownBlock = v.ownBlock ∨ ∃ b, v'.ownBlock = some b ∧ W.heap.size ≤ b) := by
  obtain ⟨h0, inner, ho, hr⟩ := hR
  obtain ⟨v', w', e1, e2, e3, e4⟩ := app_any base 22 22 29 Try.underlying22 inf_rec rfl (by decide) (by decide) (by decide) v l.length inner ho ⟨gx, 0, none⟩ 1 1 (encR x Ax cx) rfl (fun j u hu => by rw [add_plain, blk_cell hx, ← hu]; unfold encR; rw [← List.getElem?_toArray]) (fun u hu => by
    unfold encR at hu
    simp only [List.mem_cons, List.not_mem_nil, or_false] at hu
    rcases hu with rfl | rfl | rfl | rfl | rfl | rfl | rfl | rfl <;> rfl) hn hs
  have hat : v'.ownBlock = v.ownBlock ∨ ∃ b, v'.ownBlock = some b ∧ W.heap.size ≤ b := e4.imp id (fun h => ⟨_, h, Nat.le_refl _⟩)
  exact ⟨v', w', e1, Kd.R_appended h0 hr (k29_mkM W base _ x hM) (fun k hk => hk) hfresh e2 e3 hat, e3, hat⟩
def IX (W : World) (base g : Nat) (l : List R0) : Prop := ∃ A c, W.heap[g]? = some (.cells #[.slice A l.length c] 57 (0, 0)) ∧ k29.R 29 W base (fun k => g < k) (.slice A l.length c) l ∧ base ≤ g
theorem IX.below {W W' : World} {base g : Nat} {l : List R0} (h : IX W base g l) (hb : Below W.heap.size W W') : IX W' base g l := by
  obtain ⟨A, c, hz, hR, hg⟩ := h
  exact ⟨A, c, blk_below hz hb, Kd.R_below hR hb, hg⟩
def IXr (W : World) (base g : Nat) (l : List R0) (r : Option Nat) : Prop := ∃ A c, W.heap[g]? = some (.cells #[.slice A l.length c] 57 (0, 0)) ∧ k29.R 29 W base (fun k => g < k) (.slice A l.length c) l ∧ base ≤ g ∧ r = (Value.slice A l.length c).ownBlock
theorem IXr.ix {W : World} {base g : Nat} {l : List R0} {r : Option Nat} (h : IXr W base g l r) : IX W base g l := by
  obtain ⟨A, c, h1, h2, h3, _⟩ := h
  exact ⟨A, c, h1, h2, h3⟩
theorem IX.r {W : World} {base g : Nat} {l : List R0} (h : IX W base g l) : ∃ r, IXr W base g l r := by
  obtain ⟨A, c, h1, h2, h3⟩ := h
  exact ⟨_, A, c, h1, h2, h3, rfl⟩
theorem IXr.below {W W' : World} {base g : Nat} {l : List R0} {r : Option Nat} (h : IXr W base g l r) (hb : Below W.heap.size W W') : IXr W' base g l r := by
  obtain ⟨A, c, hz, hR, hg, hr⟩ := h
  exact ⟨A, c, blk_below hz hb, Kd.R_below hR hb, hg, hr⟩
set_option maxHeartbeats 2000000 in
set_option maxRecDepth 100000 in
theorem place_calls {W : World} {base g : Nat} {l : List R0} (h : IX W base g l) (hr : Rising keyR l) (hn : l.length ≤ 10000) (id : Int) :
    Calls Try.prog 27 #[.pointer (some ⟨g, 0, none⟩), .int .u64 id] W fun e w' => e = .returned (.tuple #[.int .i64 (low keyR l id : Int), .bool (hasKey keyR l id)]) ∧ Below W.heap.size W w' := by
  obtain ⟨A, c, hz, hR, hg⟩ := h
  obtain ⟨A', c', hv, hl, hC⟩ := Kd.R_reads hR
  injection hv with e1 _ e3
  subst e1 e3
  have HS := Aside0.mk (search_calls l A c id W hn hr hC)
  have c0 := blk_cell hz 0
  clear hz hR hC hl hg hr hn
  go_enter Try.func27, Try.ntmps27
  go_wp2_with (go_at_call 35; refine HS.out.mono ?_; rintro e w2 ⟨rfl, hb⟩; have HB := Aside0.mk hb; clear hb)
  go_ret2
  exact ⟨rfl, HB.out⟩
end Go.Proofs.Ytaepbgieahedjaa.QS
namespace Go.Proofs.Ytaepbgieahedjaa.QS
set_option linter.unusedVariables false
set_option linter.unusedSimpArgs false
open Go.RowKit Go.Proofs.Ytaepbgieahedjaa.Hp Go.Proofs.YtaepbgieahedjaaW.PrintWords Go.Proofs.YtaepbgieahedjaaW.PrintLast Go.Proofs.YtaepbgieahedjaaW.PrintMore
open Go.Proofs.Ytaepbgieahedjaa.IP
section
variable {P : Program} {ops : Array Oper} {rest : List Oper} {Q : Exit → Act → World → Prop}
theorem app_wp {o : Oper} {a : Act} {w w' : World} (hgd : o.guard = none) (s x : Operand) (t : TypeId)
    (ho : o.op = .call { callee := .builtin .append, args := #[s, x], argTypes := #[t, t] }) {v xv v' : Value} (hs : a.eval s = v) (hx : a.eval x = xv)
    (hr : (Builtin.append_ #[t, t] o.type #[v, xv]).run P w = .ok v' w') (h : wpList P ops Q rest (a.put o.dst v') w') : wpList P ops Q (o :: rest) a w := by
  refine wpList_plain hgd fun K hK => ?_
  unfold Oper.wp execOp
  simp only [ho, resolve, invoke, builtin, Sem.run_bind, Sem.run_pure, Result.andThen_ok, List.map_toArray, List.map_cons, List.map_nil, hs, hx, hr]
  exact hK _ _ h
end
def InsTo (W w' : World) (e : Ending) (base : Nat) (ok : Nat → Prop) (own : Option Nat) (l : List R0) : Prop := ∃ A c, e = .returned (.slice A l.length c) ∧ k29.R 29 w' base ok (.slice A l.length c) l ∧ W.grownBy w' own ∧ ∀ k, (Value.slice A l.length c).ownBlock = some k → own = some k ∨ W.heap.size ≤ k
set_option maxHeartbeats 4000000 in
set_option maxRecDepth 100000 in
theorem insert_end {W : World} {base gx : Nat} {l : List R0} {A : Option Addr} {c : Nat} {ok : Nat → Prop} (x : R0) (Ax : Option Addr) (cx : Nat) (hR : k29.R 29 W base ok (.slice A l.length c) l) (hc : l.length ≤ c) (hM : (Kd.int .i64).R 3 W base (fun k => ok k ∧ some k ≠ (Value.slice A l.length c).ownBlock) (.slice Ax x.f7.length cx) x.f7)
    (hx : W.heap[gx]? = some (.cells #[.int .u64 x.f0, .int .u64 x.f1, .int .i64 x.f2, .int .i64 x.f3, .int .u64 x.f4, .bool x.f5, .int .i64 x.f6, .slice Ax x.f7.length cx] 29 (0, 0))) (hn : l.length + 1 ≤ 100000) (hs : base ≤ W.heap.size) (hfresh : ∀ k, W.heap.size ≤ k → ok k) :
    Calls Try.prog 30 #[.slice A l.length c, .int .i64 (l.length : Int), .slice (some ⟨gx, 0, none⟩) 1 1] W fun e w' => InsTo W w' e base ok (Value.slice A l.length c).ownBlock (l ++ [x]) := by
  obtain ⟨i0, hi0, hsz⟩ := Option.map_eq_some_iff.1 (show (Try.prog.info? 29).map (·.size) = some 8 by kernel_rfl)
  obtain ⟨A0, hsl⟩ : ∃ A0, ∀ W, (Instr.slice 22 (.slice A l.length c) (some (.int .i64 (l.length : Int))) none none).run Try.prog W = .ok (.slice A0 0 (c - l.length)) W := ⟨_, fun W => by
    have k := cut_from (P := Try.prog) 22 29 .i64 Try.underlying22 hi0 8 hsz A l.length c (l.length : Int) (by omega) (by omega) W
    rw [Int.toNat_natCast, Nat.sub_self] at k
    exact k⟩
  obtain ⟨v', w', hr, hR', hg, hat⟩ := rec_app x Ax cx hR hM hx hn hs hfresh
  obtain ⟨A2, c2, hv⟩ := Kd.R_slice hR'
  subst hv
  have HR := Aside0.mk (And.intro hR' (And.intro hg hat))
  have HRUN := Aside0.mk hr
  clear hi0 hsz hR hM hx hfresh hg hat hR' hr
  go_enter Try.func30, Try.ntmps30
  go_wp2_with (at_builtin; refine app_wp rfl _ _ 22 rfl rfl rfl HRUN.out ?_)
  go_ret
  exact ⟨A2, c2, by rw [List.length_append]; rfl, HR.out.1, HR.out.2.1, fun k hk => HR.out.2.2.elim (fun h => .inl (h.symm.trans hk)) (fun ⟨b, hb, hle⟩ => .inr (by rw [hb] at hk; rw [← Option.some.inj hk]; exact hle))⟩
end Go.Proofs.Ytaepbgieahedjaa.QS
namespace Go.Proofs.Ytaepbgieahedjaa.QS
set_option linter.unusedVariables false
set_option linter.unusedSimpArgs false
open Go.RowKit Go.Proofs.Ytaepbgieahedjaa.Hp Go.Proofs.YtaepbgieahedjaaW.PrintWords Go.Proofs.YtaepbgieahedjaaW.PrintLast Go.Proofs.YtaepbgieahedjaaW.PrintMore
open Go.Proofs.Ytaepbgieahedjaa.IP
set_option maxHeartbeats 4000000 in
set_option maxRecDepth 100000 in
theorem isome_calls (K : FuncId) (fn : Func) (caps : Array Value) (hK : Try.prog.funcs[K]? = some fn) (hname : (fn.name == "runtime.NumGoroutine") = false) (hbody : fn.body.isSome = true) (so : R0 → Bool) (l : List R0) (base g : Nat) (w : World) (hn : l.length ≤ 1000) (hp : ∀ x ∈ l, x.f7.length ≤ 1000) (hX : IX w base g l)
    (hso : ∀ W, Below w.heap.size w W → ∀ (x : R0) (Ap : Option Addr) (cpp : Nat), Calls Try.prog K (#[.agg #[.int .u64 x.f0, .int .u64 x.f1, .int .i64 x.f2, .int .i64 x.f3, .int .u64 x.f4, .bool x.f5, .int .i64 x.f6, .slice Ap x.f7.length cpp]] ++ caps) W fun e w' => e = .returned (.bool (so x)) ∧ Below W.heap.size W w') :
    Calls Try.prog 25 #[.pointer (some ⟨g, 0, none⟩), .func (.func K) #[] caps] w fun e w' => ∃ v, e = .returned v ∧ Kd.R k29 29 w' w.heap.size (fun k => w.heap.size ≤ k) v (l.filter so) ∧ Below w.heap.size w w' := by
  obtain ⟨A, cp, hz, hRx, hgb⟩ := hX
  obtain ⟨A', cp', hv, hcl, hC⟩ := Kd.R_reads hRx
  injection hv with e1 _ e3
  subst e1 e3
  have HR := Aside0.mk hC
  have z0 := blk_cell hz 0
  have HN := Aside0.mk (And.intro hn hp)
  have HSO := Aside0.mk hso
  have hcf := fun (args : Array Value) (W : World) => enters_ (P := Try.prog) hK hname hbody args W
  clear hC hn hp hso hK hname hbody hz hRx hgb hcl
  go_enter Try.func25, Try.ntmps25
  go_wp2_with fail
  go_loopg [5, 16] (l.length + 1) (fun kq v5 v16 w' => ∃ i : Nat, v16 = .int .i64 (i : Int) ∧ Aside0 (i ≤ l.length ∧ kq + i = l.length + 1) ∧ Aside0 (Kd.R k29 29 w' w.heap.size (fun k => w.heap.size ≤ k) v5 ((l.take i).filter so)) ∧ Aside0 (Below w.heap.size w w'))
  case atStart => exact ⟨0, rfl, ⟨Nat.zero_le _, rfl⟩, ⟨Kd.R_nil _ _ _ _ _⟩, ⟨Below.refl _ _⟩⟩
  case round =>
    obtain ⟨i, rfl, HI, HO, BB⟩ := hrel
    by_cases hi : i < l.length
    case neg =>
      have hie : i = l.length := by have := HI.out; omega
      subst hie
      have t1 : decide ((l.length : Int) < (l.length : Int)) = false := decide_eq_false (by omega)
      have ho := HO.out
      rw [List.take_length] at ho
      replace ho := Aside0.mk ho
      clear HO hi
      go_wp2_with fail
      go_ret
      exact ⟨_, rfl, ho.out, BB.out⟩
    case pos =>
      have t1 : decide ((i : Int) < (l.length : Int)) = true := decide_eq_true (by omega)
      have t2 : decide (i < l.length) = true := decide_eq_true hi
      obtain ⟨ad, Ap, cpp, rfl, hx0, hx1, hx2, hx3, hx4, hx5, hx6, hx7, hlp, hCp⟩ := at_T29 (Kd.C_below HR.out BB.out) (i : Int) (by omega) (by omega)
      obtain ⟨x, hxe⟩ : ∃ x, x = l[i] := ⟨_, rfl⟩
      have hrd : rd_T29 l (i : Int) = x := by
        unfold rd_T29
        rw [hxe, Int.toNat_natCast, List.getD_eq_getElem?_getD, List.getElem?_eq_getElem hi]
        rfl
      rw [hrd] at hx0 hx1 hx2 hx3 hx4 hx5 hx6 hx7 hlp hCp
      rw [Int.toNat_natCast] at hx0 hx1 hx2 hx3 hx4 hx5 hx6 hx7
      have hxp := HN.out.2 x (by rw [hxe]; exact List.getElem_mem hi)
      have p1 : (0 : Int) ≤ (i : Int) := by omega
      have q1 : (i : Int) < (l.length : Int) := by omega
      replace p1 := eq_true p1
      replace q1 := eq_true q1
      have HCP := Aside0.mk (And.intro hlp (And.intro hCp hxp))
      have hfil : (l.take (i + 1)).filter so = (l.take i).filter so ++ (if so x = true then [x] else []) := by
        rw [List.take_add_one, List.getElem?_eq_getElem hi, List.filter_append, ← hxe]
        by_cases h : so x = true
        · rw [if_pos h]; simp [h]
        · rw [if_neg h]; simp [h]
      have HFI := Aside0.mk hfil
      have HI2 := Aside0.mk hi
      have HWI : IntKind.i64.wrap ((i : Int) + 1) = ((i + 1 : Nat) : Int) := by rw [i64_w]; unfold wrap64; have := HN.out.1; omega
      clear hlp hCp hxp hrd hxe hfil hi
      have hbx := heap_alloc_new wr (.cells #[.int .u64 x.f0, .int .u64 x.f1, .int .i64 x.f2, .int .i64 x.f3, .int .u64 x.f4, .bool x.f5, .int .i64 x.f6, .slice Ap x.f7.length cpp] 29)
      have hbb := below_alloc BB.out (.cells #[.int .u64 x.f0, .int .u64 x.f1, .int .i64 x.f2, .int .i64 x.f3, .int .u64 x.f4, .bool x.f5, .int .i64 x.f6, .slice Ap x.f7.length cpp] 29)
      have hsc := Aside0.mk (HSO.out _ hbb x Ap cpp)
      have HOb := Kd.R_mono (Kd.R_bound HO.out) (fun k hk => (⟨hk.1, hk.2.2.1⟩ : w.heap.size ≤ k ∧ k < wr.heap.size))
      have HO1 := Aside0.mk (Kd.R_alloc HOb (.cells #[.int .u64 x.f0, .int .u64 x.f1, .int .i64 x.f2, .int .i64 x.f3, .int .u64 x.f4, .bool x.f5, .int .i64 x.f6, .slice Ap x.f7.length cpp] 29))
      have HCP1 := Aside0.mk (Kd.C_below HCP.out.2.1 (below_alloc (Below.refl wr.heap.size wr) (.cells #[.int .u64 x.f0, .int .u64 x.f1, .int .i64 x.f2, .int .i64 x.f3, .int .u64 x.f4, .bool x.f5, .int .i64 x.f6, .slice Ap x.f7.length cpp] 29)))
      have HLT := Aside0.mk (Kd.R_lt HO.out)
      clear HOb
      replace hbx := Aside0.mk hbx
      replace hbb := Aside0.mk hbb
      have HSZ : Aside0 (wr.heap.size < (wr.alloc (.cells #[.int .u64 x.f0, .int .u64 x.f1, .int .i64 x.f2, .int .i64 x.f3, .int .u64 x.f4, .bool x.f5, .int .i64 x.f6, .slice Ap x.f7.length cpp] 29)).heap.size) := ⟨by simp⟩
      go_upto_region 7 with fail
      generalize wr.alloc (.cells #[.int .u64 x.f0, .int .u64 x.f1, .int .i64 x.f2, .int .i64 x.f3, .int .u64 x.f4, .bool x.f5, .int .i64 x.f6, .slice Ap x.f7.length cpp] 29) = W1 at hbx hbb hsc HO1 HCP1 HSZ ⊢
      clear hx0 hx1 hx2 hx3 hx4 hx5 hx6 hx7 p1 q1 t1 t2 HO
      have c0 := blk_cell hbx.out 0
      have c1 := blk_cell hbx.out 1
      have c2 := blk_cell hbx.out 2
      have c3 := blk_cell hbx.out 3
      have c4 := blk_cell hbx.out 4
      have c5 := blk_cell hbx.out 5
      have c6 := blk_cell hbx.out 6
      have c7 := blk_cell hbx.out 7
      cases hsx : so x with
      | false =>
        rw [hsx] at hsc
        have hfl : (l.take (i + 1)).filter so = (l.take i).filter so := by rw [HFI.out, if_neg (by rw [hsx]; simp), List.append_nil]
        replace hfl := Aside0.mk hfl
        clear hsx
        go_wp2_with (refine hsc.out.mono ?_; rintro e w2 ⟨rfl, hb⟩; replace hb := Aside0.mk hb)
        go_roundg (l.length - i)
        case measure => have := HI.out; have := HI2.out; omega
        case rel => exact ⟨i + 1, by first | rfl | (rw [← i64_w, HWI]) | (simp; unfold wrap64; have := HI2.out; have := HN.out.1; omega), ⟨by have := HI2.out; omega, by have := HI.out; have := HI2.out; omega⟩, ⟨by rw [hfl.out]; exact Kd.R_mono (Kd.R_below HO1.out hb.out) (fun _ hk => hk.1)⟩, ⟨below_then hbb.out hbb.out.size hb.out⟩⟩
      | true =>
        rw [hsx] at hsc
        have hfl : (l.take (i + 1)).filter so = (l.take i).filter so ++ [x] := by rw [HFI.out, if_pos (by rw [hsx])]
        replace hfl := Aside0.mk hfl
        clear hsx
        go_upto_region 8 with (refine hsc.out.mono ?_; rintro e w2 ⟨rfl, hb⟩)
        clear c0 c1 c2 c3 c4 c5 c6 c7
        have hbx2 := blk_below hbx.out hb
        have c0 := blk_cell hbx2 0
        have c1 := blk_cell hbx2 1
        have c2 := blk_cell hbx2 2
        have c3 := blk_cell hbx2 3
        have c4 := blk_cell hbx2 4
        have c5 := blk_cell hbx2 5
        have c6 := blk_cell hbx2 6
        have c7 := blk_cell hbx2 7
        have HOC := Aside0.mk (copy_calls x Ap cpp w2 (by have := HCP.out.2.2; omega) (Kd.C_below HCP1.out hb))
        have HO2 := Aside0.mk (Kd.R_below HO1.out hb)
        have HB2 := Aside0.mk (below_then hbb.out hbb.out.size hb)
        have HSZ2 : Aside0 (wr.heap.size < w2.heap.size) := ⟨Nat.lt_of_lt_of_le HSZ.out hb.size⟩
        clear hbx hbx2 hb HO1 hbb HCP1 HSZ hsc
        have HNW : Aside0 (∀ k, w2.heap.size ≤ k → w.heap.size ≤ k ∧ some k ≠ u5.ownBlock) := ⟨fun k hk => ⟨by have := HSZ2.out; have := BB.out.size; omega, fun h => by have := HLT.out k h.symm; have := HSZ2.out; omega⟩⟩
        have HLN : Aside0 (((l.take i).filter so).length ≤ 1000) := ⟨by have h1 := List.length_filter_le so (l.take i); have h2 := List.length_take_le i l; have := HN.out.1; rw [List.length_take] at h1; omega⟩
        go_wp2_with (first | (go_at_call 31; refine HOC.out.mono ?_; rintro e w4 ⟨A2, cp2, rfl, h2, hb⟩; have HM := Aside0.mk (k29_mkM w4 w.heap.size _ x (Kd.R_lower h2 HB2.out.size)); have HO3 := Aside0.mk (Kd.R_mono (Kd.R_below HO2.out hb) (fun _ hk => hk.1)); have HB3 := Aside0.mk (below_then HB2.out HB2.out.size hb); have HSZ4 := Aside0.mk hb.size; clear hb h2 c0 c1 c2 c3 c4 c5 c6 c7) | (at_builtin; (refine Kd.R_append k29 w.heap.size rfl _ _ 22 29 _ 80 rfl Try.underlying22 inf_rec rfl (by decide) (by decide) u5 _ x _ (fun k => w.heap.size ≤ k) (fun k => w2.heap.size ≤ k) rfl rfl HM.out HNW.out (fun k hk => Nat.le_trans HB3.out.size hk) HO3.out HB3.out HB3.out.size (Nat.le_trans (Nat.mul_le_mul_right 80 (Nat.succ_le_succ HLN.out)) (by decide)) ?_); intro v1 w5 ho5 hb5 hg5 _; replace ho5 := Aside0.mk ho5; replace hb5 := Aside0.mk hb5; clear hg5))
        go_roundg (l.length - i)
        case measure => have := HI.out; have := HI2.out; omega
        case rel => exact ⟨i + 1, by first | rfl | (rw [← i64_w, HWI]) | (simp; unfold wrap64; have := HI2.out; have := HN.out.1; omega), ⟨by have := HI2.out; omega, by have := HI.out; have := HI2.out; omega⟩, ⟨by rw [hfl.out]; exact ho5.out⟩, hb5⟩
end Go.Proofs.Ytaepbgieahedjaa.QS
namespace Go.Proofs.Ytaepbgieahedjaa.QS
set_option linter.unusedVariables false
set_option linter.unusedSimpArgs false
open Go.RowKit Go.Proofs.Ytaepbgieahedjaa.Hp Go.Proofs.YtaepbgieahedjaaW.PrintWords Go.Proofs.YtaepbgieahedjaaW.PrintLast Go.Proofs.YtaepbgieahedjaaW.PrintMore
open Go.Proofs.Ytaepbgieahedjaa.IP
def SomeTo (w w' : World) (e : Ending) (l : List R0) : Prop := ∃ v, e = .returned v ∧ Kd.R k29 29 w' w.heap.size (fun k => w.heap.size ≤ k) v l ∧ Below w.heap.size w w'
set_option maxHeartbeats 2000000 in
set_option maxRecDepth 100000 in
theorem all_fn (x : R0) (Ap : Option Addr) (cpp : Nat) (W : World) : Calls Try.prog 32 (#[.agg #[.int .u64 x.f0, .int .u64 x.f1, .int .i64 x.f2, .int .i64 x.f3, .int .u64 x.f4, .bool x.f5, .int .i64 x.f6, .slice Ap x.f7.length cpp]] ++ #[]) W fun e w' => e = .returned (.bool true) ∧ Below W.heap.size W w' := by
  have hb := Aside0.mk (below_alloc (Below.refl W.heap.size W) (.cells #[.int .u64 x.f0, .int .u64 x.f1, .int .i64 x.f2, .int .i64 x.f3, .int .u64 x.f4, .bool x.f5, .int .i64 x.f6, .slice Ap x.f7.length cpp] 29))
  show Calls Try.prog 32 #[.agg #[.int .u64 x.f0, .int .u64 x.f1, .int .i64 x.f2, .int .i64 x.f3, .int .u64 x.f4, .bool x.f5, .int .i64 x.f6, .slice Ap x.f7.length cpp]] W _
  go_enter Try.func32, Try.ntmps32
  go_wp2_with fail
  go_ret
  first | exact ⟨rfl, hb.out⟩ | exact ⟨rfl, Below.refl _ _⟩
set_option maxHeartbeats 2000000 in
set_option maxRecDepth 100000 in
theorem all_calls {W : World} {base g : Nat} {l : List R0} (h : IX W base g l) (hn : l.length ≤ 1000) (hp : ∀ x ∈ l, x.f7.length ≤ 1000) : Calls Try.prog 21 #[.pointer (some ⟨g, 0, none⟩)] W fun e w' => SomeTo W w' e l := by
  have HS := Aside0.mk (isome_calls 32 _ #[] Try.func32 rfl rfl (fun _ => true) l base g W hn hp h (fun W' hW x Ap cpp => all_fn x Ap cpp W'))
  clear h hn hp
  go_enter Try.func21, Try.ntmps21
  go_wp2_with (go_at_call 25; refine HS.out.mono ?_; rintro e w2 ⟨v, rfl, hR, hb⟩; rw [show (l.filter fun _ => true) = l from List.filter_eq_self.2 (fun _ _ => rfl)] at hR; have HR := Aside0.mk hR; have HB := Aside0.mk hb; clear hR hb)
  go_ret
  exact ⟨_, rfl, HR.out, HB.out⟩
set_option maxHeartbeats 2000000 in
set_option maxRecDepth 100000 in
theorem over_fn {gb : Nat} {n : Int} (x : R0) (Ap : Option Addr) (cpp : Nat) (W : World) (hc : W.cell? ⟨gb, 0, none⟩ = some (.int .u64 n)) : Calls Try.prog 33 (#[.agg #[.int .u64 x.f0, .int .u64 x.f1, .int .i64 x.f2, .int .i64 x.f3, .int .u64 x.f4, .bool x.f5, .int .i64 x.f6, .slice Ap x.f7.length cpp]] ++ #[.pointer (some ⟨gb, 0, none⟩)]) W fun e w' => e = .returned (.bool (decide (x.f4 ≤ n))) ∧ Below W.heap.size W w' := by
  have hz := heap_alloc_new W (.cells #[.int .u64 x.f0, .int .u64 x.f1, .int .i64 x.f2, .int .i64 x.f3, .int .u64 x.f4, .bool x.f5, .int .i64 x.f6, .slice Ap x.f7.length cpp] 29)
  have hb := below_alloc (Below.refl W.heap.size W) (.cells #[.int .u64 x.f0, .int .u64 x.f1, .int .i64 x.f2, .int .i64 x.f3, .int .u64 x.f4, .bool x.f5, .int .i64 x.f6, .slice Ap x.f7.length cpp] 29)
  have hk := (hb.cell (World.block_lt_of_cell? W _ hc)).trans hc
  obtain ⟨g2, hg2⟩ : ∃ g, g = W.heap.size := ⟨_, rfl⟩
  show Calls Try.prog 33 #[.agg #[.int .u64 x.f0, .int .u64 x.f1, .int .i64 x.f2, .int .i64 x.f3, .int .u64 x.f4, .bool x.f5, .int .i64 x.f6, .slice Ap x.f7.length cpp], .pointer (some ⟨gb, 0, none⟩)] W _
  clear hc
  go_enter Try.func33, Try.ntmps33
  go_upto_region 1 with fail
  generalize W.alloc (.cells #[.int .u64 x.f0, .int .u64 x.f1, .int .i64 x.f2, .int .i64 x.f3, .int .u64 x.f4, .bool x.f5, .int .i64 x.f6, .slice Ap x.f7.length cpp] 29) = W1 at hz hb hk ⊢
  rw [← hg2] at hz ⊢
  have HB := Aside0.mk hb
  have c4 := blk_cell hz 4
  clear hz hb hg2
  go_wp2_with fail
  go_ret
  exact ⟨rfl, HB.out⟩
set_option maxHeartbeats 2000000 in
set_option maxRecDepth 100000 in
theorem over_calls {W : World} {base g : Nat} {l : List R0} (h : IX W base g l) (hn : l.length ≤ 1000) (hp : ∀ x ∈ l, x.f7.length ≤ 1000) (n : Int) : Calls Try.prog 22 #[.pointer (some ⟨g, 0, none⟩), .int .u64 n] W fun e w' => SomeTo W w' e (l.filter fun x => decide (x.f4 ≤ n)) := by
  have hz := heap_alloc_new W (.cells #[.int .u64 n] 23)
  have hb := below_alloc (Below.refl W.heap.size W) (.cells #[.int .u64 n] 23)
  obtain ⟨gb, hgb⟩ : ∃ g, g = W.heap.size := ⟨_, rfl⟩
  have HX := Aside0.mk (h.below hb)
  have HN := Aside0.mk (And.intro hn hp)
  clear h hn hp
  go_enter Try.func22, Try.ntmps22
  go_upto_region 1 with fail
  generalize W.alloc (.cells #[.int .u64 n] 23) = W1 at hz hb HX ⊢
  rw [← hgb] at hz ⊢
  have HS := Aside0.mk (isome_calls 33 _ #[.pointer (some ⟨gb, 0, none⟩)] Try.func33 rfl rfl (fun x => decide (x.f4 ≤ n)) l base g W1 HN.out.1 HN.out.2 HX.out (fun W' hW x Ap cpp => over_fn x Ap cpp W' (blk_cell (blk_below hz hW) 0)))
  have HB1 := Aside0.mk hb
  clear hz hb hgb
  go_wp2_with (go_at_call 25; refine HS.out.mono ?_; rintro e w2 ⟨v, rfl, hR, hb⟩; have HR := Aside0.mk hR; have HB := Aside0.mk hb; clear hR hb)
  go_ret
  exact ⟨_, rfl, Kd.R_mono (Kd.R_lower HR.out HB1.out.size) (fun k hk => Nat.le_trans HB1.out.size hk), below_then HB1.out HB1.out.size HB.out⟩
set_option maxHeartbeats 2000000 in
set_option maxRecDepth 100000 in
theorem alive_fn {gb : Nat} {n : Int} (x : R0) (Ap : Option Addr) (cpp : Nat) (W : World) (hc : W.cell? ⟨gb, 0, none⟩ = some (.int .u64 n)) : Calls Try.prog 34 (#[.agg #[.int .u64 x.f0, .int .u64 x.f1, .int .i64 x.f2, .int .i64 x.f3, .int .u64 x.f4, .bool x.f5, .int .i64 x.f6, .slice Ap x.f7.length cpp]] ++ #[.pointer (some ⟨gb, 0, none⟩)]) W fun e w' => e = .returned (.bool (decide (n < x.f4))) ∧ Below W.heap.size W w' := by
  have hz := heap_alloc_new W (.cells #[.int .u64 x.f0, .int .u64 x.f1, .int .i64 x.f2, .int .i64 x.f3, .int .u64 x.f4, .bool x.f5, .int .i64 x.f6, .slice Ap x.f7.length cpp] 29)
  have hb := below_alloc (Below.refl W.heap.size W) (.cells #[.int .u64 x.f0, .int .u64 x.f1, .int .i64 x.f2, .int .i64 x.f3, .int .u64 x.f4, .bool x.f5, .int .i64 x.f6, .slice Ap x.f7.length cpp] 29)
  have hk := (hb.cell (World.block_lt_of_cell? W _ hc)).trans hc
  obtain ⟨g2, hg2⟩ : ∃ g, g = W.heap.size := ⟨_, rfl⟩
  show Calls Try.prog 34 #[.agg #[.int .u64 x.f0, .int .u64 x.f1, .int .i64 x.f2, .int .i64 x.f3, .int .u64 x.f4, .bool x.f5, .int .i64 x.f6, .slice Ap x.f7.length cpp], .pointer (some ⟨gb, 0, none⟩)] W _
  clear hc
  go_enter Try.func34, Try.ntmps34
  go_upto_region 1 with fail
  generalize W.alloc (.cells #[.int .u64 x.f0, .int .u64 x.f1, .int .i64 x.f2, .int .i64 x.f3, .int .u64 x.f4, .bool x.f5, .int .i64 x.f6, .slice Ap x.f7.length cpp] 29) = W1 at hz hb hk ⊢
  rw [← hg2] at hz ⊢
  have HB := Aside0.mk hb
  have c4 := blk_cell hz 4
  clear hz hb hg2
  go_wp2_with fail
  go_ret
  exact ⟨rfl, HB.out⟩
set_option maxHeartbeats 2000000 in
set_option maxRecDepth 100000 in
theorem alive_calls {W : World} {base g : Nat} {l : List R0} (h : IX W base g l) (hn : l.length ≤ 1000) (hp : ∀ x ∈ l, x.f7.length ≤ 1000) (n : Int) : Calls Try.prog 24 #[.pointer (some ⟨g, 0, none⟩), .int .u64 n] W fun e w' => SomeTo W w' e (l.filter fun x => decide (n < x.f4)) := by
  have hz := heap_alloc_new W (.cells #[.int .u64 n] 23)
  have hb := below_alloc (Below.refl W.heap.size W) (.cells #[.int .u64 n] 23)
  obtain ⟨gb, hgb⟩ : ∃ g, g = W.heap.size := ⟨_, rfl⟩
  have HX := Aside0.mk (h.below hb)
  have HN := Aside0.mk (And.intro hn hp)
  clear h hn hp
  go_enter Try.func24, Try.ntmps24
  go_upto_region 1 with fail
  generalize W.alloc (.cells #[.int .u64 n] 23) = W1 at hz hb HX ⊢
  rw [← hgb] at hz ⊢
  have HS := Aside0.mk (isome_calls 34 _ #[.pointer (some ⟨gb, 0, none⟩)] Try.func34 rfl rfl (fun x => decide (n < x.f4)) l base g W1 HN.out.1 HN.out.2 HX.out (fun W' hW x Ap cpp => alive_fn x Ap cpp W' (blk_cell (blk_below hz hW) 0)))
  have HB1 := Aside0.mk hb
  clear hz hb hgb
  go_wp2_with (go_at_call 25; refine HS.out.mono ?_; rintro e w2 ⟨v, rfl, hR, hb⟩; have HR := Aside0.mk hR; have HB := Aside0.mk hb; clear hR hb)
  go_ret
  exact ⟨_, rfl, Kd.R_mono (Kd.R_lower HR.out HB1.out.size) (fun k hk => Nat.le_trans HB1.out.size hk), below_then HB1.out HB1.out.size HB.out⟩
end Go.Proofs.Ytaepbgieahedjaa.QS
namespace Go.Proofs.Ytaepbgieahedjaa.QS
set_option linter.unusedVariables false
set_option linter.unusedSimpArgs false
open Go.RowKit Go.Proofs.Ytaepbgieahedjaa.Hp Go.Proofs.YtaepbgieahedjaaW.PrintWords Go.Proofs.YtaepbgieahedjaaW.PrintLast Go.Proofs.YtaepbgieahedjaaW.PrintMore
open Go.Proofs.Ytaepbgieahedjaa.IP
set_option maxHeartbeats 2000000 in
set_option maxRecDepth 100000 in
theorem new_empty (A : Option Addr) (c : Nat) (w : World) : Calls Try.prog 7 #[.slice A 0 c] w fun e w' => ∃ g, e = .returned (.pointer (some ⟨g, 0, none⟩)) ∧ IX w' w.heap.size g [] ∧ Below w.heap.size w w' := by
  have hz := heap_alloc_new w (.cells #[.slice none 0 0] 57)
  have hb := below_alloc (Below.refl w.heap.size w) (.cells #[.slice none 0 0] 57)
  obtain ⟨g, hg⟩ : ∃ g, g = w.heap.size := ⟨_, rfl⟩
  have kb : ∀ W : World, (Instr.build 57 #[]).run Try.prog W = .ok (.agg #[.slice none 0 0]) W := fun W => by kernel_rfl
  go_enter Try.func7, Try.ntmps7
  go_upto_region 2 with fail
  generalize w.alloc (.cells #[.slice none 0 0] 57) = W1 at hz hb ⊢
  rw [← hg] at hz ⊢
  have HB := Aside0.mk hb
  have HX : Aside0 (IX W1 w.heap.size g []) := ⟨none, 0, hz, Kd.R_nil _ _ _ _ _, Nat.le_of_eq hg.symm⟩
  clear hz hb hg kb
  go_wp2_with fail
  go_loopg [10] 1 (fun kq v10 w' => v10 = .int .i64 0 ∧ Aside0 (IX w' w.heap.size g []) ∧ Aside0 (Below w.heap.size w w'))
  case atStart => exact ⟨rfl, HX, HB⟩
  case round =>
    obtain ⟨rfl, HX2, HB2⟩ := hrel
    go_wp2_with fail
    go_ret
    exact ⟨g, rfl, HX2.out, HB2.out⟩
end Go.Proofs.Ytaepbgieahedjaa.QS
namespace Go.Proofs.Ytaepbgieahedjaa.QS
set_option linter.unusedVariables false
set_option linter.unusedSimpArgs false
open Go.RowKit Go.Proofs.Ytaepbgieahedjaa.Hp Go.Proofs.YtaepbgieahedjaaW.PrintWords Go.Proofs.YtaepbgieahedjaaW.PrintLast Go.Proofs.YtaepbgieahedjaaW.PrintMore
open Go.Proofs.Ytaepbgieahedjaa.IP
section
variable {P : Program} {ops : Array Oper} {rest : List Oper} {Q : Exit → Act → World → Prop}
theorem run_copy_rowS (w : World) (dT sT ty elem : TypeId) (g o dLen dCap : Nat) (a : Addr) (sLen sCap sz : Nat) (cur : Array Value) (t : TypeId) (cs : List Value)
    (hu : P.underlying dT = some (.slice elem)) (hs : (P.info? elem).map (·.size) = some sz)
    (hg : w.heap[g]? = some (.cells cur t (0, 0))) (hn : cs.length = Nat.min sLen dLen * sz)
    (hsrc : ∀ j v, cs[j]? = some v → w.cell? (a.add j) = some v) (hfit : o + cs.length ≤ cur.size) (h1 : ∀ v ∈ cs, v.oneCell' = true) :
    (Builtin.copy_ #[dT, sT] ty #[.slice (some ⟨g, o, none⟩) dLen dCap, .slice (some a) sLen sCap]).run P w =
      .ok (goInt (Nat.min sLen dLen)) (w.setRow g (cur.toList.take o ++ cs ++ cur.toList.drop (o + cs.length)).toArray) := by
  have hl := run_loadCells_list (P := P) w a cs hsrc
  have hst := run_storeCells_at P g o t cs 0 cur w hg (by simpa using hfit) h1
  cases hq : P.info? elem with
  | none => simp [hq] at hs
  | some i =>
    have hi : i.size = sz := by simpa [hq] using hs
    simp [Builtin.copy_, run_underlying hu, Builtin.lenOf, Builtin.firstCells, sizeOf, typeInfo, hq, hi, ← hn, hl, hst]
theorem copy_wp {o : Oper} {a : Act} {w w' : World} (hgd : o.guard = none) (d s : Operand) (t : TypeId)
    (ho : o.op = .call { callee := .builtin .copy, args := #[d, s], argTypes := #[t, t] }) {v u v' : Value} (hd : a.eval d = v) (hs : a.eval s = u)
    (hr : (Builtin.copy_ #[t, t] o.type #[v, u]).run P w = .ok v' w') (h : wpList P ops Q rest (a.put o.dst v') w') : wpList P ops Q (o :: rest) a w := by
  refine wpList_plain hgd fun K hK => ?_
  unfold Oper.wp execOp
  simp only [ho, resolve, invoke, builtin, Sem.run_bind, Sem.run_pure, Result.andThen_ok, List.map_toArray, List.map_cons, List.map_nil, hd, hs, hr]
  exact hK _ _ h
theorem copy_step {o : Oper} {a : Act} {w w' : World} {K : Act → World → Prop} {E : Prop} (hgd : o.guard = none) (d s : Operand) (t : TypeId)
    (ho : o.op = .call { callee := .builtin .copy, args := #[d, s], argTypes := #[t, t] }) {v u v' : Value} (hd : a.eval d = v) (hs : a.eval s = u)
    (hr : (Builtin.copy_ #[t, t] o.type #[v, u]).run P w = .ok v' w') (hK : K (a.put o.dst v') w') : if Region.wanted o (yielded ops a.tmps) = true then Oper.wp P o a w K Q else E := by
  have hw : Region.wanted o (yielded ops a.tmps) = true := by simp [Region.wanted, hgd]
  rw [if_pos hw]
  unfold Oper.wp execOp
  simp only [ho, resolve, invoke, builtin, Sem.run_bind, Sem.run_pure, Result.andThen_ok, List.map_toArray, List.map_cons, List.map_nil, hd, hs, hr]
  exact hK
theorem appz_wp {o : Oper} {a : Act} {w w' : World} (hgd : o.guard = none) (s x : Operand) (t ti : TypeId)
    (ho : o.op = .call { callee := .builtin .append, args := #[s, x], argTypes := #[t, ti] }) {v xv v' : Value} (hs : a.eval s = v) (hx : a.eval x = xv)
    (hr : (Builtin.append_ #[t, ti] o.type #[v, xv]).run P w = .ok v' w') (h : wpList P ops Q rest (a.put o.dst v') w') : wpList P ops Q (o :: rest) a w := by
  refine wpList_plain hgd fun K hK => ?_
  unfold Oper.wp execOp
  simp only [ho, resolve, invoke, builtin, Sem.run_bind, Sem.run_pure, Result.andThen_ok, List.map_toArray, List.map_cons, List.map_nil, hs, hx, hr]
  exact hK _ _ h
end
def shiftL (cur xs ys : List Value) (a s : Nat) : List Value := cur.take (a + s) ++ xs.drop a ++ cur.drop (a + s + (xs.drop a).length)
def insL (cur ys : List Value) (a : Nat) : List Value := cur.take a ++ ys ++ cur.drop (a + ys.length)
theorem ins_shift {cur xs ys : List Value} {a s : Nat} (hy : ys.length = s) (ha : a ≤ xs.length) (hx : cur.take xs.length = xs) (hc : xs.length + s ≤ cur.length) :
    (shiftL cur xs ys a s).length = cur.length ∧ (insL (shiftL cur xs ys a s) ys a).length = cur.length ∧ (insL (shiftL cur xs ys a s) ys a).take (xs.length + s) = xs.take a ++ ys ++ xs.drop a := by
  have h1 : (cur.take (a + s)).length = a + s := by rw [List.length_take]; omega
  have hd : (xs.drop a).length = xs.length - a := List.length_drop
  have hl : (shiftL cur xs ys a s).length = cur.length := by
    unfold shiftL
    rw [List.length_append, List.length_append, h1, hd, List.length_drop]
    omega
  have e1 : (shiftL cur xs ys a s).take a = xs.take a := by
    unfold shiftL
    rw [List.append_assoc, List.take_append_of_le_length (by omega), List.take_take, Nat.min_eq_left (by omega), ← hx, List.take_take, Nat.min_eq_left ha]
  have e2 : (shiftL cur xs ys a s).drop (a + s) = xs.drop a ++ cur.drop (a + s + (xs.drop a).length) := by
    unfold shiftL
    rw [List.append_assoc, List.drop_left' h1]
  have e3 : insL (shiftL cur xs ys a s) ys a = xs.take a ++ ys ++ xs.drop a ++ cur.drop (a + s + (xs.drop a).length) := by
    unfold insL
    rw [e1, hy, e2, List.append_assoc, List.append_assoc, List.append_assoc]
  have ht : (xs.take a).length = a := by rw [List.length_take]; omega
  refine ⟨hl, ?_, ?_⟩
  · unfold insL
    rw [List.length_append, List.length_append, List.length_take, List.length_drop, hl]
    omega
  · rw [e3, List.take_left' (by rw [List.length_append, List.length_append, ht, hd]; omega)]
theorem ins_new {z xs ys : List Value} {a s : Nat} (hy : ys.length = s) (ha : a ≤ xs.length) (hc : xs.length + s ≤ (xs.take a ++ z).length) :
    (insL (xs.take a ++ z) ys a).length = (xs.take a ++ z).length ∧ (shiftL (insL (xs.take a ++ z) ys a) xs ys a s).length = (xs.take a ++ z).length ∧ (shiftL (insL (xs.take a ++ z) ys a) xs ys a s).take (xs.length + s) = xs.take a ++ ys ++ xs.drop a := by
  have ht : (xs.take a).length = a := by rw [List.length_take]; omega
  have hd : (xs.drop a).length = xs.length - a := List.length_drop
  have hl : (insL (xs.take a ++ z) ys a).length = (xs.take a ++ z).length := by
    unfold insL
    rw [List.length_append, List.length_append, List.length_take, List.length_drop]
    omega
  have e1 : (insL (xs.take a ++ z) ys a).take (a + s) = xs.take a ++ ys := by
    unfold insL
    rw [List.take_left' ht, List.take_left' (by rw [List.length_append, ht, hy])]
  refine ⟨hl, ?_, ?_⟩
  · unfold shiftL
    rw [List.length_append, List.length_append, List.length_take, hl, hd, List.length_drop, hl]
    omega
  · unfold shiftL
    rw [e1, List.take_left' (by rw [List.length_append, List.length_append, ht, hy, hd]; omega)]
theorem encs_append (a b : List Rec) : (a ++ b).flatMap Rec.enc = a.flatMap Rec.enc ++ b.flatMap Rec.enc := List.flatMap_append
theorem encs_take (ps : List Rec) (i : Nat) : (ps.take i).flatMap Rec.enc = (ps.flatMap Rec.enc).take (i * 8) := by
  induction ps generalizing i with
  | nil => simp
  | cons a r ih =>
    cases i with
    | zero => simp
    | succ i =>
      rw [List.take_succ_cons, List.flatMap_cons, List.flatMap_cons, ih, show (i + 1) * 8 = (Rec.enc a).length + i * 8 by rw [show (Rec.enc a).length = 8 from rfl]; omega, List.take_length_add_append]
theorem encs_drop (ps : List Rec) (i : Nat) : (ps.drop i).flatMap Rec.enc = (ps.flatMap Rec.enc).drop (i * 8) := by
  induction ps generalizing i with
  | nil => simp
  | cons a r ih =>
    cases i with
    | zero => simp
    | succ i =>
      rw [List.drop_succ_cons, List.flatMap_cons, ih, show (i + 1) * 8 = (Rec.enc a).length + i * 8 by rw [show (Rec.enc a).length = 8 from rfl]; omega, List.drop_length_add_append]
theorem encs_put (ps : List Rec) (i : Nat) (x : Rec) : (putAt ps i x).flatMap Rec.enc = (ps.flatMap Rec.enc).take (i * 8) ++ x.enc ++ (ps.flatMap Rec.enc).drop (i * 8) := by
  unfold putAt
  rw [encs_append, List.flatMap_cons, encs_take, encs_drop, List.append_assoc]
theorem putAt_map {α β : Type} (f : α → β) (l : List α) (i : Nat) (x : α) : (putAt l i x).map f = putAt (l.map f) i (f x) := by
  unfold putAt
  rw [List.map_append, List.map_cons, List.map_take, List.map_drop]
theorem mem_putAt {α : Type} {l : List α} {i : Nat} {x y : α} (h : y ∈ putAt l i x) : y = x ∨ y ∈ l := by
  unfold putAt at h
  rcases List.mem_append.1 h with h | h
  · exact .inr (List.mem_of_mem_take h)
  · rcases List.mem_cons.1 h with h | h
    · exact .inl h
    · exact .inr (List.mem_of_mem_drop h)
theorem encs_one (ps : List Rec) : ∀ u ∈ ps.flatMap Rec.enc, u.oneCell' = true := by
  intro u hu
  obtain ⟨x, _, hx⟩ := List.mem_flatMap.1 hu
  exact enc_one x u hx
theorem putAt_length {α : Type} {l : List α} {i : Nat} {x : α} (hi : i ≤ l.length) : (putAt l i x).length = l.length + 1 := putAt_len hi
theorem insTo_mk {W w' : World} {base : Nat} {l : List R0} {i g c : Nat} {ok : Nat → Prop} {own : Option Nat} {x : R0} {Ax : Option Addr} {cx : Nat} {ps : List Rp} (hps : ps.map (·.1) = l) (hi : i ≤ l.length)
    {cur : Array Value} (hz : w'.heap[g]? = some (.cells cur 29 (0, 0))) (hcs : cur.size = c * 8) (hnc : l.length + 1 ≤ c) (hcm : c ≤ maxLen) (hgb : base ≤ g) (hok : ok g)
    (ht : cur.toList.take (((ps.map recOf).flatMap Rec.enc).length + 8) = ((ps.map recOf).flatMap Rec.enc).take (i * 8) ++ encR x Ax cx ++ ((ps.map recOf).flatMap Rec.enc).drop (i * 8))
    (hmade : ∀ p ∈ ps, p.made w' base (fun k => ok k ∧ k ≠ g)) (hM : (Kd.int .i64).R 3 w' base (fun k => ok k ∧ k ≠ g) (.slice Ax x.f7.length cx) x.f7) (hg : W.grownBy w' own) (hnew : own = some g ∨ W.heap.size ≤ g) :
    InsTo W w' (.returned (.slice (some ⟨g, 0, none⟩) (l.length + 1) c)) base ok own (putAt l i x) := by
  have hlen : ps.length = l.length := by rw [← hps, List.length_map]
  have hpl : (putAt l i x).length = l.length + 1 := putAt_length hi
  have hpp : (putAt ps i ((x, (Ax, cx)) : Rp)).length = l.length + 1 := by rw [putAt_length (by omega), hlen]
  refine ⟨some ⟨g, 0, none⟩, c, by rw [hpl], ?_, hg, fun k hk => by have e : g = k := Option.some.inj hk; rw [← e]; exact hnew⟩
  have e : putAt l i x = (putAt ps i ((x, (Ax, cx)) : Rp)).map (·.1) := by rw [putAt_map, hps]
  have hR := R_of_rows (W := w') (base := base) (ok := ok) (v := .slice (some ⟨g, 0, none⟩) (putAt l i x).length c) (ps := putAt ps i ((x, (Ax, cx)) : Rp)) (fun k hk => by
    have hk' : g = k := by simpa [Value.ownBlock] using hk
    rwa [← hk']) ?_ ?_
  · rwa [← e] at hR
  · have hL : ((putAt ps i ((x, (Ax, cx)) : Rp)).map recOf).flatMap Rec.enc = ((ps.map recOf).flatMap Rec.enc).take (i * 8) ++ encR x Ax cx ++ ((ps.map recOf).flatMap Rec.enc).drop (i * 8) := by
      rw [putAt_map, encs_put]
      rfl
    refine ⟨by rw [encs_len, List.length_map], .inr ⟨g, c, cur, ?_, hgb, hz, ?_, hcm, hcs, ?_⟩⟩
    · rw [hpp, hpl]
    · rw [hpp]; exact hnc
    · rw [hL, ← ht, encs_len, List.length_map, hpp, hlen, Nat.add_mul]
  · intro p hp
    have hb : ∀ k, (ok k ∧ k ≠ g) → (ok k ∧ some k ≠ (Value.slice (some (⟨g, 0, none⟩ : Addr)) (putAt l i x).length c).ownBlock) := fun k hk => ⟨hk.1, fun h => hk.2 (by simpa [Value.ownBlock] using h)⟩
    rcases mem_putAt hp with rfl | hp
    · exact Kd.R_mono hM hb
    · exact Kd.R_mono (hmade p hp) hb
end Go.Proofs.Ytaepbgieahedjaa.QS
namespace Go.Proofs.Ytaepbgieahedjaa.QS
set_option linter.unusedVariables false
set_option linter.unusedSimpArgs false
open Go.RowKit Go.Proofs.Ytaepbgieahedjaa.Hp Go.Proofs.YtaepbgieahedjaaW.PrintWords Go.Proofs.YtaepbgieahedjaaW.PrintLast Go.Proofs.YtaepbgieahedjaaW.PrintMore
open Go.Proofs.Ytaepbgieahedjaa.IP
theorem size_rec : (Try.prog.info? 29).map (·.size) = some 8 := by kernel_rfl
theorem sizeOf_rec : ∀ w, (Go.sizeOf 29).run Try.prog w = .ok 8 w := fun w => by kernel_rfl
theorem slice_from (g n c i : Nat) (hi : i ≤ n) (hc : i < c) (W : World) : (Instr.slice 22 (.slice (some ⟨g, 0, none⟩) n c) (some (.int .i64 (i : Int))) none none).run Try.prog W = .ok (.slice (some ⟨g, i * 8, none⟩) (n - i) (c - i)) W := by
  obtain ⟨i0, hi0, hsz⟩ := Option.map_eq_some_iff.1 size_rec
  have k := cut_from (P := Try.prog) 22 29 .i64 Try.underlying22 hi0 8 hsz (some ⟨g, 0, none⟩) n c (i : Int) (by omega) (by omega) W
  rw [Int.toNat_natCast, if_neg (by omega)] at k
  rw [k]
  simp [Addr.add]
  omega
theorem slice_to (A : Option Addr) (n c i : Nat) (hi : i ≤ c) (W : World) : (Instr.slice 22 (.slice A n c) none (some (.int .i64 (i : Int))) none).run Try.prog W = .ok (.slice A i c) W := by
  obtain ⟨i0, hi0, hsz⟩ := Option.map_eq_some_iff.1 size_rec
  have hel : Try.prog.elem 22 = 29 := by simp [Program.elem, Try.underlying22]
  have hu : Try.prog.underlying 22 = some (.slice (Try.prog.elem 22)) := by rw [hel]; exact Try.underlying22
  have ha : (A.map fun x => x.add 0) = A := by cases A <;> simp [Addr.add]
  rw [run_slice_h W 22 A n c hu .i64 (i : Int) (by omega) (by omega), hel]
  simp [sizeOf, typeInfo, hi0, hsz, sliced, Result.andThen, ha]
theorem add_at (g o j : Nat) : (⟨g, o, none⟩ : Addr).add j = ⟨g, o + j, none⟩ := Addr.add_lit _ _ _
theorem overlaps_no (W : World) (gx g o lb cb : Nat) (hne : gx ≠ g) {cx cg : Array Value} (hx : W.heap[gx]? = some (.cells cx 29 (0, 0))) (hg : W.heap[g]? = some (.cells cg 29 (0, 0))) (h0 : cg.size ≠ 0) :
    (callFunc 39 #[.slice (some ⟨gx, 0, none⟩) 1 1, .slice (some ⟨g, o, none⟩) lb cb]).run Try.prog W = .ok (.value (.bool false)) W := by
  rw [run_callFunc_extern Try.func39 (by kernel_rfl) (by kernel_rfl) (by kernel_rfl) (e := Extern.SlicesOverlaps.overlaps #[22, 22] #[4]) (by kernel_rfl),
    Lib.run_overlaps_apart W 22 4 29 Try.underlying22 8 sizeOf_rec ⟨gx, 0, none⟩ ⟨g, o, none⟩ 1 1 lb cb hne 29 29 cx.size cg.size (by simp [World.shape?, hx]) (by simp [World.shape?, hg]) h0 (blk_frozen hx 0) (blk_frozen hx _)]
  rfl
theorem grownBy_row {W w : World} {g : Nat} (h : W.grownBy w (some g)) (cs : Array Value) : W.grownBy (w.setRow g cs) (some g) :=
  ⟨h.os, h.tape, h.output, by rw [setRow_size]; exact h.size, fun k hk hne => (setRow_other w g k cs (fun e => hne (by rw [e]))).trans (h.block k hk hne)⟩
set_option maxHeartbeats 8000000 in
set_option maxRecDepth 100000 in
theorem insert_room {W : World} {base gx i : Nat} {l : List R0} {A : Option Addr} {c : Nat} {ok : Nat → Prop} (x : R0) (Ax : Option Addr) (cx : Nat) (hR : k29.R 29 W base ok (.slice A l.length c) l) (hM : (Kd.int .i64).R 3 W base (fun k => ok k ∧ some k ≠ (Value.slice A l.length c).ownBlock) (.slice Ax x.f7.length cx) x.f7)
    (hx : W.heap[gx]? = some (.cells #[.int .u64 x.f0, .int .u64 x.f1, .int .i64 x.f2, .int .i64 x.f3, .int .u64 x.f4, .bool x.f5, .int .i64 x.f6, .slice Ax x.f7.length cx] 29 (0, 0))) (hn : l.length + 1 ≤ 100000) (hi : i < l.length) (hroom : l.length + 1 ≤ c) (hgx : some gx ≠ (Value.slice A l.length c).ownBlock) :
    Calls Try.prog 30 #[.slice A l.length c, .int .i64 (i : Int), .slice (some ⟨gx, 0, none⟩) 1 1] W fun e w' => InsTo W w' e base ok (Value.slice A l.length c).ownBlock (putAt l i x) := by
  obtain ⟨ps, hps, ho, hmade⟩ := rows_of_R hR
  have hlen : ps.length = l.length := by rw [← hps, List.length_map]
  obtain ⟨hxs, ⟨hv, hn0⟩ | ⟨g, c', cur, hv, hgb, hz, hnc, hcm, hcs, htk⟩⟩ := ho
  · omega
  injection hv with e1 e2 e3
  clear e2
  subst e1 e3
  have hokg : ok g := hR.1 g rfl
  have hgx' : gx ≠ g := fun h => hgx (by rw [h]; rfl)
  obtain ⟨xs, hxse⟩ : ∃ xs, xs = (ps.map recOf).flatMap Rec.enc := ⟨_, rfl⟩
  rw [← hxse] at htk hxs
  have hxl : xs.length = l.length * 8 := by rw [hxs, hlen]
  have htk' : cur.toList.take xs.length = xs := by rw [hxs]; exact htk
  have hcl : cur.toList.length = c * 8 := by rw [Array.length_toList]; exact hcs
  have hfin := ins_shift (ys := encR x Ax cx) (s := 8) (a := i * 8) rfl (by omega) htk' (by omega)
  obtain ⟨cur1, hcur1⟩ : ∃ c1, c1 = shiftL cur.toList xs (encR x Ax cx) (i * 8) 8 := ⟨_, rfl⟩
  rw [← hcur1] at hfin
  obtain ⟨cur2, hcur2⟩ : ∃ c1, c1 = insL cur1 (encR x Ax cx) (i * 8) := ⟨_, rfl⟩
  rw [← hcur2] at hfin
  have h1xs : ∀ v ∈ xs, v.oneCell' = true := by rw [hxse]; exact encs_one _
  have h1ys : ∀ v ∈ encR x Ax cx, v.oneCell' = true := fun u hu => by
    unfold encR at hu
    simp only [List.mem_cons, List.not_mem_nil, or_false] at hu
    rcases hu with rfl | rfl | rfl | rfl | rfl | rfl | rfl | rfl <;> rfl
  have hxc : ∀ j v, xs[j]? = some v → cur[j]? = some v := fun j v hj => by
    have hlt := (List.getElem?_eq_some_iff.1 hj).1
    have h := hj
    rw [← htk', List.getElem?_take, if_pos hlt] at h
    rw [← Array.getElem?_toList]
    exact h
  have hcp1 : ∀ Wq : World, Wq.heap[g]? = some (.cells cur 29 (0, 0)) → ∀ ty dc sc, (Builtin.copy_ #[22, 22] ty #[.slice (some ⟨g, (i + 1) * 8, none⟩) (l.length - i) dc, .slice (some ⟨g, i * 8, none⟩) (l.length + 1 - i) sc]).run Try.prog Wq = .ok (goInt (Nat.min (l.length + 1 - i) (l.length - i))) (Wq.setRow g cur1.toArray) := fun Wq hq ty dc sc => by
    have hm : Nat.min (l.length + 1 - i) (l.length - i) = l.length - i := by simp only [Nat.min_def]; split <;> omega
    rw [run_copy_rowS (P := Try.prog) Wq 22 22 ty 29 g ((i + 1) * 8) (l.length - i) dc ⟨g, i * 8, none⟩ (l.length + 1 - i) sc 8 cur 29 (xs.drop (i * 8)) Try.underlying22 size_rec hq (by rw [hm, List.length_drop]; omega)
      (fun j v hj => by rw [add_at, blk_cell hq]; rw [List.getElem?_drop] at hj; exact hxc _ _ hj) (by rw [List.length_drop]; omega) (fun v hv => h1xs v (List.mem_of_mem_drop hv))]
    rw [hcur1]
    unfold shiftL
    rw [Nat.add_mul, Nat.one_mul]
  have hcp2 : ∀ Wq : World, Wq.heap[g]? = some (.cells cur1.toArray 29 (0, 0)) → Wq.heap[gx]? = some (.cells #[.int .u64 x.f0, .int .u64 x.f1, .int .i64 x.f2, .int .i64 x.f3, .int .u64 x.f4, .bool x.f5, .int .i64 x.f6, .slice Ax x.f7.length cx] 29 (0, 0)) → ∀ ty dc, (Builtin.copy_ #[22, 22] ty #[.slice (some ⟨g, i * 8, none⟩) (l.length + 1 - i) dc, .slice (some ⟨gx, 0, none⟩) 1 1]).run Try.prog Wq = .ok (goInt (Nat.min 1 (l.length + 1 - i))) (Wq.setRow g cur2.toArray) := fun Wq hq hqx ty dc => by
    have hm : Nat.min 1 (l.length + 1 - i) = 1 := by simp only [Nat.min_def]; split <;> omega
    rw [run_copy_rowS (P := Try.prog) Wq 22 22 ty 29 g (i * 8) (l.length + 1 - i) dc ⟨gx, 0, none⟩ 1 1 8 cur1.toArray 29 (encR x Ax cx) Try.underlying22 size_rec hq (by rw [hm]; rfl)
      (fun j v hj => by rw [add_at, Nat.zero_add, blk_cell hqx]; rw [← hj]; unfold encR; rw [← List.getElem?_toArray]) (by rw [List.size_toArray, hfin.1]; show i * 8 + 8 ≤ _; omega) h1ys]
    rw [hcur2]
    unfold insL
    rfl
  have hs1 := fun W => slice_from g l.length c i (by omega) (by omega) W
  have hs2 := fun W => slice_to (some ⟨g, 0, none⟩) l.length c (l.length + 1) hroom W
  have hs3 := fun W => slice_from g (l.length + 1) c (i + 1) (by omega) (by omega) W
  have hs4 := fun W => slice_from g (l.length + 1) c i (by omega) (by omega) W
  have hov := fun lb cb => overlaps_no W gx g ((i + 1) * 8) lb cb hgx' hx hz (by omega)
  have a1 : IntKind.i64.wrap ((l.length : Int) + 1) = ((l.length + 1 : Nat) : Int) := by rw [IntKind.wrap_i64]; omega
  have a2 : IntKind.i64.wrap ((i : Int) + 1) = ((i + 1 : Nat) : Int) := by rw [IntKind.wrap_i64]; omega
  have t1 : ((i : Int) == (l.length : Int)) = false := beq_eq_false_iff_ne.2 (by omega)
  have t2 : decide ((c : Int) < ((l.length + 1 : Nat) : Int)) = false := decide_eq_false (by omega)
  have hA : ∀ Wq : World, Wq = W.drew → Wq.heap[g]? = some (.cells cur 29 (0, 0)) := fun Wq h => by rw [h]; exact hz
  have FIN : Aside0 (∀ w1 w2 : World, w1 = W.drew.setRow g cur1.toArray → w2 = w1.setRow g cur2.toArray → InsTo W w2 (.returned (.slice (some ⟨g, 0, none⟩) (l.length + 1) c)) base ok (some g) (putAt l i x)) := ⟨fun w1 w2 e1 e2 => by
    have hz1 : w1.heap[g]? = some (.cells cur1.toArray 29 (0, 0)) := by rw [e1]; exact setRow_heap W.drew g cur cur1.toArray _ _ hz
    have hz2 : w2.heap[g]? = some (.cells cur2.toArray 29 (0, 0)) := by rw [e2]; exact setRow_heap w1 g cur1.toArray cur2.toArray _ _ hz1
    have hgr : W.grownBy w2 (some g) := by
      rw [e2, e1]
      exact grownBy_row (grownBy_row (⟨rfl, rfl, rfl, Nat.le_refl _, fun _ _ _ => rfl⟩ : W.grownBy W.drew (some g)) _) _
    have hmv : ∀ k, (ok k ∧ k ≠ g) → k < W.heap.size → w2.heap[k]? = W.heap[k]? := fun k hk hlt => hgr.block k hlt (fun e => hk.2 (Option.some.inj e))
    have hne : ∀ k, (ok k ∧ some k ≠ (Value.slice (some (⟨g, 0, none⟩ : Addr)) l.length c).ownBlock) → (ok k ∧ k ≠ g) := fun k hk => ⟨hk.1, fun e => hk.2 (by rw [e]; rfl)⟩
    refine insTo_mk (x := x) (Ax := Ax) (cx := cx) (ps := ps) hps (by omega) hz2 (by rw [List.size_toArray, hfin.2.1]; exact hcl) hroom hcm hgb hokg ?_ (fun p hp => Kd.R_step (Kd.R_mono (hmade p hp) hne) hmv) (Kd.R_step (Kd.R_mono hM hne) hmv) hgr (.inl rfl)
    rw [← hxse]
    exact hfin.2.2⟩
  have HCP1 := Aside0.mk hcp1
  have HCP2 := Aside0.mk hcp2
  have HX := Aside0.mk hx
  have HZ := Aside0.mk hz
  have HNE := Aside0.mk hgx'
  clear hR hM hx hz hcp1 hcp2 hxc h1xs h1ys hfin hcur1 hcur2 htk htk' hxl hxs hxse hmade hps hlen hcl hcs hcm hgb hokg hgx hgx' hA
  go_enter Try.func30, Try.ntmps30
  go_upto_region 15 with (simp only [hov])
  have b1 : (0 : Int) ≤ (i : Int) + 1 := by omega
  have b2 : i ≤ l.length := by omega
  have b3 : ¬ (c = i + 1) := by omega
  have b4 : ¬ (c = i) := by omega
  have b5 : (i : Int) ≤ (l.length : Int) + 1 := by omega
  go_region_law (refine copy_step rfl _ _ 22 rfl (v := .slice (some ⟨g, (i + 1) * 8, none⟩) (l.length - i) (c - (i + 1))) (u := .slice (some ⟨g, i * 8, none⟩) (l.length + 1 - i) (c - i)) (by simp [Act.eval, Act.put]) (by simp [Act.eval, Act.put]) (HCP1.out W.drew HZ.out _ _ _) ?_)
  obtain ⟨W1, hW1⟩ : ∃ W1, W1 = W.drew.setRow g cur1.toArray := ⟨_, rfl⟩
  rw [← hW1]
  have HW1 := Aside0.mk hW1
  have HCP := Aside0.mk (HCP2.out W1 (by rw [hW1]; exact setRow_heap W.drew g cur cur1.toArray _ _ HZ.out) (by rw [hW1]; exact (setRow_other W.drew g gx cur1.toArray HNE.out).trans HX.out))
  clear hW1
  go_wp2_with (refine copy_wp rfl _ _ 22 rfl rfl rfl (HCP.out _ _) ?_)
  go_ret
  exact FIN.out _ _ HW1.out rfl
set_option maxHeartbeats 8000000 in
set_option maxRecDepth 100000 in
theorem insert_grow {W : World} {base gx i : Nat} {l : List R0} {A : Option Addr} {c : Nat} {ok : Nat → Prop} (x : R0) (Ax : Option Addr) (cx : Nat) (hR : k29.R 29 W base ok (.slice A l.length c) l) (hM : (Kd.int .i64).R 3 W base (fun k => ok k ∧ some k ≠ (Value.slice A l.length c).ownBlock) (.slice Ax x.f7.length cx) x.f7)
    (hx : W.heap[gx]? = some (.cells #[.int .u64 x.f0, .int .u64 x.f1, .int .i64 x.f2, .int .i64 x.f3, .int .u64 x.f4, .bool x.f5, .int .i64 x.f6, .slice Ax x.f7.length cx] 29 (0, 0))) (hn : l.length + 1 ≤ 100000) (hi : i < l.length) (hroom : c < l.length + 1) (hs : base ≤ W.heap.size) (hfresh : ∀ k, W.heap.size ≤ k → ok k) :
    Calls Try.prog 30 #[.slice A l.length c, .int .i64 (i : Int), .slice (some ⟨gx, 0, none⟩) 1 1] W fun e w' => InsTo W w' e base ok (Value.slice A l.length c).ownBlock (putAt l i x) := by
  obtain ⟨ps, hps, ho, hmade⟩ := rows_of_R hR
  have hlen : ps.length = l.length := by rw [← hps, List.length_map]
  obtain ⟨hxs, ⟨hv, hn0⟩ | ⟨g, c', cur, hv, hgb, hz, hnc, hcm, hcs, htk⟩⟩ := ho
  · omega
  injection hv with e1 e2 e3
  clear e2
  subst e1 e3
  have hgW : g < W.heap.size := blk_lt hz
  have hxW : gx < W.heap.size := blk_lt hx
  obtain ⟨xs, hxse⟩ : ∃ xs, xs = (ps.map recOf).flatMap Rec.enc := ⟨_, rfl⟩
  rw [← hxse] at htk hxs
  have hxl : xs.length = l.length * 8 := by rw [hxs, hlen]
  have htk' : cur.toList.take xs.length = xs := by rw [hxs]; exact htk
  have hcl : cur.toList.length = c * 8 := by rw [Array.length_toList]; exact hcs
  have h1xs : ∀ v ∈ xs, v.oneCell' = true := by rw [hxse]; exact encs_one _
  have h1ys : ∀ v ∈ encR x Ax cx, v.oneCell' = true := fun u hu => by
    unfold encR at hu
    simp only [List.mem_cons, List.not_mem_nil, or_false] at hu
    rcases hu with rfl | rfl | rfl | rfl | rfl | rfl | rfl | rfl <;> rfl
  have hxc : ∀ j v, xs[j]? = some v → cur[j]? = some v := fun j v hj => by
    have hlt := (List.getElem?_eq_some_iff.1 hj).1
    have h := hj
    rw [← htk', List.getElem?_take, if_pos hlt] at h
    rw [← Array.getElem?_toList]
    exact h
  obtain ⟨i0, hi0, hzz⟩ := Option.map_eq_some_iff.1 inf_rec
  simp only [Prod.mk.injEq] at hzz
  obtain ⟨hz0, hzs, hzb⟩ := hzz
  have hold : (Builtin.firstCells i0.size i (.slice (some ⟨g, 0, none⟩) i c)).run Try.prog W.drew = .ok (xs.take (i * 8)).toArray W.drew := by
    rw [hzs]
    exact run_firstCells_some W.drew 8 i ⟨g, 0, none⟩ i c (xs.take (i * 8)) (by rw [List.length_take]; omega) (fun j v hj => by
      rw [add_at, Nat.zero_add]
      rw [List.getElem?_take] at hj
      split at hj
      · show W.cell? ⟨g, j, none⟩ = some v
        rw [blk_cell hz]
        exact hxc j v hj
      · cases hj)
  have hik : i + (l.length + 1 - i) = l.length + 1 := by omega
  obtain ⟨G, hG⟩ : ∃ G, G = grownCap W (l.length + 1) c 29 := ⟨_, rfl⟩
  have hGn : l.length + 1 ≤ G := by rw [hG]; exact grownCap_ge W _ _ _
  have hGm : G ≤ maxLen := by rw [hG]; exact grownCap_le_maxLen W (l.length + 1) c 29 (by unfold maxLen; omega)
  obtain ⟨Z, hZ⟩ : ∃ Z : Array Value, Z = Builtin.zeroCells zrec.cells (l.length + 1 - i) ++ Builtin.zeroCells zrec.cells (G - (l.length + 1)) := ⟨_, rfl⟩
  have hZl : Z.toList.length = (l.length + 1 - i) * 8 + (G - (l.length + 1)) * 8 := by
    rw [hZ, Array.length_toList, Array.size_append, size_zeroCells, size_zeroCells]
    rfl
  have hrz : ∀ ty, (Builtin.append_ #[22, 3] ty #[.slice (some ⟨g, 0, none⟩) i c, .int .i64 ((l.length : Int) + 1 - (i : Int))]).run Try.prog W =
      .ok (.slice (some ⟨W.heap.size, 0, none⟩) (l.length + 1) G) (W.drew.alloc (.cells (xs.take (i * 8) ++ Z.toList).toArray 29)) := fun ty => by
    have h := Lib.run_append_grow_zeros W 22 3 ty 29 i0 _ .i64 .i64 Try.underlying22 Try.underlying3 hi0 hz0 (some ⟨g, 0, none⟩) i c (xs.take (i * 8)) hold (l.length + 1 - i) (by omega) (by omega) (by omega) (by omega) (by rw [hzb]; omega) (by rw [hzb, hik]; exact growslice_fits hroom (by omega))
    rw [hik, ← hG] at h
    rw [show (l.length : Int) + 1 - (i : Int) = ((l.length + 1 - i : Nat) : Int) by omega, h, hZ, Array.append_assoc]
    congr 4
    simp
  have htl : (xs.take (i * 8)).length = i * 8 := by rw [List.length_take]; omega
  have hl0 : (xs.take (i * 8) ++ Z.toList).length = G * 8 := by rw [List.length_append, htl, hZl]; omega
  have hfin := ins_new (z := Z.toList) (ys := encR x Ax cx) (s := 8) (a := i * 8) (xs := xs) rfl (by omega) (by omega)
  obtain ⟨cur0, hcur0⟩ : ∃ c1, c1 = xs.take (i * 8) ++ Z.toList := ⟨_, rfl⟩
  rw [← hcur0] at hfin hrz hl0
  obtain ⟨cur1, hcur1⟩ : ∃ c1, c1 = insL cur0 (encR x Ax cx) (i * 8) := ⟨_, rfl⟩
  rw [← hcur1] at hfin
  obtain ⟨cur2, hcur2⟩ : ∃ c1, c1 = shiftL cur1 xs (encR x Ax cx) (i * 8) 8 := ⟨_, rfl⟩
  rw [← hcur2] at hfin
  obtain ⟨N, hN⟩ : ∃ N, N = W.heap.size := ⟨_, rfl⟩
  rw [← hN] at hrz hgW hxW
  have hcp1 : ∀ Wq : World, Wq.heap[N]? = some (.cells cur0.toArray 29 (0, 0)) → Wq.heap[gx]? = some (.cells #[.int .u64 x.f0, .int .u64 x.f1, .int .i64 x.f2, .int .i64 x.f3, .int .u64 x.f4, .bool x.f5, .int .i64 x.f6, .slice Ax x.f7.length cx] 29 (0, 0)) → ∀ ty dc, (Builtin.copy_ #[22, 22] ty #[.slice (some ⟨N, i * 8, none⟩) (l.length + 1 - i) dc, .slice (some ⟨gx, 0, none⟩) 1 1]).run Try.prog Wq = .ok (goInt (Nat.min 1 (l.length + 1 - i))) (Wq.setRow N cur1.toArray) := fun Wq hq hqx ty dc => by
    have hm : Nat.min 1 (l.length + 1 - i) = 1 := by simp only [Nat.min_def]; split <;> omega
    rw [run_copy_rowS (P := Try.prog) Wq 22 22 ty 29 N (i * 8) (l.length + 1 - i) dc ⟨gx, 0, none⟩ 1 1 8 cur0.toArray 29 (encR x Ax cx) Try.underlying22 size_rec hq (by rw [hm]; rfl)
      (fun j v hj => by rw [add_at, Nat.zero_add, blk_cell hqx]; rw [← hj]; unfold encR; rw [← List.getElem?_toArray]) (by rw [List.size_toArray, hl0]; show i * 8 + 8 ≤ _; omega) h1ys]
    rw [hcur1]
    unfold insL
    rfl
  have hcp2 : ∀ Wq : World, Wq.heap[N]? = some (.cells cur1.toArray 29 (0, 0)) → Wq.heap[g]? = some (.cells cur 29 (0, 0)) → ∀ ty dc sc, (Builtin.copy_ #[22, 22] ty #[.slice (some ⟨N, (i + 1) * 8, none⟩) (l.length - i) dc, .slice (some ⟨g, i * 8, none⟩) (l.length - i) sc]).run Try.prog Wq = .ok (goInt (Nat.min (l.length - i) (l.length - i))) (Wq.setRow N cur2.toArray) := fun Wq hq hqg ty dc sc => by
    have hm : Nat.min (l.length - i) (l.length - i) = l.length - i := Nat.min_self _
    rw [run_copy_rowS (P := Try.prog) Wq 22 22 ty 29 N ((i + 1) * 8) (l.length - i) dc ⟨g, i * 8, none⟩ (l.length - i) sc 8 cur1.toArray 29 (xs.drop (i * 8)) Try.underlying22 size_rec hq (by rw [hm, List.length_drop]; omega)
      (fun j v hj => by rw [add_at, blk_cell hqg]; rw [List.getElem?_drop] at hj; exact hxc _ _ hj) (by rw [List.size_toArray, hfin.1, List.length_drop, hl0]; omega) (fun v hv => h1xs v (List.mem_of_mem_drop hv))]
    rw [hcur2]
    unfold shiftL
    rw [Nat.add_mul, Nat.one_mul]
  have hs1 := fun W => slice_from g l.length c i (by omega) (by omega) W
  have hs2 := fun W => slice_to (some ⟨g, 0, none⟩) l.length c i (by omega) W
  have hs3 := fun W => slice_from N (l.length + 1) G i (by omega) (by omega) W
  have a1 : IntKind.i64.wrap ((l.length : Int) + 1) = (l.length : Int) + 1 := by rw [IntKind.wrap_i64]; omega
  have a2 : IntKind.i64.wrap ((i : Int) + 1) = (i : Int) + 1 := by rw [IntKind.wrap_i64]; omega
  have a3 : wrap64 ((l.length : Int) + 1 - (i : Int)) = ((l.length + 1 - i : Nat) : Int) := by unfold wrap64; omega
  have t1 : ((i : Int) == (l.length : Int)) = false := beq_eq_false_iff_ne.2 (by omega)
  have t2 : decide ((c : Int) < ((l.length : Int) + 1)) = true := decide_eq_true (by omega)
  have FIN : Aside0 (∀ w0 w1 w2 : World, w0.heap = (W.alloc (.cells cur0.toArray 29)).heap → w0.os = W.os → w0.tape = W.tape → w0.output = W.output → w1.heap = (w0.setRow N cur1.toArray).heap → w1.os = W.os → w1.tape = W.tape → w1.output = W.output → w2 = w1.setRow N cur2.toArray → InsTo W w2 (.returned (.slice (some ⟨N, 0, none⟩) (l.length + 1) G)) base ok (some g) (putAt l i x)) := ⟨fun w0 w1 w2 e0 eo et eu e1 fo ft fu e2 => by
    have hz0 : w0.heap[N]? = some (.cells cur0.toArray 29 (0, 0)) := by rw [e0, hN]; exact heap_alloc_new W _
    have hz1 : w1.heap[N]? = some (.cells cur1.toArray 29 (0, 0)) := by rw [e1]; exact setRow_heap w0 N cur0.toArray cur1.toArray _ _ hz0
    have hz2 : w2.heap[N]? = some (.cells cur2.toArray 29 (0, 0)) := by rw [e2]; exact setRow_heap w1 N cur1.toArray cur2.toArray _ _ hz1
    have hmv : ∀ k, k < N → w2.heap[k]? = W.heap[k]? := fun k hk => by
      rw [e2, setRow_other w1 N k _ (by omega), e1, setRow_other w0 N k _ (by omega), e0]
      exact heap_alloc_old W _ (by omega)
    have hgr : W.grownBy w2 (some g) := by
      refine ⟨by rw [e2]; exact fo, by rw [e2]; exact ft, by rw [e2]; exact fu, ?_, fun k hk _ => hmv k (by omega)⟩
      rw [e2, setRow_size, e1, setRow_size, e0]
      simp
    have hb : ∀ {α : Type} {d : Kd α} {e : Nat} {ok' : Nat → Prop} {v : Value} {xs : List α}, (∀ k, ok' k → ok k) → d.R e W base ok' v xs → d.R e w2 base (fun k => ok k ∧ k ≠ N) v xs := fun ho hR' =>
      Kd.R_mono (Kd.R_step (Kd.R_bound hR') (fun k hk hlt => hmv k (by have := hk.2.2.1; omega))) (fun k hk => ⟨ho k hk.1, by have := hk.2.2.1; omega⟩)
    refine insTo_mk (x := x) (Ax := Ax) (cx := cx) (ps := ps) hps (by omega) hz2 (by rw [List.size_toArray, hfin.2.1]; exact hl0) hGn hGm (by omega) (hfresh N (by omega)) ?_ (fun p hp => hb (fun k hk => hk.1) (hmade p hp)) (hb (fun k hk => hk.1) hM) hgr (.inr (Nat.le_of_eq hN.symm))
    rw [← hxse]
    exact hfin.2.2⟩
  have HCP1 := Aside0.mk hcp1
  have HCP2 := Aside0.mk hcp2
  have HX := Aside0.mk hx
  have HZ := Aside0.mk hz
  have HLT := Aside0.mk (And.intro hgW (And.intro hxW hN))
  have HRZ := Aside0.mk hrz
  have HNC : Aside0 (l.length ≤ c) := ⟨by omega⟩
  clear hR hM hx hz hcp1 hcp2 hxc h1xs h1ys hfin hcur1 hcur2 hcur0 htk htk' hxl hxs hxse hmade hps hlen hcl hcs hcm hgb hrz hold hZ hZl hG hi0 hz0 hzs hzb hik htl hl0 hfresh hgW hxW hN hs
  go_enter Try.func30, Try.ntmps30
  go_upto_region 10 with (at_builtin; refine appz_wp rfl _ _ 22 3 rfl rfl rfl (HRZ.out _) ?_)
  obtain ⟨W0, hW0⟩ : ∃ W0, W0 = (W.alloc (.cells cur0.toArray 29)).drew := ⟨_, rfl⟩
  rw [← hW0]
  have z0 : W0.heap[N]? = some (.cells cur0.toArray 29 (0, 0)) := by rw [hW0, HLT.out.2.2]; exact heap_alloc_new W _
  have zx : W0.heap[gx]? = some (.cells #[.int .u64 x.f0, .int .u64 x.f1, .int .i64 x.f2, .int .i64 x.f3, .int .u64 x.f4, .bool x.f5, .int .i64 x.f6, .slice Ax x.f7.length cx] 29 (0, 0)) := by rw [hW0]; exact (heap_alloc_old W _ (by have := HLT.out; omega)).trans HX.out
  have zg : W0.heap[g]? = some (.cells cur 29 (0, 0)) := by rw [hW0]; exact (heap_alloc_old W _ (by have := HLT.out; omega)).trans HZ.out
  have HC1 := Aside0.mk (HCP1.out W0 z0 zx)
  have HZ0 := Aside0.mk (And.intro z0 zg)
  have HW0 := Aside0.mk hW0
  clear hW0 z0 zx zg
  go_upto_region 11 with (refine copy_wp rfl _ _ 22 rfl rfl rfl (HC1.out _ _) ?_)
  obtain ⟨W1, hW1⟩ : ∃ W1, W1 = W0.setRow N cur1.toArray := ⟨_, rfl⟩
  rw [← hW1]
  have HC2 := Aside0.mk (HCP2.out W1.drew (by rw [hW1]; exact setRow_heap W0 N cur0.toArray cur1.toArray _ _ HZ0.out.1) (by rw [hW1]; exact (setRow_other W0 N g cur1.toArray (by have := HLT.out; omega)).trans HZ0.out.2))
  have HW1 := Aside0.mk hW1
  clear hW1
  clear a1 a2 a3 t1 t2
  have a2 : IntKind.i64.wrap ((i : Int) + 1) = (i : Int) + 1 := by rw [IntKind.wrap_i64]; omega
  have b1 : (0 : Int) ≤ (i : Int) + 1 := by clear a2; omega
  have b2 : i ≤ l.length := by clear a2; omega
  have b3 : ¬ (G = i + 1) := by clear a2; omega
  have b4 : ¬ (c = i) := by have := HNC.out; clear a2; omega
  have b5 : (i : Int) ≤ (l.length : Int) := by clear a2; omega
  go_region_law (refine copy_step rfl _ _ 22 rfl (v := .slice (some ⟨N, (i + 1) * 8, none⟩) (l.length - i) (G - (i + 1))) (u := .slice (some ⟨g, i * 8, none⟩) (l.length - i) (c - i)) (by simp [Act.eval, Act.put]) (by simp [Act.eval, Act.put]) (HC2.out _ _ _) ?_)
  go_wp2_with fail
  go_ret
  exact FIN.out W0 W1.drew _ (by rw [HW0.out]; rfl) (by rw [HW0.out]; rfl) (by rw [HW0.out]; rfl) (by rw [HW0.out]; rfl) (by rw [HW1.out]; rfl) (by rw [HW1.out, HW0.out]; rfl) (by rw [HW1.out, HW0.out]; rfl) (by rw [HW1.out, HW0.out]; rfl) rfl
theorem insert_mid {W : World} {base gx i : Nat} {l : List R0} {A : Option Addr} {c : Nat} {ok : Nat → Prop} (x : R0) (Ax : Option Addr) (cx : Nat) (hR : k29.R 29 W base ok (.slice A l.length c) l) (hc : l.length ≤ c) (hM : (Kd.int .i64).R 3 W base (fun k => ok k ∧ some k ≠ (Value.slice A l.length c).ownBlock) (.slice Ax x.f7.length cx) x.f7)
    (hx : W.heap[gx]? = some (.cells #[.int .u64 x.f0, .int .u64 x.f1, .int .i64 x.f2, .int .i64 x.f3, .int .u64 x.f4, .bool x.f5, .int .i64 x.f6, .slice Ax x.f7.length cx] 29 (0, 0))) (hn : l.length + 1 ≤ 100000) (hs : base ≤ W.heap.size) (hfresh : ∀ k, W.heap.size ≤ k → ok k) (hi : i ≤ l.length) (hgx : some gx ≠ (Value.slice A l.length c).ownBlock) :
    Calls Try.prog 30 #[.slice A l.length c, .int .i64 (i : Int), .slice (some ⟨gx, 0, none⟩) 1 1] W fun e w' => InsTo W w' e base ok (Value.slice A l.length c).ownBlock (putAt l i x) := by
  rcases Nat.lt_or_ge i l.length with h | h
  · rcases Nat.lt_or_ge c (l.length + 1) with h2 | h2
    · exact insert_grow x Ax cx hR hM hx hn h h2 hs hfresh
    · exact insert_room x Ax cx hR hM hx hn h h2 hgx
  · have : i = l.length := by omega
    subst this
    have e : putAt l l.length x = l ++ [x] := by unfold putAt; rw [List.take_length, List.drop_length]
    rw [e]
    exact insert_end x Ax cx hR hc hM hx hn hs hfresh
end Go.Proofs.Ytaepbgieahedjaa.QS
