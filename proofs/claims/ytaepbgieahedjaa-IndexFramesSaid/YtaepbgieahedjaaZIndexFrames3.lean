/- Parts of the proof of the statement IndexFrames, laid together (4 of 6). -/
import Derived.Lib.AppendZerosOnto
import Derived.Lib.Overlaps
import Derived.Laws.CopyRow
import Derived.Laws.IdiomCopy
import Derived.Deep.RegionLaw
import Derived.Test.YtaepbgieahedjaaZIndexFrames2
namespace Go.Proofs.Ytaepbgieahedjaa.Hp
open Go.RowKit Go.Proofs.YtaepbgieahedjaaW.PrintWords Go.Proofs.YtaepbgieahedjaaW.PrintLast Go.Proofs.YtaepbgieahedjaaW.PrintMore
attribute [local go_sem] max2_int min2_int max_two min_two max_three min_three max_four min_four   -- for this text's walks alone
set_option linter.unusedVariables false
set_option linter.unusedSimpArgs false
def wagtailref26_Same.f (k : Nat) (a0_0 : Int) (a0_1 : Int) (a0_2 : Int) (a0_3 : Int) (a0_4 : Int) (a0_5 : Bool) (a0_6 : Int) (l0_7 : List Int) (a1_0 : Int) (a1_1 : Int) (a1_2 : Int) (a1_3 : Int) (a1_4 : Int) (a1_5 : Bool) (a1_6 : Int) (l1_7 : List Int) : Option (Bool) := if a0_0 = a1_0 then (if a0_1 = a1_1 then (if a0_2 = a1_2 then (if a0_3 = a1_3 then (if a0_4 = a1_4 then (if (a0_5 == a1_5) = true then (if a0_6 = a1_6 then ((wagtailref01_Ints.f k l0_7 l1_7).bind fun t181 => (some t181)) else (some false)) else (some false)) else (some false)) else (some false)) else (some false)) else (some false)) else (some false)
theorem wagtailref26_Same.mono : ∀ a0 a1 a2 a3 a4 a5 a6 a7 a8 a9 a10 a11 a12 a13 a14 a15 k, LeO (wagtailref26_Same.f k a0 a1 a2 a3 a4 a5 a6 a7 a8 a9 a10 a11 a12 a13 a14 a15) (wagtailref26_Same.f (k + 1) a0 a1 a2 a3 a4 a5 a6 a7 a8 a9 a10 a11 a12 a13 a14 a15) := by
  intro a0 a1 a2 a3 a4 a5 a6 a7 a8 a9 a10 a11 a12 a13 a14 a15 k
  unfold wagtailref26_Same.f
  repeat' first
      | (with_reducible exact wagtailref01_Ints.mono _ _ _)
      | (with_reducible exact LeO.refl _)
      | (with_reducible exact LeO.none _)
      | (with_reducible refine LeO.ite ?_ ?_)
      | (with_reducible refine LeO.bind ?_ (fun _ => ?_))
      | exact wagtailref01_Ints.mono _ _ _
      | exact LeO.none _
      | refine LeO.ite ?_ ?_
      | refine LeO.bind ?_ (fun _ => ?_)
set_option maxHeartbeats 8000000 in
set_option maxRecDepth 100000 in
theorem wagtailref26_Same.calls (k : Nat) (a0_0 : Int) (a0_1 : Int) (a0_2 : Int) (a0_3 : Int) (a0_4 : Int) (a0_5 : Bool) (a0_6 : Int) (A0_7 : Option Addr) (c0_7 : Nat) (l0_7 : List Int) (a1_0 : Int) (a1_1 : Int) (a1_2 : Int) (a1_3 : Int) (a1_4 : Int) (a1_5 : Bool) (a1_6 : Int) (A1_7 : Option Addr) (c1_7 : Nat) (l1_7 : List Int) (r : Bool) (w : World) (hr0_7 : Kd.C (Kd.int .i64) w A0_7 l0_7.length l0_7) (hc0_7 : l0_7.length ≤ c0_7) (hr1_7 : Kd.C (Kd.int .i64) w A1_7 l1_7.length l1_7) (hc1_7 : l1_7.length ≤ c1_7) (h : wagtailref26_Same.f k a0_0 a0_1 a0_2 a0_3 a0_4 a0_5 a0_6 l0_7 a1_0 a1_1 a1_2 a1_3 a1_4 a1_5 a1_6 l1_7 = some r) :
    Calls Try.prog 11 #[.agg #[.int .u64 a0_0, .int .u64 a0_1, .int .i64 a0_2, .int .i64 a0_3, .int .u64 a0_4, .bool a0_5, .int .i64 a0_6, .slice A0_7 l0_7.length c0_7], .agg #[.int .u64 a1_0, .int .u64 a1_1, .int .i64 a1_2, .int .i64 a1_3, .int .u64 a1_4, .bool a1_5, .int .i64 a1_6, .slice A1_7 l1_7.length c1_7]] w fun e w' => e = .returned (.bool r) ∧ Below w.heap.size w w' := by
  have hu29 := Try.underlying29
  have HR0_7 := Aside0.mk hr0_7
  have HC0_7 := Aside0.mk hc0_7
  clear hr0_7 hc0_7
  have HR1_7 := Aside0.mk hr1_7
  have HC1_7 := Aside0.mk hc1_7
  clear hr1_7 hc1_7
  have HB := Aside0.mk (Below.refl w.heap.size w)
  have H : (if a0_0 = a1_0 then (if a0_1 = a1_1 then (if a0_2 = a1_2 then (if a0_3 = a1_3 then (if a0_4 = a1_4 then (if (a0_5 == a1_5) = true then (if a0_6 = a1_6 then ((wagtailref01_Ints.f k l0_7 l1_7).bind fun t181 => (some t181)) else (some false)) else (some false)) else (some false)) else (some false)) else (some false)) else (some false)) else (some false)) = some r := h
  clear h
  by_cases c3 : a0_0 = a1_0
  · rw [if_pos c3] at H
    have c3b0 : (a0_0 == a1_0) = true := beq_iff_eq.mpr c3
    have c3b1 : (a0_0 != a1_0) = false := bne_eq_false_iff_eq.mpr c3
    clear c3
    by_cases c4 : a0_1 = a1_1
    · rw [if_pos c4] at H
      have c4b0 : (a0_1 == a1_1) = true := beq_iff_eq.mpr c4
      have c4b1 : (a0_1 != a1_1) = false := bne_eq_false_iff_eq.mpr c4
      clear c4
      by_cases c5 : a0_2 = a1_2
      · rw [if_pos c5] at H
        have c5b0 : (a0_2 == a1_2) = true := beq_iff_eq.mpr c5
        have c5b1 : (a0_2 != a1_2) = false := bne_eq_false_iff_eq.mpr c5
        clear c5
        by_cases c6 : a0_3 = a1_3
        · rw [if_pos c6] at H
          have c6b0 : (a0_3 == a1_3) = true := beq_iff_eq.mpr c6
          have c6b1 : (a0_3 != a1_3) = false := bne_eq_false_iff_eq.mpr c6
          clear c6
          by_cases c7 : a0_4 = a1_4
          · rw [if_pos c7] at H
            have c7b0 : (a0_4 == a1_4) = true := beq_iff_eq.mpr c7
            have c7b1 : (a0_4 != a1_4) = false := bne_eq_false_iff_eq.mpr c7
            clear c7
            by_cases c8 : (a0_5 == a1_5) = true
            · rw [if_pos c8] at H
              have c8b0 : (a0_5 == a1_5) = true := c8
              (try (have c8b1 : decide (a0_5 = a1_5) = true := by simpa using c8))
              (try (have c8b2 : (a0_5 == a1_5) = true := by simpa using c8))
              clear c8
              by_cases c9 : a0_6 = a1_6
              · rw [if_pos c9] at H
                have c9b0 : (a0_6 == a1_6) = true := beq_iff_eq.mpr c9
                have c9b1 : (a0_6 != a1_6) = false := bne_eq_false_iff_eq.mpr c9
                clear c9
                replace H := Option.bind_eq_some_iff.mp H
                obtain ⟨t181, A100, H⟩ := H
                replace H : (some t181) = some r := H
                have A10 := Aside0.mk A100
                clear A100
                obtain rfl := Option.some.inj H
                go_enter Try.func11, Try.ntmps11
                go_wp2_with (first | ((with_reducible refine gate_dst (N := 2) rfl ?_); refine box_event ?hg (N := 2) ?hd (cs := #[.int .u64 a0_0, .int .u64 a0_1, .int .i64 a0_2, .int .i64 a0_3, .int .u64 a0_4, .bool a0_5, .int .i64 a0_6, .slice A0_7 l0_7.length c0_7]) (t := 29) ?hr ?_; (case hd => rfl); (case hg => rfl); (case hr => first | (go_simp; done) | (go_simp; rfl)); intro gb179 hg w11 hbox hb; have n0_ := Aside0.mk (below_step (by repeat (first | (with_reducible first | exact HB.out | apply below_alloc | apply pw_below_drewN | apply below_drew1) | exact HB.out)) hb); have n1_ := Aside0.mk (hbox); have n2_ := Aside0.mk ((by rw [hg]; exact (below_size (by repeat (first | (with_reducible first | exact HB.out | apply below_alloc | apply pw_below_drewN | apply below_drew1) | exact HB.out))) : w.heap.size ≤ gb179)); have n3_ := Aside0.mk ((by rw [hg]; exact (below_size (by repeat (first | (with_reducible first | exact HB.out | apply below_alloc | apply pw_below_drewN | apply below_drew1) | exact HB.out))) : w.heap.size ≤ gb179)); clear HB; have HB := n0_; have BK179 := n1_; have GW179 := n2_; have GE179 := n3_; clear n0_ n1_ n2_ n3_; clear hb hbox hg) | ((with_reducible refine gate_dst (N := 3) rfl ?_); refine box_event ?hg (N := 3) ?hd (cs := #[.int .u64 a1_0, .int .u64 a1_1, .int .i64 a1_2, .int .i64 a1_3, .int .u64 a1_4, .bool a1_5, .int .i64 a1_6, .slice A1_7 l1_7.length c1_7]) (t := 29) ?hr ?_; (case hd => rfl); (case hg => rfl); (case hr => first | (go_simp; done) | (go_simp; rfl)); intro gb180 hg w12 hbox hb; have n0_ := Aside0.mk (blk_below (g := gb179) (o := .cells #[.int .u64 a0_0, .int .u64 a0_1, .int .i64 a0_2, .int .i64 a0_3, .int .u64 a0_4, .bool a0_5, .int .i64 a0_6, .slice A0_7 l0_7.length c0_7] 29 (0, 0)) (by (with_reducible repeat (first | refine blk_drewN ?_ _ | refine blk_drew ?_ | refine blk_alloc ?_ _)); exact BK179.out) hb); have n1_ := Aside0.mk (below_step (by repeat (first | (with_reducible first | exact HB.out | apply below_alloc | apply pw_below_drewN | apply below_drew1 | refine below_set ?_ GE179.out) | exact HB.out)) hb); have n2_ := Aside0.mk (hbox); have n3_ := Aside0.mk ((by rw [hg]; exact (below_size (by repeat (first | (with_reducible first | exact HB.out | apply below_alloc | apply pw_below_drewN | apply below_drew1 | refine below_set ?_ GE179.out) | exact HB.out))) : w.heap.size ≤ gb180)); have n4_ := Aside0.mk ((by rw [hg]; exact (below_size (by repeat (first | (with_reducible first | exact HB.out | apply below_alloc | apply pw_below_drewN | apply below_drew1 | refine below_set ?_ GE179.out) | exact HB.out))) : w.heap.size ≤ gb180)); have n5_ := Aside0.mk ((by rw [hg]; exact Nat.ne_of_lt (blk_lt (g := gb179) (o := .cells #[.int .u64 a0_0, .int .u64 a0_1, .int .i64 a0_2, .int .i64 a0_3, .int .u64 a0_4, .bool a0_5, .int .i64 a0_6, .slice A0_7 l0_7.length c0_7] 29 (0, 0)) (by (with_reducible repeat (first | refine blk_drewN ?_ _ | refine blk_drew ?_ | refine blk_alloc ?_ _)); exact BK179.out)) : gb179 ≠ gb180)); have n6_ := Aside0.mk ((by rw [hg]; exact Nat.ne_of_gt (blk_lt (g := gb179) (o := .cells #[.int .u64 a0_0, .int .u64 a0_1, .int .i64 a0_2, .int .i64 a0_3, .int .u64 a0_4, .bool a0_5, .int .i64 a0_6, .slice A0_7 l0_7.length c0_7] 29 (0, 0)) (by (with_reducible repeat (first | refine blk_drewN ?_ _ | refine blk_drew ?_ | refine blk_alloc ?_ _)); exact BK179.out)) : gb180 ≠ gb179)); clear BK179; clear HB; have BK179 := n0_; have HB := n1_; have BK180 := n2_; have GW180 := n3_; have GE180 := n4_; have NB179_180 := n5_; have NB180_179 := n6_; clear n0_ n1_ n2_ n3_ n4_ n5_ n6_; clear hb hbox hg; have hnb13 := NB179_180.out; have hnc13 := NB180_179.out; have hcz14_0 : w12.cell? ⟨gb179, 0, none⟩ = some (.int .u64 a0_0) := (blk_cell BK179.out 0).trans rfl; have hcz14_1 : w12.cell? ⟨gb179, 1, none⟩ = some (.int .u64 a0_1) := (blk_cell BK179.out 1).trans rfl; have hcz14_2 : w12.cell? ⟨gb179, 2, none⟩ = some (.int .i64 a0_2) := (blk_cell BK179.out 2).trans rfl; have hcz14_3 : w12.cell? ⟨gb179, 3, none⟩ = some (.int .i64 a0_3) := (blk_cell BK179.out 3).trans rfl; have hcz14_4 : w12.cell? ⟨gb179, 4, none⟩ = some (.int .u64 a0_4) := (blk_cell BK179.out 4).trans rfl; have hcz14_5 : w12.cell? ⟨gb179, 5, none⟩ = some (.bool a0_5) := (blk_cell BK179.out 5).trans rfl; have hcz14_6 : w12.cell? ⟨gb179, 6, none⟩ = some (.int .i64 a0_6) := (blk_cell BK179.out 6).trans rfl; have hcz14_7 : w12.cell? ⟨gb179, 7, none⟩ = some (.slice A0_7 l0_7.length c0_7) := (blk_cell BK179.out 7).trans rfl; have hfz14_0 := blk_frozen BK179.out 0; have hfz14_1 := blk_frozen BK179.out 1; have hfz14_2 := blk_frozen BK179.out 2; have hfz14_3 := blk_frozen BK179.out 3; have hfz14_4 := blk_frozen BK179.out 4; have hfz14_5 := blk_frozen BK179.out 5; have hfz14_6 := blk_frozen BK179.out 6; have hfz14_7 := blk_frozen BK179.out 7; have hcz15_0 : w12.cell? ⟨gb180, 0, none⟩ = some (.int .u64 a1_0) := (blk_cell BK180.out 0).trans rfl; have hcz15_1 : w12.cell? ⟨gb180, 1, none⟩ = some (.int .u64 a1_1) := (blk_cell BK180.out 1).trans rfl; have hcz15_2 : w12.cell? ⟨gb180, 2, none⟩ = some (.int .i64 a1_2) := (blk_cell BK180.out 2).trans rfl; have hcz15_3 : w12.cell? ⟨gb180, 3, none⟩ = some (.int .i64 a1_3) := (blk_cell BK180.out 3).trans rfl; have hcz15_4 : w12.cell? ⟨gb180, 4, none⟩ = some (.int .u64 a1_4) := (blk_cell BK180.out 4).trans rfl; have hcz15_5 : w12.cell? ⟨gb180, 5, none⟩ = some (.bool a1_5) := (blk_cell BK180.out 5).trans rfl; have hcz15_6 : w12.cell? ⟨gb180, 6, none⟩ = some (.int .i64 a1_6) := (blk_cell BK180.out 6).trans rfl; have hcz15_7 : w12.cell? ⟨gb180, 7, none⟩ = some (.slice A1_7 l1_7.length c1_7) := (blk_cell BK180.out 7).trans rfl; have hfz15_0 := blk_frozen BK180.out 0; have hfz15_1 := blk_frozen BK180.out 1; have hfz15_2 := blk_frozen BK180.out 2; have hfz15_3 := blk_frozen BK180.out 3; have hfz15_4 := blk_frozen BK180.out 4; have hfz15_5 := blk_frozen BK180.out 5; have hfz15_6 := blk_frozen BK180.out 6; have hfz15_7 := blk_frozen BK180.out 7) | (go_at_call 12; (with_reducible refine (wagtailref01_Ints.calls k _ _ l0_7 _ _ l1_7 t181 _ ?side1 ?side2 ?side3 ?side4 A10.out).mono ?_); (case side1 => repeat (first | exact (Kd.C_below HR0_7.out HB.out) | (with_reducible refine Kd.C_alloc ?_ _) | (with_reducible refine Kd.C_drewN ?_ _) | (with_reducible refine Kd.C_drew ?_))); (case side2 => exact HC0_7.out); (case side3 => repeat (first | exact (Kd.C_below HR1_7.out HB.out) | (with_reducible refine Kd.C_alloc ?_ _) | (with_reducible refine Kd.C_drewN ?_ _) | (with_reducible refine Kd.C_drew ?_))); (case side4 => exact HC1_7.out); rintro e w' ⟨rfl, ⟨nd, rfl⟩⟩))
                go_ret
                exact ⟨by first | rfl | (simp [errW_none, errW_some] <;> rfl) | (simp [*, errW_none, errW_some] <;> rfl), by repeat (first | (with_reducible first | exact HB.out | apply below_alloc | apply pw_below_drewN | apply below_drew1 | refine below_set ?_ GE179.out | refine below_set ?_ GE180.out) | exact HB.out)⟩
              · rw [if_neg c9] at H
                have c9b0 : (a0_6 == a1_6) = false := beq_eq_false_iff_ne.mpr c9
                have c9b1 : (a0_6 != a1_6) = true := bne_iff_ne.mpr c9
                obtain rfl := Option.some.inj H
                go_enter Try.func11, Try.ntmps11
                go_wp2_with (first | ((with_reducible refine gate_dst (N := 2) rfl ?_); refine box_event ?hg (N := 2) ?hd (cs := #[.int .u64 a0_0, .int .u64 a0_1, .int .i64 a0_2, .int .i64 a0_3, .int .u64 a0_4, .bool a0_5, .int .i64 a0_6, .slice A0_7 l0_7.length c0_7]) (t := 29) ?hr ?_; (case hd => rfl); (case hg => rfl); (case hr => first | (go_simp; done) | (go_simp; rfl)); intro gb179 hg w16 hbox hb; have n0_ := Aside0.mk (below_step (by repeat (first | (with_reducible first | exact HB.out | apply below_alloc | apply pw_below_drewN | apply below_drew1) | exact HB.out)) hb); have n1_ := Aside0.mk (hbox); have n2_ := Aside0.mk ((by rw [hg]; exact (below_size (by repeat (first | (with_reducible first | exact HB.out | apply below_alloc | apply pw_below_drewN | apply below_drew1) | exact HB.out))) : w.heap.size ≤ gb179)); have n3_ := Aside0.mk ((by rw [hg]; exact (below_size (by repeat (first | (with_reducible first | exact HB.out | apply below_alloc | apply pw_below_drewN | apply below_drew1) | exact HB.out))) : w.heap.size ≤ gb179)); clear HB; have HB := n0_; have BK179 := n1_; have GW179 := n2_; have GE179 := n3_; clear n0_ n1_ n2_ n3_; clear hb hbox hg) | ((with_reducible refine gate_dst (N := 3) rfl ?_); refine box_event ?hg (N := 3) ?hd (cs := #[.int .u64 a1_0, .int .u64 a1_1, .int .i64 a1_2, .int .i64 a1_3, .int .u64 a1_4, .bool a1_5, .int .i64 a1_6, .slice A1_7 l1_7.length c1_7]) (t := 29) ?hr ?_; (case hd => rfl); (case hg => rfl); (case hr => first | (go_simp; done) | (go_simp; rfl)); intro gb180 hg w17 hbox hb; have n0_ := Aside0.mk (blk_below (g := gb179) (o := .cells #[.int .u64 a0_0, .int .u64 a0_1, .int .i64 a0_2, .int .i64 a0_3, .int .u64 a0_4, .bool a0_5, .int .i64 a0_6, .slice A0_7 l0_7.length c0_7] 29 (0, 0)) (by (with_reducible repeat (first | refine blk_drewN ?_ _ | refine blk_drew ?_ | refine blk_alloc ?_ _)); exact BK179.out) hb); have n1_ := Aside0.mk (below_step (by repeat (first | (with_reducible first | exact HB.out | apply below_alloc | apply pw_below_drewN | apply below_drew1 | refine below_set ?_ GE179.out) | exact HB.out)) hb); have n2_ := Aside0.mk (hbox); have n3_ := Aside0.mk ((by rw [hg]; exact (below_size (by repeat (first | (with_reducible first | exact HB.out | apply below_alloc | apply pw_below_drewN | apply below_drew1 | refine below_set ?_ GE179.out) | exact HB.out))) : w.heap.size ≤ gb180)); have n4_ := Aside0.mk ((by rw [hg]; exact (below_size (by repeat (first | (with_reducible first | exact HB.out | apply below_alloc | apply pw_below_drewN | apply below_drew1 | refine below_set ?_ GE179.out) | exact HB.out))) : w.heap.size ≤ gb180)); have n5_ := Aside0.mk ((by rw [hg]; exact Nat.ne_of_lt (blk_lt (g := gb179) (o := .cells #[.int .u64 a0_0, .int .u64 a0_1, .int .i64 a0_2, .int .i64 a0_3, .int .u64 a0_4, .bool a0_5, .int .i64 a0_6, .slice A0_7 l0_7.length c0_7] 29 (0, 0)) (by (with_reducible repeat (first | refine blk_drewN ?_ _ | refine blk_drew ?_ | refine blk_alloc ?_ _)); exact BK179.out)) : gb179 ≠ gb180)); have n6_ := Aside0.mk ((by rw [hg]; exact Nat.ne_of_gt (blk_lt (g := gb179) (o := .cells #[.int .u64 a0_0, .int .u64 a0_1, .int .i64 a0_2, .int .i64 a0_3, .int .u64 a0_4, .bool a0_5, .int .i64 a0_6, .slice A0_7 l0_7.length c0_7] 29 (0, 0)) (by (with_reducible repeat (first | refine blk_drewN ?_ _ | refine blk_drew ?_ | refine blk_alloc ?_ _)); exact BK179.out)) : gb180 ≠ gb179)); clear BK179; clear HB; have BK179 := n0_; have HB := n1_; have BK180 := n2_; have GW180 := n3_; have GE180 := n4_; have NB179_180 := n5_; have NB180_179 := n6_; clear n0_ n1_ n2_ n3_ n4_ n5_ n6_; clear hb hbox hg; have hnb18 := NB179_180.out; have hnc18 := NB180_179.out; have hcz19_0 : w17.cell? ⟨gb179, 0, none⟩ = some (.int .u64 a0_0) := (blk_cell BK179.out 0).trans rfl; have hcz19_1 : w17.cell? ⟨gb179, 1, none⟩ = some (.int .u64 a0_1) := (blk_cell BK179.out 1).trans rfl; have hcz19_2 : w17.cell? ⟨gb179, 2, none⟩ = some (.int .i64 a0_2) := (blk_cell BK179.out 2).trans rfl; have hcz19_3 : w17.cell? ⟨gb179, 3, none⟩ = some (.int .i64 a0_3) := (blk_cell BK179.out 3).trans rfl; have hcz19_4 : w17.cell? ⟨gb179, 4, none⟩ = some (.int .u64 a0_4) := (blk_cell BK179.out 4).trans rfl; have hcz19_5 : w17.cell? ⟨gb179, 5, none⟩ = some (.bool a0_5) := (blk_cell BK179.out 5).trans rfl; have hcz19_6 : w17.cell? ⟨gb179, 6, none⟩ = some (.int .i64 a0_6) := (blk_cell BK179.out 6).trans rfl; have hcz19_7 : w17.cell? ⟨gb179, 7, none⟩ = some (.slice A0_7 l0_7.length c0_7) := (blk_cell BK179.out 7).trans rfl; have hfz19_0 := blk_frozen BK179.out 0; have hfz19_1 := blk_frozen BK179.out 1; have hfz19_2 := blk_frozen BK179.out 2; have hfz19_3 := blk_frozen BK179.out 3; have hfz19_4 := blk_frozen BK179.out 4; have hfz19_5 := blk_frozen BK179.out 5; have hfz19_6 := blk_frozen BK179.out 6; have hfz19_7 := blk_frozen BK179.out 7; have hcz20_0 : w17.cell? ⟨gb180, 0, none⟩ = some (.int .u64 a1_0) := (blk_cell BK180.out 0).trans rfl; have hcz20_1 : w17.cell? ⟨gb180, 1, none⟩ = some (.int .u64 a1_1) := (blk_cell BK180.out 1).trans rfl; have hcz20_2 : w17.cell? ⟨gb180, 2, none⟩ = some (.int .i64 a1_2) := (blk_cell BK180.out 2).trans rfl; have hcz20_3 : w17.cell? ⟨gb180, 3, none⟩ = some (.int .i64 a1_3) := (blk_cell BK180.out 3).trans rfl; have hcz20_4 : w17.cell? ⟨gb180, 4, none⟩ = some (.int .u64 a1_4) := (blk_cell BK180.out 4).trans rfl; have hcz20_5 : w17.cell? ⟨gb180, 5, none⟩ = some (.bool a1_5) := (blk_cell BK180.out 5).trans rfl; have hcz20_6 : w17.cell? ⟨gb180, 6, none⟩ = some (.int .i64 a1_6) := (blk_cell BK180.out 6).trans rfl; have hcz20_7 : w17.cell? ⟨gb180, 7, none⟩ = some (.slice A1_7 l1_7.length c1_7) := (blk_cell BK180.out 7).trans rfl; have hfz20_0 := blk_frozen BK180.out 0; have hfz20_1 := blk_frozen BK180.out 1; have hfz20_2 := blk_frozen BK180.out 2; have hfz20_3 := blk_frozen BK180.out 3; have hfz20_4 := blk_frozen BK180.out 4; have hfz20_5 := blk_frozen BK180.out 5; have hfz20_6 := blk_frozen BK180.out 6; have hfz20_7 := blk_frozen BK180.out 7))
                go_ret
                exact ⟨by first | rfl | (simp [errW_none, errW_some] <;> rfl) | (simp [*, errW_none, errW_some] <;> rfl), by repeat (first | (with_reducible first | exact HB.out | apply below_alloc | apply pw_below_drewN | apply below_drew1 | refine below_set ?_ GE179.out | refine below_set ?_ GE180.out) | exact HB.out)⟩
            · rw [if_neg c8] at H
              have c8b0 : (a0_5 == a1_5) = false := by simpa using c8
              (try (have c8b1 : decide (a0_5 = a1_5) = false := by simpa using c8))
              (try (have c8b2 : (a0_5 == a1_5) = false := by simpa using c8))
              (try (have c8b3 : ¬ (a0_5 = a1_5) := by simpa using c8))
              clear c8
              obtain rfl := Option.some.inj H
              go_enter Try.func11, Try.ntmps11
              go_wp2_with (first | ((with_reducible refine gate_dst (N := 2) rfl ?_); refine box_event ?hg (N := 2) ?hd (cs := #[.int .u64 a0_0, .int .u64 a0_1, .int .i64 a0_2, .int .i64 a0_3, .int .u64 a0_4, .bool a0_5, .int .i64 a0_6, .slice A0_7 l0_7.length c0_7]) (t := 29) ?hr ?_; (case hd => rfl); (case hg => rfl); (case hr => first | (go_simp; done) | (go_simp; rfl)); intro gb179 hg w21 hbox hb; have n0_ := Aside0.mk (below_step (by repeat (first | (with_reducible first | exact HB.out | apply below_alloc | apply pw_below_drewN | apply below_drew1) | exact HB.out)) hb); have n1_ := Aside0.mk (hbox); have n2_ := Aside0.mk ((by rw [hg]; exact (below_size (by repeat (first | (with_reducible first | exact HB.out | apply below_alloc | apply pw_below_drewN | apply below_drew1) | exact HB.out))) : w.heap.size ≤ gb179)); have n3_ := Aside0.mk ((by rw [hg]; exact (below_size (by repeat (first | (with_reducible first | exact HB.out | apply below_alloc | apply pw_below_drewN | apply below_drew1) | exact HB.out))) : w.heap.size ≤ gb179)); clear HB; have HB := n0_; have BK179 := n1_; have GW179 := n2_; have GE179 := n3_; clear n0_ n1_ n2_ n3_; clear hb hbox hg) | ((with_reducible refine gate_dst (N := 3) rfl ?_); refine box_event ?hg (N := 3) ?hd (cs := #[.int .u64 a1_0, .int .u64 a1_1, .int .i64 a1_2, .int .i64 a1_3, .int .u64 a1_4, .bool a1_5, .int .i64 a1_6, .slice A1_7 l1_7.length c1_7]) (t := 29) ?hr ?_; (case hd => rfl); (case hg => rfl); (case hr => first | (go_simp; done) | (go_simp; rfl)); intro gb180 hg w22 hbox hb; have n0_ := Aside0.mk (blk_below (g := gb179) (o := .cells #[.int .u64 a0_0, .int .u64 a0_1, .int .i64 a0_2, .int .i64 a0_3, .int .u64 a0_4, .bool a0_5, .int .i64 a0_6, .slice A0_7 l0_7.length c0_7] 29 (0, 0)) (by (with_reducible repeat (first | refine blk_drewN ?_ _ | refine blk_drew ?_ | refine blk_alloc ?_ _)); exact BK179.out) hb); have n1_ := Aside0.mk (below_step (by repeat (first | (with_reducible first | exact HB.out | apply below_alloc | apply pw_below_drewN | apply below_drew1 | refine below_set ?_ GE179.out) | exact HB.out)) hb); have n2_ := Aside0.mk (hbox); have n3_ := Aside0.mk ((by rw [hg]; exact (below_size (by repeat (first | (with_reducible first | exact HB.out | apply below_alloc | apply pw_below_drewN | apply below_drew1 | refine below_set ?_ GE179.out) | exact HB.out))) : w.heap.size ≤ gb180)); have n4_ := Aside0.mk ((by rw [hg]; exact (below_size (by repeat (first | (with_reducible first | exact HB.out | apply below_alloc | apply pw_below_drewN | apply below_drew1 | refine below_set ?_ GE179.out) | exact HB.out))) : w.heap.size ≤ gb180)); have n5_ := Aside0.mk ((by rw [hg]; exact Nat.ne_of_lt (blk_lt (g := gb179) (o := .cells #[.int .u64 a0_0, .int .u64 a0_1, .int .i64 a0_2, .int .i64 a0_3, .int .u64 a0_4, .bool a0_5, .int .i64 a0_6, .slice A0_7 l0_7.length c0_7] 29 (0, 0)) (by (with_reducible repeat (first | refine blk_drewN ?_ _ | refine blk_drew ?_ | refine blk_alloc ?_ _)); exact BK179.out)) : gb179 ≠ gb180)); have n6_ := Aside0.mk ((by rw [hg]; exact Nat.ne_of_gt (blk_lt (g := gb179) (o := .cells #[.int .u64 a0_0, .int .u64 a0_1, .int .i64 a0_2, .int .i64 a0_3, .int .u64 a0_4, .bool a0_5, .int .i64 a0_6, .slice A0_7 l0_7.length c0_7] 29 (0, 0)) (by (with_reducible repeat (first | refine blk_drewN ?_ _ | refine blk_drew ?_ | refine blk_alloc ?_ _)); exact BK179.out)) : gb180 ≠ gb179)); clear BK179; clear HB; have BK179 := n0_; have HB := n1_; have BK180 := n2_; have GW180 := n3_; have GE180 := n4_; have NB179_180 := n5_; have NB180_179 := n6_; clear n0_ n1_ n2_ n3_ n4_ n5_ n6_; clear hb hbox hg; have hnb23 := NB179_180.out; have hnc23 := NB180_179.out; have hcz24_0 : w22.cell? ⟨gb179, 0, none⟩ = some (.int .u64 a0_0) := (blk_cell BK179.out 0).trans rfl; have hcz24_1 : w22.cell? ⟨gb179, 1, none⟩ = some (.int .u64 a0_1) := (blk_cell BK179.out 1).trans rfl; have hcz24_2 : w22.cell? ⟨gb179, 2, none⟩ = some (.int .i64 a0_2) := (blk_cell BK179.out 2).trans rfl; have hcz24_3 : w22.cell? ⟨gb179, 3, none⟩ = some (.int .i64 a0_3) := (blk_cell BK179.out 3).trans rfl; have hcz24_4 : w22.cell? ⟨gb179, 4, none⟩ = some (.int .u64 a0_4) := (blk_cell BK179.out 4).trans rfl; have hcz24_5 : w22.cell? ⟨gb179, 5, none⟩ = some (.bool a0_5) := (blk_cell BK179.out 5).trans rfl; have hcz24_6 : w22.cell? ⟨gb179, 6, none⟩ = some (.int .i64 a0_6) := (blk_cell BK179.out 6).trans rfl; have hcz24_7 : w22.cell? ⟨gb179, 7, none⟩ = some (.slice A0_7 l0_7.length c0_7) := (blk_cell BK179.out 7).trans rfl; have hfz24_0 := blk_frozen BK179.out 0; have hfz24_1 := blk_frozen BK179.out 1; have hfz24_2 := blk_frozen BK179.out 2; have hfz24_3 := blk_frozen BK179.out 3; have hfz24_4 := blk_frozen BK179.out 4; have hfz24_5 := blk_frozen BK179.out 5; have hfz24_6 := blk_frozen BK179.out 6; have hfz24_7 := blk_frozen BK179.out 7; have hcz25_0 : w22.cell? ⟨gb180, 0, none⟩ = some (.int .u64 a1_0) := (blk_cell BK180.out 0).trans rfl; have hcz25_1 : w22.cell? ⟨gb180, 1, none⟩ = some (.int .u64 a1_1) := (blk_cell BK180.out 1).trans rfl; have hcz25_2 : w22.cell? ⟨gb180, 2, none⟩ = some (.int .i64 a1_2) := (blk_cell BK180.out 2).trans rfl; have hcz25_3 : w22.cell? ⟨gb180, 3, none⟩ = some (.int .i64 a1_3) := (blk_cell BK180.out 3).trans rfl; have hcz25_4 : w22.cell? ⟨gb180, 4, none⟩ = some (.int .u64 a1_4) := (blk_cell BK180.out 4).trans rfl; have hcz25_5 : w22.cell? ⟨gb180, 5, none⟩ = some (.bool a1_5) := (blk_cell BK180.out 5).trans rfl; have hcz25_6 : w22.cell? ⟨gb180, 6, none⟩ = some (.int .i64 a1_6) := (blk_cell BK180.out 6).trans rfl; have hcz25_7 : w22.cell? ⟨gb180, 7, none⟩ = some (.slice A1_7 l1_7.length c1_7) := (blk_cell BK180.out 7).trans rfl; have hfz25_0 := blk_frozen BK180.out 0; have hfz25_1 := blk_frozen BK180.out 1; have hfz25_2 := blk_frozen BK180.out 2; have hfz25_3 := blk_frozen BK180.out 3; have hfz25_4 := blk_frozen BK180.out 4; have hfz25_5 := blk_frozen BK180.out 5; have hfz25_6 := blk_frozen BK180.out 6; have hfz25_7 := blk_frozen BK180.out 7))
              go_ret
              exact ⟨by first | rfl | (simp [errW_none, errW_some] <;> rfl) | (simp [*, errW_none, errW_some] <;> rfl), by repeat (first | (with_reducible first | exact HB.out | apply below_alloc | apply pw_below_drewN | apply below_drew1 | refine below_set ?_ GE179.out | refine below_set ?_ GE180.out) | exact HB.out)⟩
          · rw [if_neg c7] at H
            have c7b0 : (a0_4 == a1_4) = false := beq_eq_false_iff_ne.mpr c7
            have c7b1 : (a0_4 != a1_4) = true := bne_iff_ne.mpr c7
            obtain rfl := Option.some.inj H
            go_enter Try.func11, Try.ntmps11
            go_wp2_with (first | ((with_reducible refine gate_dst (N := 2) rfl ?_); refine box_event ?hg (N := 2) ?hd (cs := #[.int .u64 a0_0, .int .u64 a0_1, .int .i64 a0_2, .int .i64 a0_3, .int .u64 a0_4, .bool a0_5, .int .i64 a0_6, .slice A0_7 l0_7.length c0_7]) (t := 29) ?hr ?_; (case hd => rfl); (case hg => rfl); (case hr => first | (go_simp; done) | (go_simp; rfl)); intro gb179 hg w26 hbox hb; have n0_ := Aside0.mk (below_step (by repeat (first | (with_reducible first | exact HB.out | apply below_alloc | apply pw_below_drewN | apply below_drew1) | exact HB.out)) hb); have n1_ := Aside0.mk (hbox); have n2_ := Aside0.mk ((by rw [hg]; exact (below_size (by repeat (first | (with_reducible first | exact HB.out | apply below_alloc | apply pw_below_drewN | apply below_drew1) | exact HB.out))) : w.heap.size ≤ gb179)); have n3_ := Aside0.mk ((by rw [hg]; exact (below_size (by repeat (first | (with_reducible first | exact HB.out | apply below_alloc | apply pw_below_drewN | apply below_drew1) | exact HB.out))) : w.heap.size ≤ gb179)); clear HB; have HB := n0_; have BK179 := n1_; have GW179 := n2_; have GE179 := n3_; clear n0_ n1_ n2_ n3_; clear hb hbox hg) | ((with_reducible refine gate_dst (N := 3) rfl ?_); refine box_event ?hg (N := 3) ?hd (cs := #[.int .u64 a1_0, .int .u64 a1_1, .int .i64 a1_2, .int .i64 a1_3, .int .u64 a1_4, .bool a1_5, .int .i64 a1_6, .slice A1_7 l1_7.length c1_7]) (t := 29) ?hr ?_; (case hd => rfl); (case hg => rfl); (case hr => first | (go_simp; done) | (go_simp; rfl)); intro gb180 hg w27 hbox hb; have n0_ := Aside0.mk (blk_below (g := gb179) (o := .cells #[.int .u64 a0_0, .int .u64 a0_1, .int .i64 a0_2, .int .i64 a0_3, .int .u64 a0_4, .bool a0_5, .int .i64 a0_6, .slice A0_7 l0_7.length c0_7] 29 (0, 0)) (by (with_reducible repeat (first | refine blk_drewN ?_ _ | refine blk_drew ?_ | refine blk_alloc ?_ _)); exact BK179.out) hb); have n1_ := Aside0.mk (below_step (by repeat (first | (with_reducible first | exact HB.out | apply below_alloc | apply pw_below_drewN | apply below_drew1 | refine below_set ?_ GE179.out) | exact HB.out)) hb); have n2_ := Aside0.mk (hbox); have n3_ := Aside0.mk ((by rw [hg]; exact (below_size (by repeat (first | (with_reducible first | exact HB.out | apply below_alloc | apply pw_below_drewN | apply below_drew1 | refine below_set ?_ GE179.out) | exact HB.out))) : w.heap.size ≤ gb180)); have n4_ := Aside0.mk ((by rw [hg]; exact (below_size (by repeat (first | (with_reducible first | exact HB.out | apply below_alloc | apply pw_below_drewN | apply below_drew1 | refine below_set ?_ GE179.out) | exact HB.out))) : w.heap.size ≤ gb180)); have n5_ := Aside0.mk ((by rw [hg]; exact Nat.ne_of_lt (blk_lt (g := gb179) (o := .cells #[.int .u64 a0_0, .int .u64 a0_1, .int .i64 a0_2, .int .i64 a0_3, .int .u64 a0_4, .bool a0_5, .int .i64 a0_6, .slice A0_7 l0_7.length c0_7] 29 (0, 0)) (by (with_reducible repeat (first | refine blk_drewN ?_ _ | refine blk_drew ?_ | refine blk_alloc ?_ _)); exact BK179.out)) : gb179 ≠ gb180)); have n6_ := Aside0.mk ((by rw [hg]; exact Nat.ne_of_gt (blk_lt (g := gb179) (o := .cells #[.int .u64 a0_0, .int .u64 a0_1, .int .i64 a0_2, .int .i64 a0_3, .int .u64 a0_4, .bool a0_5, .int .i64 a0_6, .slice A0_7 l0_7.length c0_7] 29 (0, 0)) (by (with_reducible repeat (first | refine blk_drewN ?_ _ | refine blk_drew ?_ | refine blk_alloc ?_ _)); exact BK179.out)) : gb180 ≠ gb179)); clear BK179; clear HB; have BK179 := n0_; have HB := n1_; have BK180 := n2_; have GW180 := n3_; have GE180 := n4_; have NB179_180 := n5_; have NB180_179 := n6_; clear n0_ n1_ n2_ n3_ n4_ n5_ n6_; clear hb hbox hg; have hnb28 := NB179_180.out; have hnc28 := NB180_179.out; have hcz29_0 : w27.cell? ⟨gb179, 0, none⟩ = some (.int .u64 a0_0) := (blk_cell BK179.out 0).trans rfl; have hcz29_1 : w27.cell? ⟨gb179, 1, none⟩ = some (.int .u64 a0_1) := (blk_cell BK179.out 1).trans rfl; have hcz29_2 : w27.cell? ⟨gb179, 2, none⟩ = some (.int .i64 a0_2) := (blk_cell BK179.out 2).trans rfl; have hcz29_3 : w27.cell? ⟨gb179, 3, none⟩ = some (.int .i64 a0_3) := (blk_cell BK179.out 3).trans rfl; have hcz29_4 : w27.cell? ⟨gb179, 4, none⟩ = some (.int .u64 a0_4) := (blk_cell BK179.out 4).trans rfl; have hcz29_5 : w27.cell? ⟨gb179, 5, none⟩ = some (.bool a0_5) := (blk_cell BK179.out 5).trans rfl; have hcz29_6 : w27.cell? ⟨gb179, 6, none⟩ = some (.int .i64 a0_6) := (blk_cell BK179.out 6).trans rfl; have hcz29_7 : w27.cell? ⟨gb179, 7, none⟩ = some (.slice A0_7 l0_7.length c0_7) := (blk_cell BK179.out 7).trans rfl; have hfz29_0 := blk_frozen BK179.out 0; have hfz29_1 := blk_frozen BK179.out 1; have hfz29_2 := blk_frozen BK179.out 2; have hfz29_3 := blk_frozen BK179.out 3; have hfz29_4 := blk_frozen BK179.out 4; have hfz29_5 := blk_frozen BK179.out 5; have hfz29_6 := blk_frozen BK179.out 6; have hfz29_7 := blk_frozen BK179.out 7; have hcz30_0 : w27.cell? ⟨gb180, 0, none⟩ = some (.int .u64 a1_0) := (blk_cell BK180.out 0).trans rfl; have hcz30_1 : w27.cell? ⟨gb180, 1, none⟩ = some (.int .u64 a1_1) := (blk_cell BK180.out 1).trans rfl; have hcz30_2 : w27.cell? ⟨gb180, 2, none⟩ = some (.int .i64 a1_2) := (blk_cell BK180.out 2).trans rfl; have hcz30_3 : w27.cell? ⟨gb180, 3, none⟩ = some (.int .i64 a1_3) := (blk_cell BK180.out 3).trans rfl; have hcz30_4 : w27.cell? ⟨gb180, 4, none⟩ = some (.int .u64 a1_4) := (blk_cell BK180.out 4).trans rfl; have hcz30_5 : w27.cell? ⟨gb180, 5, none⟩ = some (.bool a1_5) := (blk_cell BK180.out 5).trans rfl; have hcz30_6 : w27.cell? ⟨gb180, 6, none⟩ = some (.int .i64 a1_6) := (blk_cell BK180.out 6).trans rfl; have hcz30_7 : w27.cell? ⟨gb180, 7, none⟩ = some (.slice A1_7 l1_7.length c1_7) := (blk_cell BK180.out 7).trans rfl; have hfz30_0 := blk_frozen BK180.out 0; have hfz30_1 := blk_frozen BK180.out 1; have hfz30_2 := blk_frozen BK180.out 2; have hfz30_3 := blk_frozen BK180.out 3; have hfz30_4 := blk_frozen BK180.out 4; have hfz30_5 := blk_frozen BK180.out 5; have hfz30_6 := blk_frozen BK180.out 6; have hfz30_7 := blk_frozen BK180.out 7))
            go_ret
            exact ⟨by first | rfl | (simp [errW_none, errW_some] <;> rfl) | (simp [*, errW_none, errW_some] <;> rfl), by repeat (first | (with_reducible first | exact HB.out | apply below_alloc | apply pw_below_drewN | apply below_drew1 | refine below_set ?_ GE179.out | refine below_set ?_ GE180.out) | exact HB.out)⟩
        · rw [if_neg c6] at H
          have c6b0 : (a0_3 == a1_3) = false := beq_eq_false_iff_ne.mpr c6
          have c6b1 : (a0_3 != a1_3) = true := bne_iff_ne.mpr c6
          obtain rfl := Option.some.inj H
          go_enter Try.func11, Try.ntmps11
          go_wp2_with (first | ((with_reducible refine gate_dst (N := 2) rfl ?_); refine box_event ?hg (N := 2) ?hd (cs := #[.int .u64 a0_0, .int .u64 a0_1, .int .i64 a0_2, .int .i64 a0_3, .int .u64 a0_4, .bool a0_5, .int .i64 a0_6, .slice A0_7 l0_7.length c0_7]) (t := 29) ?hr ?_; (case hd => rfl); (case hg => rfl); (case hr => first | (go_simp; done) | (go_simp; rfl)); intro gb179 hg w31 hbox hb; have n0_ := Aside0.mk (below_step (by repeat (first | (with_reducible first | exact HB.out | apply below_alloc | apply pw_below_drewN | apply below_drew1) | exact HB.out)) hb); have n1_ := Aside0.mk (hbox); have n2_ := Aside0.mk ((by rw [hg]; exact (below_size (by repeat (first | (with_reducible first | exact HB.out | apply below_alloc | apply pw_below_drewN | apply below_drew1) | exact HB.out))) : w.heap.size ≤ gb179)); have n3_ := Aside0.mk ((by rw [hg]; exact (below_size (by repeat (first | (with_reducible first | exact HB.out | apply below_alloc | apply pw_below_drewN | apply below_drew1) | exact HB.out))) : w.heap.size ≤ gb179)); clear HB; have HB := n0_; have BK179 := n1_; have GW179 := n2_; have GE179 := n3_; clear n0_ n1_ n2_ n3_; clear hb hbox hg) | ((with_reducible refine gate_dst (N := 3) rfl ?_); refine box_event ?hg (N := 3) ?hd (cs := #[.int .u64 a1_0, .int .u64 a1_1, .int .i64 a1_2, .int .i64 a1_3, .int .u64 a1_4, .bool a1_5, .int .i64 a1_6, .slice A1_7 l1_7.length c1_7]) (t := 29) ?hr ?_; (case hd => rfl); (case hg => rfl); (case hr => first | (go_simp; done) | (go_simp; rfl)); intro gb180 hg w32 hbox hb; have n0_ := Aside0.mk (blk_below (g := gb179) (o := .cells #[.int .u64 a0_0, .int .u64 a0_1, .int .i64 a0_2, .int .i64 a0_3, .int .u64 a0_4, .bool a0_5, .int .i64 a0_6, .slice A0_7 l0_7.length c0_7] 29 (0, 0)) (by (with_reducible repeat (first | refine blk_drewN ?_ _ | refine blk_drew ?_ | refine blk_alloc ?_ _)); exact BK179.out) hb); have n1_ := Aside0.mk (below_step (by repeat (first | (with_reducible first | exact HB.out | apply below_alloc | apply pw_below_drewN | apply below_drew1 | refine below_set ?_ GE179.out) | exact HB.out)) hb); have n2_ := Aside0.mk (hbox); have n3_ := Aside0.mk ((by rw [hg]; exact (below_size (by repeat (first | (with_reducible first | exact HB.out | apply below_alloc | apply pw_below_drewN | apply below_drew1 | refine below_set ?_ GE179.out) | exact HB.out))) : w.heap.size ≤ gb180)); have n4_ := Aside0.mk ((by rw [hg]; exact (below_size (by repeat (first | (with_reducible first | exact HB.out | apply below_alloc | apply pw_below_drewN | apply below_drew1 | refine below_set ?_ GE179.out) | exact HB.out))) : w.heap.size ≤ gb180)); have n5_ := Aside0.mk ((by rw [hg]; exact Nat.ne_of_lt (blk_lt (g := gb179) (o := .cells #[.int .u64 a0_0, .int .u64 a0_1, .int .i64 a0_2, .int .i64 a0_3, .int .u64 a0_4, .bool a0_5, .int .i64 a0_6, .slice A0_7 l0_7.length c0_7] 29 (0, 0)) (by (with_reducible repeat (first | refine blk_drewN ?_ _ | refine blk_drew ?_ | refine blk_alloc ?_ _)); exact BK179.out)) : gb179 ≠ gb180)); have n6_ := Aside0.mk ((by rw [hg]; exact Nat.ne_of_gt (blk_lt (g := gb179) (o := .cells #[.int .u64 a0_0, .int .u64 a0_1, .int .i64 a0_2, .int .i64 a0_3, .int .u64 a0_4, .bool a0_5, .int .i64 a0_6, .slice A0_7 l0_7.length c0_7] 29 (0, 0)) (by (with_reducible repeat (first | refine blk_drewN ?_ _ | refine blk_drew ?_ | refine blk_alloc ?_ _)); exact BK179.out)) : gb180 ≠ gb179)); clear BK179; clear HB; have BK179 := n0_; have HB := n1_; have BK180 := n2_; have GW180 := n3_; have GE180 := n4_; have NB179_180 := n5_; have NB180_179 := n6_; clear n0_ n1_ n2_ n3_ n4_ n5_ n6_; clear hb hbox hg; have hnb33 := NB179_180.out; have hnc33 := NB180_179.out; have hcz34_0 : w32.cell? ⟨gb179, 0, none⟩ = some (.int .u64 a0_0) := (blk_cell BK179.out 0).trans rfl; have hcz34_1 : w32.cell? ⟨gb179, 1, none⟩ = some (.int .u64 a0_1) := (blk_cell BK179.out 1).trans rfl; have hcz34_2 : w32.cell? ⟨gb179, 2, none⟩ = some (.int .i64 a0_2) := (blk_cell BK179.out 2).trans rfl; have hcz34_3 : w32.cell? ⟨gb179, 3, none⟩ = some (.int .i64 a0_3) := (blk_cell BK179.out 3).trans rfl; have hcz34_4 : w32.cell? ⟨gb179, 4, none⟩ = some (.int .u64 a0_4) := (blk_cell BK179.out 4).trans rfl; have hcz34_5 : w32.cell? ⟨gb179, 5, none⟩ = some (.bool a0_5) := (blk_cell BK179.out 5).trans rfl; have hcz34_6 : w32.cell? ⟨gb179, 6, none⟩ = some (.int .i64 a0_6) := (blk_cell BK179.out 6).trans rfl; have hcz34_7 : w32.cell? ⟨gb179, 7, none⟩ = some (.slice A0_7 l0_7.length c0_7) := (blk_cell BK179.out 7).trans rfl; have hfz34_0 := blk_frozen BK179.out 0; have hfz34_1 := blk_frozen BK179.out 1; have hfz34_2 := blk_frozen BK179.out 2; have hfz34_3 := blk_frozen BK179.out 3; have hfz34_4 := blk_frozen BK179.out 4; have hfz34_5 := blk_frozen BK179.out 5; have hfz34_6 := blk_frozen BK179.out 6; have hfz34_7 := blk_frozen BK179.out 7; have hcz35_0 : w32.cell? ⟨gb180, 0, none⟩ = some (.int .u64 a1_0) := (blk_cell BK180.out 0).trans rfl; have hcz35_1 : w32.cell? ⟨gb180, 1, none⟩ = some (.int .u64 a1_1) := (blk_cell BK180.out 1).trans rfl; have hcz35_2 : w32.cell? ⟨gb180, 2, none⟩ = some (.int .i64 a1_2) := (blk_cell BK180.out 2).trans rfl; have hcz35_3 : w32.cell? ⟨gb180, 3, none⟩ = some (.int .i64 a1_3) := (blk_cell BK180.out 3).trans rfl; have hcz35_4 : w32.cell? ⟨gb180, 4, none⟩ = some (.int .u64 a1_4) := (blk_cell BK180.out 4).trans rfl; have hcz35_5 : w32.cell? ⟨gb180, 5, none⟩ = some (.bool a1_5) := (blk_cell BK180.out 5).trans rfl; have hcz35_6 : w32.cell? ⟨gb180, 6, none⟩ = some (.int .i64 a1_6) := (blk_cell BK180.out 6).trans rfl; have hcz35_7 : w32.cell? ⟨gb180, 7, none⟩ = some (.slice A1_7 l1_7.length c1_7) := (blk_cell BK180.out 7).trans rfl; have hfz35_0 := blk_frozen BK180.out 0; have hfz35_1 := blk_frozen BK180.out 1; have hfz35_2 := blk_frozen BK180.out 2; have hfz35_3 := blk_frozen BK180.out 3; have hfz35_4 := blk_frozen BK180.out 4; have hfz35_5 := blk_frozen BK180.out 5; have hfz35_6 := blk_frozen BK180.out 6; have hfz35_7 := blk_frozen BK180.out 7))
          go_ret
          exact ⟨by first | rfl | (simp [errW_none, errW_some] <;> rfl) | (simp [*, errW_none, errW_some] <;> rfl), by repeat (first | (with_reducible first | exact HB.out | apply below_alloc | apply pw_below_drewN | apply below_drew1 | refine below_set ?_ GE179.out | refine below_set ?_ GE180.out) | exact HB.out)⟩
      · rw [if_neg c5] at H
        have c5b0 : (a0_2 == a1_2) = false := beq_eq_false_iff_ne.mpr c5
        have c5b1 : (a0_2 != a1_2) = true := bne_iff_ne.mpr c5
        obtain rfl := Option.some.inj H
        go_enter Try.func11, Try.ntmps11
        go_wp2_with (first | ((with_reducible refine gate_dst (N := 2) rfl ?_); refine box_event ?hg (N := 2) ?hd (cs := #[.int .u64 a0_0, .int .u64 a0_1, .int .i64 a0_2, .int .i64 a0_3, .int .u64 a0_4, .bool a0_5, .int .i64 a0_6, .slice A0_7 l0_7.length c0_7]) (t := 29) ?hr ?_; (case hd => rfl); (case hg => rfl); (case hr => first | (go_simp; done) | (go_simp; rfl)); intro gb179 hg w36 hbox hb; have n0_ := Aside0.mk (below_step (by repeat (first | (with_reducible first | exact HB.out | apply below_alloc | apply pw_below_drewN | apply below_drew1) | exact HB.out)) hb); have n1_ := Aside0.mk (hbox); have n2_ := Aside0.mk ((by rw [hg]; exact (below_size (by repeat (first | (with_reducible first | exact HB.out | apply below_alloc | apply pw_below_drewN | apply below_drew1) | exact HB.out))) : w.heap.size ≤ gb179)); have n3_ := Aside0.mk ((by rw [hg]; exact (below_size (by repeat (first | (with_reducible first | exact HB.out | apply below_alloc | apply pw_below_drewN | apply below_drew1) | exact HB.out))) : w.heap.size ≤ gb179)); clear HB; have HB := n0_; have BK179 := n1_; have GW179 := n2_; have GE179 := n3_; clear n0_ n1_ n2_ n3_; clear hb hbox hg) | ((with_reducible refine gate_dst (N := 3) rfl ?_); refine box_event ?hg (N := 3) ?hd (cs := #[.int .u64 a1_0, .int .u64 a1_1, .int .i64 a1_2, .int .i64 a1_3, .int .u64 a1_4, .bool a1_5, .int .i64 a1_6, .slice A1_7 l1_7.length c1_7]) (t := 29) ?hr ?_; (case hd => rfl); (case hg => rfl); (case hr => first | (go_simp; done) | (go_simp; rfl)); intro gb180 hg w37 hbox hb; have n0_ := Aside0.mk (blk_below (g := gb179) (o := .cells #[.int .u64 a0_0, .int .u64 a0_1, .int .i64 a0_2, .int .i64 a0_3, .int .u64 a0_4, .bool a0_5, .int .i64 a0_6, .slice A0_7 l0_7.length c0_7] 29 (0, 0)) (by (with_reducible repeat (first | refine blk_drewN ?_ _ | refine blk_drew ?_ | refine blk_alloc ?_ _)); exact BK179.out) hb); have n1_ := Aside0.mk (below_step (by repeat (first | (with_reducible first | exact HB.out | apply below_alloc | apply pw_below_drewN | apply below_drew1 | refine below_set ?_ GE179.out) | exact HB.out)) hb); have n2_ := Aside0.mk (hbox); have n3_ := Aside0.mk ((by rw [hg]; exact (below_size (by repeat (first | (with_reducible first | exact HB.out | apply below_alloc | apply pw_below_drewN | apply below_drew1 | refine below_set ?_ GE179.out) | exact HB.out))) : w.heap.size ≤ gb180)); have n4_ := Aside0.mk ((by rw [hg]; exact (below_size (by repeat (first | (with_reducible first | exact HB.out | apply below_alloc | apply pw_below_drewN | apply below_drew1 | refine below_set ?_ GE179.out) | exact HB.out))) : w.heap.size ≤ gb180)); have n5_ := Aside0.mk ((by rw [hg]; exact Nat.ne_of_lt (blk_lt (g := gb179) (o := .cells #[.int .u64 a0_0, .int .u64 a0_1, .int .i64 a0_2, .int .i64 a0_3, .int .u64 a0_4, .bool a0_5, .int .i64 a0_6, .slice A0_7 l0_7.length c0_7] 29 (0, 0)) (by (with_reducible repeat (first | refine blk_drewN ?_ _ | refine blk_drew ?_ | refine blk_alloc ?_ _)); exact BK179.out)) : gb179 ≠ gb180)); have n6_ := Aside0.mk ((by rw [hg]; exact Nat.ne_of_gt (blk_lt (g := gb179) (o := .cells #[.int .u64 a0_0, .int .u64 a0_1, .int .i64 a0_2, .int .i64 a0_3, .int .u64 a0_4, .bool a0_5, .int .i64 a0_6, .slice A0_7 l0_7.length c0_7] 29 (0, 0)) (by (with_reducible repeat (first | refine blk_drewN ?_ _ | refine blk_drew ?_ | refine blk_alloc ?_ _)); exact BK179.out)) : gb180 ≠ gb179)); clear BK179; clear HB; have BK179 := n0_; have HB := n1_; have BK180 := n2_; have GW180 := n3_; have GE180 := n4_; have NB179_180 := n5_; have NB180_179 := n6_; clear n0_ n1_ n2_ n3_ n4_ n5_ n6_; clear hb hbox hg; have hnb38 := NB179_180.out; have hnc38 := NB180_179.out; have hcz39_0 : w37.cell? ⟨gb179, 0, none⟩ = some (.int .u64 a0_0) := (blk_cell BK179.out 0).trans rfl; have hcz39_1 : w37.cell? ⟨gb179, 1, none⟩ = some (.int .u64 a0_1) := (blk_cell BK179.out 1).trans rfl; have hcz39_2 : w37.cell? ⟨gb179, 2, none⟩ = some (.int .i64 a0_2) := (blk_cell BK179.out 2).trans rfl; have hcz39_3 : w37.cell? ⟨gb179, 3, none⟩ = some (.int .i64 a0_3) := (blk_cell BK179.out 3).trans rfl; have hcz39_4 : w37.cell? ⟨gb179, 4, none⟩ = some (.int .u64 a0_4) := (blk_cell BK179.out 4).trans rfl; have hcz39_5 : w37.cell? ⟨gb179, 5, none⟩ = some (.bool a0_5) := (blk_cell BK179.out 5).trans rfl; have hcz39_6 : w37.cell? ⟨gb179, 6, none⟩ = some (.int .i64 a0_6) := (blk_cell BK179.out 6).trans rfl; have hcz39_7 : w37.cell? ⟨gb179, 7, none⟩ = some (.slice A0_7 l0_7.length c0_7) := (blk_cell BK179.out 7).trans rfl; have hfz39_0 := blk_frozen BK179.out 0; have hfz39_1 := blk_frozen BK179.out 1; have hfz39_2 := blk_frozen BK179.out 2; have hfz39_3 := blk_frozen BK179.out 3; have hfz39_4 := blk_frozen BK179.out 4; have hfz39_5 := blk_frozen BK179.out 5; have hfz39_6 := blk_frozen BK179.out 6; have hfz39_7 := blk_frozen BK179.out 7; have hcz40_0 : w37.cell? ⟨gb180, 0, none⟩ = some (.int .u64 a1_0) := (blk_cell BK180.out 0).trans rfl; have hcz40_1 : w37.cell? ⟨gb180, 1, none⟩ = some (.int .u64 a1_1) := (blk_cell BK180.out 1).trans rfl; have hcz40_2 : w37.cell? ⟨gb180, 2, none⟩ = some (.int .i64 a1_2) := (blk_cell BK180.out 2).trans rfl; have hcz40_3 : w37.cell? ⟨gb180, 3, none⟩ = some (.int .i64 a1_3) := (blk_cell BK180.out 3).trans rfl; have hcz40_4 : w37.cell? ⟨gb180, 4, none⟩ = some (.int .u64 a1_4) := (blk_cell BK180.out 4).trans rfl; have hcz40_5 : w37.cell? ⟨gb180, 5, none⟩ = some (.bool a1_5) := (blk_cell BK180.out 5).trans rfl; have hcz40_6 : w37.cell? ⟨gb180, 6, none⟩ = some (.int .i64 a1_6) := (blk_cell BK180.out 6).trans rfl; have hcz40_7 : w37.cell? ⟨gb180, 7, none⟩ = some (.slice A1_7 l1_7.length c1_7) := (blk_cell BK180.out 7).trans rfl; have hfz40_0 := blk_frozen BK180.out 0; have hfz40_1 := blk_frozen BK180.out 1; have hfz40_2 := blk_frozen BK180.out 2; have hfz40_3 := blk_frozen BK180.out 3; have hfz40_4 := blk_frozen BK180.out 4; have hfz40_5 := blk_frozen BK180.out 5; have hfz40_6 := blk_frozen BK180.out 6; have hfz40_7 := blk_frozen BK180.out 7))
        go_ret
        exact ⟨by first | rfl | (simp [errW_none, errW_some] <;> rfl) | (simp [*, errW_none, errW_some] <;> rfl), by repeat (first | (with_reducible first | exact HB.out | apply below_alloc | apply pw_below_drewN | apply below_drew1 | refine below_set ?_ GE179.out | refine below_set ?_ GE180.out) | exact HB.out)⟩
    · rw [if_neg c4] at H
      have c4b0 : (a0_1 == a1_1) = false := beq_eq_false_iff_ne.mpr c4
      have c4b1 : (a0_1 != a1_1) = true := bne_iff_ne.mpr c4
      obtain rfl := Option.some.inj H
      go_enter Try.func11, Try.ntmps11
      go_wp2_with (first | ((with_reducible refine gate_dst (N := 2) rfl ?_); refine box_event ?hg (N := 2) ?hd (cs := #[.int .u64 a0_0, .int .u64 a0_1, .int .i64 a0_2, .int .i64 a0_3, .int .u64 a0_4, .bool a0_5, .int .i64 a0_6, .slice A0_7 l0_7.length c0_7]) (t := 29) ?hr ?_; (case hd => rfl); (case hg => rfl); (case hr => first | (go_simp; done) | (go_simp; rfl)); intro gb179 hg w41 hbox hb; have n0_ := Aside0.mk (below_step (by repeat (first | (with_reducible first | exact HB.out | apply below_alloc | apply pw_below_drewN | apply below_drew1) | exact HB.out)) hb); have n1_ := Aside0.mk (hbox); have n2_ := Aside0.mk ((by rw [hg]; exact (below_size (by repeat (first | (with_reducible first | exact HB.out | apply below_alloc | apply pw_below_drewN | apply below_drew1) | exact HB.out))) : w.heap.size ≤ gb179)); have n3_ := Aside0.mk ((by rw [hg]; exact (below_size (by repeat (first | (with_reducible first | exact HB.out | apply below_alloc | apply pw_below_drewN | apply below_drew1) | exact HB.out))) : w.heap.size ≤ gb179)); clear HB; have HB := n0_; have BK179 := n1_; have GW179 := n2_; have GE179 := n3_; clear n0_ n1_ n2_ n3_; clear hb hbox hg) | ((with_reducible refine gate_dst (N := 3) rfl ?_); refine box_event ?hg (N := 3) ?hd (cs := #[.int .u64 a1_0, .int .u64 a1_1, .int .i64 a1_2, .int .i64 a1_3, .int .u64 a1_4, .bool a1_5, .int .i64 a1_6, .slice A1_7 l1_7.length c1_7]) (t := 29) ?hr ?_; (case hd => rfl); (case hg => rfl); (case hr => first | (go_simp; done) | (go_simp; rfl)); intro gb180 hg w42 hbox hb; have n0_ := Aside0.mk (blk_below (g := gb179) (o := .cells #[.int .u64 a0_0, .int .u64 a0_1, .int .i64 a0_2, .int .i64 a0_3, .int .u64 a0_4, .bool a0_5, .int .i64 a0_6, .slice A0_7 l0_7.length c0_7] 29 (0, 0)) (by (with_reducible repeat (first | refine blk_drewN ?_ _ | refine blk_drew ?_ | refine blk_alloc ?_ _)); exact BK179.out) hb); have n1_ := Aside0.mk (below_step (by repeat (first | (with_reducible first | exact HB.out | apply below_alloc | apply pw_below_drewN | apply below_drew1 | refine below_set ?_ GE179.out) | exact HB.out)) hb); have n2_ := Aside0.mk (hbox); have n3_ := Aside0.mk ((by rw [hg]; exact (below_size (by repeat (first | (with_reducible first | exact HB.out | apply below_alloc | apply pw_below_drewN | apply below_drew1 | refine below_set ?_ GE179.out) | exact HB.out))) : w.heap.size ≤ gb180)); have n4_ := Aside0.mk ((by rw [hg]; exact (below_size (by repeat (first | (with_reducible first | exact HB.out | apply below_alloc | apply pw_below_drewN | apply below_drew1 | refine below_set ?_ GE179.out) | exact HB.out))) : w.heap.size ≤ gb180)); have n5_ := Aside0.mk ((by rw [hg]; exact Nat.ne_of_lt (blk_lt (g := gb179) (o := .cells #[.int .u64 a0_0, .int .u64 a0_1, .int .i64 a0_2, .int .i64 a0_3, .int .u64 a0_4, .bool a0_5, .int .i64 a0_6, .slice A0_7 l0_7.length c0_7] 29 (0, 0)) (by (with_reducible repeat (first | refine blk_drewN ?_ _ | refine blk_drew ?_ | refine blk_alloc ?_ _)); exact BK179.out)) : gb179 ≠ gb180)); have n6_ := Aside0.mk ((by rw [hg]; exact Nat.ne_of_gt (blk_lt (g := gb179) (o := .cells #[.int .u64 a0_0, .int .u64 a0_1, .int .i64 a0_2, .int .i64 a0_3, .int .u64 a0_4, .bool a0_5, .int .i64 a0_6, .slice A0_7 l0_7.length c0_7] 29 (0, 0)) (by (with_reducible repeat (first | refine blk_drewN ?_ _ | refine blk_drew ?_ | refine blk_alloc ?_ _)); exact BK179.out)) : gb180 ≠ gb179)); clear BK179; clear HB; have BK179 := n0_; have HB := n1_; have BK180 := n2_; have GW180 := n3_; have GE180 := n4_; have NB179_180 := n5_; have NB180_179 := n6_; clear n0_ n1_ n2_ n3_ n4_ n5_ n6_; clear hb hbox hg; have hnb43 := NB179_180.out; have hnc43 := NB180_179.out; have hcz44_0 : w42.cell? ⟨gb179, 0, none⟩ = some (.int .u64 a0_0) := (blk_cell BK179.out 0).trans rfl; have hcz44_1 : w42.cell? ⟨gb179, 1, none⟩ = some (.int .u64 a0_1) := (blk_cell BK179.out 1).trans rfl; have hcz44_2 : w42.cell? ⟨gb179, 2, none⟩ = some (.int .i64 a0_2) := (blk_cell BK179.out 2).trans rfl; have hcz44_3 : w42.cell? ⟨gb179, 3, none⟩ = some (.int .i64 a0_3) := (blk_cell BK179.out 3).trans rfl; have hcz44_4 : w42.cell? ⟨gb179, 4, none⟩ = some (.int .u64 a0_4) := (blk_cell BK179.out 4).trans rfl; have hcz44_5 : w42.cell? ⟨gb179, 5, none⟩ = some (.bool a0_5) := (blk_cell BK179.out 5).trans rfl; have hcz44_6 : w42.cell? ⟨gb179, 6, none⟩ = some (.int .i64 a0_6) := (blk_cell BK179.out 6).trans rfl; have hcz44_7 : w42.cell? ⟨gb179, 7, none⟩ = some (.slice A0_7 l0_7.length c0_7) := (blk_cell BK179.out 7).trans rfl; have hfz44_0 := blk_frozen BK179.out 0; have hfz44_1 := blk_frozen BK179.out 1; have hfz44_2 := blk_frozen BK179.out 2; have hfz44_3 := blk_frozen BK179.out 3; have hfz44_4 := blk_frozen BK179.out 4; have hfz44_5 := blk_frozen BK179.out 5; have hfz44_6 := blk_frozen BK179.out 6; have hfz44_7 := blk_frozen BK179.out 7; have hcz45_0 : w42.cell? ⟨gb180, 0, none⟩ = some (.int .u64 a1_0) := (blk_cell BK180.out 0).trans rfl; have hcz45_1 : w42.cell? ⟨gb180, 1, none⟩ = some (.int .u64 a1_1) := (blk_cell BK180.out 1).trans rfl; have hcz45_2 : w42.cell? ⟨gb180, 2, none⟩ = some (.int .i64 a1_2) := (blk_cell BK180.out 2).trans rfl; have hcz45_3 : w42.cell? ⟨gb180, 3, none⟩ = some (.int .i64 a1_3) := (blk_cell BK180.out 3).trans rfl; have hcz45_4 : w42.cell? ⟨gb180, 4, none⟩ = some (.int .u64 a1_4) := (blk_cell BK180.out 4).trans rfl; have hcz45_5 : w42.cell? ⟨gb180, 5, none⟩ = some (.bool a1_5) := (blk_cell BK180.out 5).trans rfl; have hcz45_6 : w42.cell? ⟨gb180, 6, none⟩ = some (.int .i64 a1_6) := (blk_cell BK180.out 6).trans rfl; have hcz45_7 : w42.cell? ⟨gb180, 7, none⟩ = some (.slice A1_7 l1_7.length c1_7) := (blk_cell BK180.out 7).trans rfl; have hfz45_0 := blk_frozen BK180.out 0; have hfz45_1 := blk_frozen BK180.out 1; have hfz45_2 := blk_frozen BK180.out 2; have hfz45_3 := blk_frozen BK180.out 3; have hfz45_4 := blk_frozen BK180.out 4; have hfz45_5 := blk_frozen BK180.out 5; have hfz45_6 := blk_frozen BK180.out 6; have hfz45_7 := blk_frozen BK180.out 7))
      go_ret
      exact ⟨by first | rfl | (simp [errW_none, errW_some] <;> rfl) | (simp [*, errW_none, errW_some] <;> rfl), by repeat (first | (with_reducible first | exact HB.out | apply below_alloc | apply pw_below_drewN | apply below_drew1 | refine below_set ?_ GE179.out | refine below_set ?_ GE180.out) | exact HB.out)⟩
  · rw [if_neg c3] at H
    have c3b0 : (a0_0 == a1_0) = false := beq_eq_false_iff_ne.mpr c3
    have c3b1 : (a0_0 != a1_0) = true := bne_iff_ne.mpr c3
    obtain rfl := Option.some.inj H
    go_enter Try.func11, Try.ntmps11
    go_wp2_with (first | ((with_reducible refine gate_dst (N := 2) rfl ?_); refine box_event ?hg (N := 2) ?hd (cs := #[.int .u64 a0_0, .int .u64 a0_1, .int .i64 a0_2, .int .i64 a0_3, .int .u64 a0_4, .bool a0_5, .int .i64 a0_6, .slice A0_7 l0_7.length c0_7]) (t := 29) ?hr ?_; (case hd => rfl); (case hg => rfl); (case hr => first | (go_simp; done) | (go_simp; rfl)); intro gb179 hg w46 hbox hb; have n0_ := Aside0.mk (below_step (by repeat (first | (with_reducible first | exact HB.out | apply below_alloc | apply pw_below_drewN | apply below_drew1) | exact HB.out)) hb); have n1_ := Aside0.mk (hbox); have n2_ := Aside0.mk ((by rw [hg]; exact (below_size (by repeat (first | (with_reducible first | exact HB.out | apply below_alloc | apply pw_below_drewN | apply below_drew1) | exact HB.out))) : w.heap.size ≤ gb179)); have n3_ := Aside0.mk ((by rw [hg]; exact (below_size (by repeat (first | (with_reducible first | exact HB.out | apply below_alloc | apply pw_below_drewN | apply below_drew1) | exact HB.out))) : w.heap.size ≤ gb179)); clear HB; have HB := n0_; have BK179 := n1_; have GW179 := n2_; have GE179 := n3_; clear n0_ n1_ n2_ n3_; clear hb hbox hg) | ((with_reducible refine gate_dst (N := 3) rfl ?_); refine box_event ?hg (N := 3) ?hd (cs := #[.int .u64 a1_0, .int .u64 a1_1, .int .i64 a1_2, .int .i64 a1_3, .int .u64 a1_4, .bool a1_5, .int .i64 a1_6, .slice A1_7 l1_7.length c1_7]) (t := 29) ?hr ?_; (case hd => rfl); (case hg => rfl); (case hr => first | (go_simp; done) | (go_simp; rfl)); intro gb180 hg w47 hbox hb; have n0_ := Aside0.mk (blk_below (g := gb179) (o := .cells #[.int .u64 a0_0, .int .u64 a0_1, .int .i64 a0_2, .int .i64 a0_3, .int .u64 a0_4, .bool a0_5, .int .i64 a0_6, .slice A0_7 l0_7.length c0_7] 29 (0, 0)) (by (with_reducible repeat (first | refine blk_drewN ?_ _ | refine blk_drew ?_ | refine blk_alloc ?_ _)); exact BK179.out) hb); have n1_ := Aside0.mk (below_step (by repeat (first | (with_reducible first | exact HB.out | apply below_alloc | apply pw_below_drewN | apply below_drew1 | refine below_set ?_ GE179.out) | exact HB.out)) hb); have n2_ := Aside0.mk (hbox); have n3_ := Aside0.mk ((by rw [hg]; exact (below_size (by repeat (first | (with_reducible first | exact HB.out | apply below_alloc | apply pw_below_drewN | apply below_drew1 | refine below_set ?_ GE179.out) | exact HB.out))) : w.heap.size ≤ gb180)); have n4_ := Aside0.mk ((by rw [hg]; exact (below_size (by repeat (first | (with_reducible first | exact HB.out | apply below_alloc | apply pw_below_drewN | apply below_drew1 | refine below_set ?_ GE179.out) | exact HB.out))) : w.heap.size ≤ gb180)); have n5_ := Aside0.mk ((by rw [hg]; exact Nat.ne_of_lt (blk_lt (g := gb179) (o := .cells #[.int .u64 a0_0, .int .u64 a0_1, .int .i64 a0_2, .int .i64 a0_3, .int .u64 a0_4, .bool a0_5, .int .i64 a0_6, .slice A0_7 l0_7.length c0_7] 29 (0, 0)) (by (with_reducible repeat (first | refine blk_drewN ?_ _ | refine blk_drew ?_ | refine blk_alloc ?_ _)); exact BK179.out)) : gb179 ≠ gb180)); have n6_ := Aside0.mk ((by rw [hg]; exact Nat.ne_of_gt (blk_lt (g := gb179) (o := .cells #[.int .u64 a0_0, .int .u64 a0_1, .int .i64 a0_2, .int .i64 a0_3, .int .u64 a0_4, .bool a0_5, .int .i64 a0_6, .slice A0_7 l0_7.length c0_7] 29 (0, 0)) (by (with_reducible repeat (first | refine blk_drewN ?_ _ | refine blk_drew ?_ | refine blk_alloc ?_ _)); exact BK179.out)) : gb180 ≠ gb179)); clear BK179; clear HB; have BK179 := n0_; have HB := n1_; have BK180 := n2_; have GW180 := n3_; have GE180 := n4_; have NB179_180 := n5_; have NB180_179 := n6_; clear n0_ n1_ n2_ n3_ n4_ n5_ n6_; clear hb hbox hg; have hnb48 := NB179_180.out; have hnc48 := NB180_179.out; have hcz49_0 : w47.cell? ⟨gb179, 0, none⟩ = some (.int .u64 a0_0) := (blk_cell BK179.out 0).trans rfl; have hcz49_1 : w47.cell? ⟨gb179, 1, none⟩ = some (.int .u64 a0_1) := (blk_cell BK179.out 1).trans rfl; have hcz49_2 : w47.cell? ⟨gb179, 2, none⟩ = some (.int .i64 a0_2) := (blk_cell BK179.out 2).trans rfl; have hcz49_3 : w47.cell? ⟨gb179, 3, none⟩ = some (.int .i64 a0_3) := (blk_cell BK179.out 3).trans rfl; have hcz49_4 : w47.cell? ⟨gb179, 4, none⟩ = some (.int .u64 a0_4) := (blk_cell BK179.out 4).trans rfl; have hcz49_5 : w47.cell? ⟨gb179, 5, none⟩ = some (.bool a0_5) := (blk_cell BK179.out 5).trans rfl; have hcz49_6 : w47.cell? ⟨gb179, 6, none⟩ = some (.int .i64 a0_6) := (blk_cell BK179.out 6).trans rfl; have hcz49_7 : w47.cell? ⟨gb179, 7, none⟩ = some (.slice A0_7 l0_7.length c0_7) := (blk_cell BK179.out 7).trans rfl; have hfz49_0 := blk_frozen BK179.out 0; have hfz49_1 := blk_frozen BK179.out 1; have hfz49_2 := blk_frozen BK179.out 2; have hfz49_3 := blk_frozen BK179.out 3; have hfz49_4 := blk_frozen BK179.out 4; have hfz49_5 := blk_frozen BK179.out 5; have hfz49_6 := blk_frozen BK179.out 6; have hfz49_7 := blk_frozen BK179.out 7; have hcz50_0 : w47.cell? ⟨gb180, 0, none⟩ = some (.int .u64 a1_0) := (blk_cell BK180.out 0).trans rfl; have hcz50_1 : w47.cell? ⟨gb180, 1, none⟩ = some (.int .u64 a1_1) := (blk_cell BK180.out 1).trans rfl; have hcz50_2 : w47.cell? ⟨gb180, 2, none⟩ = some (.int .i64 a1_2) := (blk_cell BK180.out 2).trans rfl; have hcz50_3 : w47.cell? ⟨gb180, 3, none⟩ = some (.int .i64 a1_3) := (blk_cell BK180.out 3).trans rfl; have hcz50_4 : w47.cell? ⟨gb180, 4, none⟩ = some (.int .u64 a1_4) := (blk_cell BK180.out 4).trans rfl; have hcz50_5 : w47.cell? ⟨gb180, 5, none⟩ = some (.bool a1_5) := (blk_cell BK180.out 5).trans rfl; have hcz50_6 : w47.cell? ⟨gb180, 6, none⟩ = some (.int .i64 a1_6) := (blk_cell BK180.out 6).trans rfl; have hcz50_7 : w47.cell? ⟨gb180, 7, none⟩ = some (.slice A1_7 l1_7.length c1_7) := (blk_cell BK180.out 7).trans rfl; have hfz50_0 := blk_frozen BK180.out 0; have hfz50_1 := blk_frozen BK180.out 1; have hfz50_2 := blk_frozen BK180.out 2; have hfz50_3 := blk_frozen BK180.out 3; have hfz50_4 := blk_frozen BK180.out 4; have hfz50_5 := blk_frozen BK180.out 5; have hfz50_6 := blk_frozen BK180.out 6; have hfz50_7 := blk_frozen BK180.out 7))
    go_ret
    exact ⟨by first | rfl | (simp [errW_none, errW_some] <;> rfl) | (simp [*, errW_none, errW_some] <;> rfl), by repeat (first | (with_reducible first | exact HB.out | apply below_alloc | apply pw_below_drewN | apply below_drew1 | refine below_set ?_ GE179.out | refine below_set ?_ GE180.out) | exact HB.out)⟩
end Go.Proofs.Ytaepbgieahedjaa.Hp
namespace Go.Proofs.Ytaepbgieahedjaa.Hp
open Go.RowKit Go.Proofs.YtaepbgieahedjaaW.PrintWords Go.Proofs.YtaepbgieahedjaaW.PrintLast Go.Proofs.YtaepbgieahedjaaW.PrintMore
attribute [local go_sem] max2_int min2_int max_two min_two max_three min_three max_four min_four   -- for this text's walks alone
set_option linter.unusedVariables false
set_option linter.unusedSimpArgs false
end Go.Proofs.Ytaepbgieahedjaa.Hp
namespace Go.Proofs.Ytaepbgieahedjaa.Hp
open Go.RowKit Go.Proofs.YtaepbgieahedjaaW.PrintWords Go.Proofs.YtaepbgieahedjaaW.PrintLast Go.Proofs.YtaepbgieahedjaaW.PrintMore
attribute [local go_sem] max2_int min2_int max_two min_two max_three min_three max_four min_four   -- for this text's walks alone
set_option linter.unusedVariables false
set_option linter.unusedSimpArgs false
end Go.Proofs.Ytaepbgieahedjaa.Hp
namespace Go.Proofs.Ytaepbgieahedjaa.QS
set_option linter.unusedVariables false
set_option linter.unusedSimpArgs false
open Go.RowKit Go.Proofs.Ytaepbgieahedjaa.Hp Go.Proofs.YtaepbgieahedjaaW.PrintWords Go.Proofs.YtaepbgieahedjaaW.PrintLast Go.Proofs.YtaepbgieahedjaaW.PrintMore
open Go.Proofs.Ytaepbgieahedjaa.IP
theorem rd_nat (l : List R0) (i : Nat) (h : i < l.length) : rd_T29 l (i : Int) = l[i] := by
  unfold rd_T29
  rw [Int.toNat_natCast, List.getD_eq_getElem?_getD, List.getElem?_eq_getElem h]
  rfl
theorem rd_int (l : List Int) (i : Nat) (h : i < l.length) : rd l (i : Int) = l[i] := by
  unfold rd
  rw [Int.toNat_natCast, List.getD_eq_getElem?_getD, List.getElem?_eq_getElem h]
  rfl
theorem w_succ (i : Nat) (h : i ≤ 9223372036854775800) : wrap64 ((i : Int) + 1) = ((i + 1 : Nat) : Int) := by unfold wrap64; omega
theorem ev_may0 (x : R0) (hu : x.f7.length ≤ 9223372036854775000) : ∀ (d i : Nat), i + d = x.f7.length → Ev (fun k => wagtailref26_May.l0 k (i : Int) x.f0 x.f1 x.f2 x.f3 x.f4 x.f5 x.f6 x.f7) ((x.f7.drop i).all pageB)
  | 0, i, hd => by
    rw [List.drop_of_length_le (by omega)]
    refine Ev.step (f := fun k => some true) (fun k => ?_) (Ev.now _)
    simp only [wagtailref26_May.l0]
    rw [if_neg (by omega)]
  | d + 1, i, hd => by
    have hi : i < x.f7.length := by omega
    rw [List.drop_eq_getElem_cons hi, List.all_cons]
    by_cases h1 : x.f7[i] < 1
    · have e : pageB x.f7[i] = false := by unfold pageB; rw [decide_eq_false (by omega), Bool.false_and]
      rw [e, Bool.false_and]
      refine Ev.step (f := fun k => some false) (fun k => ?_) (Ev.now _)
      simp only [wagtailref26_May.l0]
      rw [if_pos (by omega), if_pos (by omega), rd_int _ i hi, if_pos h1]
    · by_cases h2 : x.f7[i] > 65535
      · have e : pageB x.f7[i] = false := by unfold pageB; rw [decide_eq_false (p := x.f7[i] ≤ 65535) (by omega), Bool.and_false]
        rw [e, Bool.false_and]
        refine Ev.step (f := fun k => some false) (fun k => ?_) (Ev.now _)
        simp only [wagtailref26_May.l0]
        rw [if_pos (by omega), if_pos (by omega), rd_int _ i hi, if_neg h1, if_pos h2]
      · have e : pageB x.f7[i] = true := by unfold pageB; rw [decide_eq_true (by omega), decide_eq_true (by omega)]; rfl
        rw [e, Bool.true_and]
        refine Ev.step (f := fun k => wagtailref26_May.l0 k ((i + 1 : Nat) : Int) x.f0 x.f1 x.f2 x.f3 x.f4 x.f5 x.f6 x.f7) (fun k => ?_) (ev_may0 x hu d (i + 1) (by omega))
        simp only [wagtailref26_May.l0]
        rw [if_pos (by omega), if_pos (by omega), rd_int _ i hi, if_neg h1, if_neg h2, w_succ i (by omega)]
theorem ev_may (x : R0) (hu : x.f7.length ≤ 9223372036854775000) : Ev (fun k => wagtailref26_May.f k x.f0 x.f1 x.f2 x.f3 x.f4 x.f5 x.f6 x.f7) (mayB x) := by
  have hT : Ev (fun k => wagtailref26_May.j0 k true x.f0 x.f1 x.f2 x.f3 x.f4 x.f5 x.f6 x.f7) false := by
    refine Ev.step (f := fun k => some false) (fun k => ?_) (Ev.now _)
    simp only [wagtailref26_May.j0]
    rw [if_pos trivial]
  unfold mayB headB
  unfold wagtailref26_May.f
  by_cases h1 : x.f0 ≥ 2147483648
  · rw [decide_eq_false (p := x.f0 < 2147483648) (by omega)]
    exact Ev.congr (fun k => if_pos h1) hT
  rw [decide_eq_true (p := x.f0 < 2147483648) (by omega)]
  refine Ev.congr (fun k => if_neg h1) ?_
  by_cases h2 : x.f1 ≥ 2147483648
  · rw [decide_eq_false (p := x.f1 < 2147483648) (by omega)]
    exact Ev.congr (fun k => if_pos h2) hT
  rw [decide_eq_true (p := x.f1 < 2147483648) (by omega)]
  refine Ev.congr (fun k => if_neg h2) ?_
  by_cases h3 : x.f2 < 0
  · rw [decide_eq_false (p := 0 ≤ x.f2) (by omega)]
    exact Ev.congr (fun k => if_pos h3) hT
  rw [decide_eq_true (p := 0 ≤ x.f2) (by omega)]
  refine Ev.congr (fun k => if_neg h3) ?_
  by_cases h4 : x.f2 > 2
  · rw [decide_eq_false (p := x.f2 ≤ 2) (by omega)]
    exact Ev.congr (fun k => if_pos h4) hT
  rw [decide_eq_true (p := x.f2 ≤ 2) (by omega)]
  refine Ev.congr (fun k => if_neg h4) ?_
  by_cases h5 : x.f3 < 1
  · rw [decide_eq_false (p := 1 ≤ x.f3) (by omega)]
    exact Ev.congr (fun k => if_pos h5) hT
  rw [decide_eq_true (p := 1 ≤ x.f3) (by omega)]
  refine Ev.congr (fun k => if_neg h5) ?_
  by_cases h6 : x.f3 > 3192
  · rw [decide_eq_false (p := x.f3 ≤ 3192) (by omega)]
    exact Ev.congr (fun k => if_pos h6) hT
  rw [decide_eq_true (p := x.f3 ≤ 3192) (by omega)]
  refine Ev.congr (fun k => if_neg h6) ?_
  unfold pageB
  by_cases h7 : x.f6 < 1
  · rw [decide_eq_false (p := 1 ≤ x.f6) (by omega)]
    exact Ev.congr (fun k => if_pos h7) hT
  rw [decide_eq_true (p := 1 ≤ x.f6) (by omega)]
  refine Ev.congr (fun k => if_neg h7) ?_
  by_cases h8 : x.f6 > 65535
  · rw [decide_eq_false (p := x.f6 ≤ 65535) (by omega)]
    exact Ev.congr (fun k => if_pos h8) hT
  rw [decide_eq_true (p := x.f6 ≤ 65535) (by omega)]
  refine Ev.congr (fun k => if_neg h8) ?_
  by_cases h9 : (x.f7.length : Int) < 1
  · rw [decide_eq_false (p := (1 : Int) ≤ (x.f7.length : Int)) (by omega)]
    exact Ev.congr (fun k => if_pos h9) hT
  rw [decide_eq_true (p := (1 : Int) ≤ (x.f7.length : Int)) (by omega)]
  refine Ev.congr (fun k => if_neg h9) ?_
  by_cases h10 : (x.f7.length : Int) > 14
  · rw [decide_eq_false (p := (x.f7.length : Int) ≤ 14) (by omega), decide_eq_true h10]
    exact hT
  · rw [decide_eq_true (p := (x.f7.length : Int) ≤ 14) (by omega), decide_eq_false h10]
    refine Ev.step (f := fun k => wagtailref26_May.l0 k ((0 : Nat) : Int) x.f0 x.f1 x.f2 x.f3 x.f4 x.f5 x.f6 x.f7) (fun k => ?_) (ev_may0 x hu _ 0 (Nat.zero_add _))
    simp only [wagtailref26_May.j0]
    rw [if_neg (by decide)]
    rfl
def putP (l : List R0) (x : R0) : List R0 × Bool := if mayB x = true then (if hasKey keyR l x.f0 = true then (l, false) else (putAt l (low keyR l x.f0) x, true)) else (l, false)
theorem ev_put0 (l : List R0) (x : R0) (hl : l.length ≤ 1000000) : ∀ (d i : Nat), i + d = l.length → (∀ (j : Nat) (y : R0), j < i → l[j]? = some y → y.f0 < x.f0) → Ev (fun k => wagtailref27_Put.l0 k l (i : Int) x.f0 x.f1 x.f2 x.f3 x.f4 x.f5 x.f6 x.f7) (if hasKey keyR l x.f0 = true then (l, false) else (putAt l (low keyR l x.f0) x, true))
  | 0, i, hd, hb => by
    have hlow : i = low keyR l x.f0 := low_of (by omega) hb (fun y hy => by have := (List.getElem?_eq_some_iff.1 hy).1; omega)
    have hk : hasKey keyR l x.f0 = false := by unfold hasKey; rw [← hlow, List.getElem?_eq_none (by omega)]
    rw [hk, if_neg (by decide), ← hlow]
    refine Ev.step (f := fun k => some (putAt l i x, true)) (fun k => ?_) (Ev.now _)
    simp only [wagtailref27_Put.l0, Option.bind_some]
    have e1 : ([] ++ l.take i : List R0).length = i := by rw [List.nil_append, List.length_take]; omega
    have e2 : (l.drop i).length = 0 := by rw [List.length_drop]; omega
    rw [if_neg (by omega), if_pos (by omega), if_pos (by omega), Int.toNat_natCast, if_pos (by rw [List.length_take]; simp; omega), if_pos (by rw [e1]; omega), if_pos (by rw [List.length_append, e1, e2]; simp; omega)]
    unfold putAt
    simp
  | d + 1, i, hd, hb => by
    have hi : i < l.length := by omega
    by_cases h1 : l[i].f0 < x.f0
    · refine Ev.step (f := fun k => wagtailref27_Put.l0 k l ((i + 1 : Nat) : Int) x.f0 x.f1 x.f2 x.f3 x.f4 x.f5 x.f6 x.f7) (fun k => ?_) (ev_put0 l x hl d (i + 1) (by omega) (fun j y hj hy => by
        rcases Nat.lt_or_ge j i with h | h
        · exact hb j y h hy
        · have : j = i := by omega
          subst this
          rw [List.getElem?_eq_getElem hi] at hy
          rw [← Option.some.inj hy]
          exact h1))
      simp only [wagtailref27_Put.l0]
      rw [if_pos (by omega), if_pos (by omega), rd_nat l i hi, if_pos h1, w_succ i (by omega)]
    · have hlow : i = low keyR l x.f0 := low_of (by omega) hb (fun y hy => by rw [List.getElem?_eq_getElem hi] at hy; rw [← Option.some.inj hy]; show x.f0 ≤ l[i].f0; omega)
      by_cases h2 : l[i].f0 = x.f0
      · have hk : hasKey keyR l x.f0 = true := by unfold hasKey; rw [← hlow, List.getElem?_eq_getElem hi]; simp [keyR, h2]
        rw [hk, if_pos rfl]
        refine Ev.step (f := fun k => some (l, false)) (fun k => ?_) (Ev.now _)
        simp only [wagtailref27_Put.l0]
        rw [if_pos (by omega), if_pos (by omega), rd_nat l i hi, if_neg h1, if_pos h2]
      · have hk : hasKey keyR l x.f0 = false := by unfold hasKey; rw [← hlow, List.getElem?_eq_getElem hi]; simp [keyR, h2]
        rw [hk, if_neg (by decide), ← hlow]
        refine Ev.step (f := fun k => some (putAt l i x, true)) (fun k => ?_) (Ev.now _)
        simp only [wagtailref27_Put.l0, Option.bind_some]
        have e1 : ([] ++ l.take i : List R0).length = i := by rw [List.nil_append, List.length_take]; omega
        have e2 : (l.drop i).length = l.length - i := List.length_drop
        rw [if_pos (by omega), if_pos (by omega), rd_nat l i hi, if_neg h1, if_neg h2, if_pos (by omega), Int.toNat_natCast, if_pos (by rw [List.length_take]; simp; omega), if_pos (by rw [e1]; omega), if_pos (by rw [List.length_append, e1, e2]; simp; omega)]
        unfold putAt
        simp
theorem ev_put (l : List R0) (x : R0) (hl : l.length ≤ 1000000) (hu : x.f7.length ≤ 9223372036854775000) : Ev (fun k => wagtailref27_Put.f k l x.f0 x.f1 x.f2 x.f3 x.f4 x.f5 x.f6 x.f7) (putP l x) := by
  unfold putP wagtailref27_Put.f
  refine Ev.bind (ev_may x hu) ?_
  cases hm : mayB x with
  | false => exact Ev.congr (fun k => if_neg (by decide)) (Ev.now _)
  | true => exact Ev.congr (fun k => if_pos rfl) (ev_put0 l x hl _ 0 (Nat.zero_add _) (fun j y hj => by omega))
theorem ev_ints (u : List Int) (hu : u.length ≤ 9223372036854775000) : ∀ (d i : Nat), i + d = u.length → Ev (fun k => wagtailref01_Ints.l0 k u u (i : Int)) true
  | 0, i, hd => by
    refine Ev.step (f := fun k => some true) (fun k => ?_) (Ev.now _)
    simp only [wagtailref01_Ints.l0]
    rw [if_neg (by omega)]
  | d + 1, i, hd => by
    refine Ev.step (f := fun k => wagtailref01_Ints.l0 k u u ((i + 1 : Nat) : Int)) (fun k => ?_) (ev_ints u hu d (i + 1) (by omega))
    simp only [wagtailref01_Ints.l0]
    rw [if_pos (by omega), if_pos (by omega), if_pos (by omega), if_pos trivial, w_succ i (by omega)]
theorem ev_ints_same (u : List Int) (hu : u.length ≤ 9223372036854775000) : Ev (fun k => wagtailref01_Ints.f k u u) true := Ev.congr (f := fun k => wagtailref01_Ints.l0 k u u ((0 : Nat) : Int)) (fun k => if_pos rfl) (ev_ints u hu _ 0 (Nat.zero_add _))
theorem ev_one_same (x : R0) (hu : x.f7.length ≤ 9223372036854775000) : Ev (fun k => wagtailref26_Same.f k x.f0 x.f1 x.f2 x.f3 x.f4 x.f5 x.f6 x.f7 x.f0 x.f1 x.f2 x.f3 x.f4 x.f5 x.f6 x.f7) true := by
  refine Ev.congr (f := fun k => (wagtailref01_Ints.f k x.f7 x.f7).bind fun t => some t) (fun k => ?_) (Ev.bind (ev_ints_same x.f7 hu) (Ev.now _))
  unfold wagtailref26_Same.f
  simp
theorem osame_calls (x : R0) (hx : x.f7.length ≤ 1000000) (Ax : Option Addr) (cx : Nat) (Ay : Option Addr) (cy : Nat) (W : World) (h1 : Kd.C (Kd.int .i64) W Ax x.f7.length x.f7) (h2 : x.f7.length ≤ cx) (h3 : Kd.C (Kd.int .i64) W Ay x.f7.length x.f7) (h4 : x.f7.length ≤ cy) :
    Calls Try.prog 11 #[.agg #[.int .u64 x.f0, .int .u64 x.f1, .int .i64 x.f2, .int .i64 x.f3, .int .u64 x.f4, .bool x.f5, .int .i64 x.f6, .slice Ax x.f7.length cx], .agg #[.int .u64 x.f0, .int .u64 x.f1, .int .i64 x.f2, .int .i64 x.f3, .int .u64 x.f4, .bool x.f5, .int .i64 x.f6, .slice Ay x.f7.length cy]] W fun e w' => e = .returned (.bool true) ∧ Below W.heap.size W w' := by
  obtain ⟨K, hK⟩ := ev_one_same x (by omega)
  exact wagtailref26_Same.calls K x.f0 x.f1 x.f2 x.f3 x.f4 x.f5 x.f6 Ax cx x.f7 x.f0 x.f1 x.f2 x.f3 x.f4 x.f5 x.f6 Ay cy x.f7 true W h1 h2 h3 h4 (hK K (Nat.le_refl _))
theorem isame_calls (u : List Int) (hu : u.length ≤ 1000000) (A : Option Addr) (c : Nat) (A' : Option Addr) (c' : Nat) (W : World) (h1 : u.length ≤ c) (h2 : Kd.C (Kd.int .i64) W A u.length u) (h3 : u.length ≤ c') (h4 : Kd.C (Kd.int .i64) W A' u.length u) :
    Calls Try.prog 12 #[.slice A u.length c, .slice A' u.length c'] W fun e w' => e = .returned (.bool true) ∧ Below W.heap.size W w' := by
  obtain ⟨K, hK⟩ := ev_ints_same u (by omega)
  exact (wagtailref01_Ints.calls K A c u A' c' u true W h2 h1 h4 h3 (hK K (Nat.le_refl _))).mono (fun e w' ⟨he, hb⟩ => ⟨he, hb.below⟩)
theorem rput_calls (l : List R0) (x : R0) (hl : l.length ≤ 1000000) (hu : x.f7.length ≤ 9223372036854775000) (A : Option Addr) (c : Nat) (Ax : Option Addr) (cx : Nat) (W : World) (P Px : Nat → Prop) (h1 : Kd.V k29 29 W W.heap.size (fun k => P k) (.slice A l.length c) l) (h2 : Kd.V (Kd.int .i64) 3 W W.heap.size (fun k => Px k) (.slice Ax x.f7.length cx) x.f7) :
    Calls Try.prog 8 #[.slice A l.length c, .agg #[.int .u64 x.f0, .int .u64 x.f1, .int .i64 x.f2, .int .i64 x.f3, .int .u64 x.f4, .bool x.f5, .int .i64 x.f6, .slice Ax x.f7.length cx]] W fun e w' => ∃ v, e = .returned (.tuple #[v, .bool (putP l x).2]) ∧ Kd.V k29 29 w' W.heap.size (fun k => ((P k ∨ Px k) ∨ W.heap.size ≤ k)) v (putP l x).1 ∧ Below W.heap.size W w' := by
  obtain ⟨K, hK⟩ := ev_put l x hl hu
  exact wagtailref27_Put.calls K P A c l x.f0 x.f1 x.f2 x.f3 x.f4 x.f5 x.f6 Px Ax cx x.f7 _ _ W h1 h2 (hK K (Nat.le_refl _))
end Go.Proofs.Ytaepbgieahedjaa.QS
namespace Go.Proofs.Ytaepbgieahedjaa.QS
set_option linter.unusedVariables false
set_option linter.unusedSimpArgs false
open Go.RowKit Go.Proofs.Ytaepbgieahedjaa.Hp Go.Proofs.YtaepbgieahedjaaW.PrintWords Go.Proofs.YtaepbgieahedjaaW.PrintLast Go.Proofs.YtaepbgieahedjaaW.PrintMore
open Go.Proofs.Ytaepbgieahedjaa.IP
theorem app_any {W : World} (base ty T e : TypeId) (hT : Try.prog.underlying T = some (.slice e)) {z : Value} {sz bytes : Nat} (hinf : (Try.prog.info? e).map (fun i => (i.zero, i.size, i.bytes)) = some (some z, sz, bytes)) (hz : z.cells.size = sz) (hs : 0 < sz) (hb0 : 0 < bytes) (hb1 : bytes ≤ 1000)
    (v : Value) (n : Nat) (xs : List Value) (ho : W.ownsRow base e sz v n xs) (ad : Addr) (m c : Nat) (ys : List Value) (hl : ys.length = m * sz) (hc : ∀ (j : Nat) (u : Value), ys[j]? = some u → W.cell? (ad.add j) = some u) (h1 : ∀ u ∈ ys, u.oneCell' = true) (hn : n + m ≤ 100000) (hb : base ≤ W.heap.size) :
    ∃ v' w', (Builtin.append_ #[T, T] ty #[v, .slice (some ad) m c]).run Try.prog W = .ok v' w' ∧ w'.ownsRow base e sz v' (n + m) (xs ++ ys) ∧ W.grownBy w' v.ownBlock ∧ (v'.ownBlock = v.ownBlock ∨ v'.ownBlock = some W.heap.size) := by
  obtain ⟨i0, hi, hzz⟩ := Option.map_eq_some_iff.1 hinf
  simp only [Prod.mk.injEq] at hzz
  have hmul : (n + m) * bytes ≤ 100000 * 1000 := Nat.mul_le_mul hn hb1
  obtain ⟨v', w', h1, h2, h3, _, h5⟩ := run_append_own_at (P := Try.prog) W base T ty e i0 _ sz bytes hT hi hzz.1 hzz.2.1 hzz.2.2 hz hs v n xs ho ad m c ys hl hc h1 (by unfold maxLen; omega) (by omega) hb
  exact ⟨v', w', h1, h2, h3, h5⟩
def encR (x : R0) (A : Option Addr) (c : Nat) : List Value := [.int .u64 x.f0, .int .u64 x.f1, .int .i64 x.f2, .int .i64 x.f3, .int .u64 x.f4, .bool x.f5, .int .i64 x.f6, .slice A x.f7.length c]
theorem rec_app {W : World} {base gx : Nat} {v : Value} {l : List R0} {ok : Nat → Prop} (x : R0) (Ax : Option Addr) (cx : Nat) (hR : k29.R 29 W base ok v l) (hM : (Kd.int .i64).R 3 W base (fun k => ok k ∧ some k ≠ v.ownBlock) (.slice Ax x.f7.length cx) x.f7)
    (hx : W.heap[gx]? = some (.cells #[.int .u64 x.f0, .int .u64 x.f1, .int .i64 x.f2, .int .i64 x.f3, .int .u64 x.f4, .bool x.f5, .int .i64 x.f6, .slice Ax x.f7.length cx] 29 (0, 0))) (hn : l.length + 1 ≤ 100000) (hs : base ≤ W.heap.size) (hfresh : ∀ k, W.heap.size ≤ k → ok k) :
    ∃ v' w', (Builtin.append_ #[22, 22] 22 #[v, .slice (some ⟨gx, 0, none⟩) 1 1]).run Try.prog W = .ok v' w' ∧ k29.R 29 w' base ok v' (l ++ [x]) ∧ W.grownBy w' v.ownBlock ∧ (v'.ownBlock = v.ownBlock ∨ ∃ b, v'.ownBlock = some b ∧ W.heap.size ≤ b) := by
  obtain ⟨h0, inner, ho, hr⟩ := hR
  obtain ⟨v', w', e1, e2, e3, e4⟩ := app_any base 22 22 29 Try.underlying22 inf_rec rfl (by decide) (by decide) (by decide) v l.length inner ho ⟨gx, 0, none⟩ 1 1 (encR x Ax cx) rfl (fun j u hu => by rw [add_plain, blk_cell hx, ← hu]; unfold encR; rw [← List.getElem?_toArray]) (fun u hu => by
    unfold encR at hu
    simp only [List.mem_cons, List.not_mem_nil, or_false] at hu
    rcases hu with rfl | rfl | rfl | rfl | rfl | rfl | rfl | rfl <;> rfl) hn hs
  have hat : v'.ownBlock = v.ownBlock ∨ ∃ b, v'.ownBlock = some b ∧ W.heap.size ≤ b := e4.imp id (fun h => ⟨_, h, Nat.le_refl _⟩)
  exact ⟨v', w', e1, Kd.R_appended h0 hr (k29_mkM W base _ x hM) (fun k hk => hk) hfresh e2 e3 hat, e3, hat⟩
def IX (W : World) (base g : Nat) (l : List R0) : Prop := ∃ A c, W.heap[g]? = some (.cells #[.slice A l.length c] 57 (0, 0)) ∧ k29.R 29 W base (fun k => g < k) (.slice A l.length c) l ∧ base ≤ g
theorem IX.below {W W' : World} {base g : Nat} {l : List R0} (h : IX W base g l) (hb : Below W.heap.size W W') : IX W' base g l := by
  obtain ⟨A, c, hz, hR, hg⟩ := h
  exact ⟨A, c, blk_below hz hb, Kd.R_below hR hb, hg⟩
def IXr (W : World) (base g : Nat) (l : List R0) (r : Option Nat) : Prop := ∃ A c, W.heap[g]? = some (.cells #[.slice A l.length c] 57 (0, 0)) ∧ k29.R 29 W base (fun k => g < k) (.slice A l.length c) l ∧ base ≤ g ∧ r = (Value.slice A l.length c).ownBlock
theorem IXr.ix {W : World} {base g : Nat} {l : List R0} {r : Option Nat} (h : IXr W base g l r) : IX W base g l := by
  obtain ⟨A, c, h1, h2, h3, _⟩ := h
  exact ⟨A, c, h1, h2, h3⟩
theorem IX.r {W : World} {base g : Nat} {l : List R0} (h : IX W base g l) : ∃ r, IXr W base g l r := by
  obtain ⟨A, c, h1, h2, h3⟩ := h
  exact ⟨_, A, c, h1, h2, h3, rfl⟩
theorem IXr.below {W W' : World} {base g : Nat} {l : List R0} {r : Option Nat} (h : IXr W base g l r) (hb : Below W.heap.size W W') : IXr W' base g l r := by
  obtain ⟨A, c, hz, hR, hg, hr⟩ := h
  exact ⟨A, c, blk_below hz hb, Kd.R_below hR hb, hg, hr⟩
set_option maxHeartbeats 2000000 in
set_option maxRecDepth 100000 in
theorem place_calls {W : World} {base g : Nat} {l : List R0} (h : IX W base g l) (hr : Rising keyR l) (hn : l.length ≤ 10000) (id : Int) :
    Calls Try.prog 27 #[.pointer (some ⟨g, 0, none⟩), .int .u64 id] W fun e w' => e = .returned (.tuple #[.int .i64 (low keyR l id : Int), .bool (hasKey keyR l id)]) ∧ Below W.heap.size W w' := by
  obtain ⟨A, c, hz, hR, hg⟩ := h
  obtain ⟨A', c', hv, hl, hC⟩ := Kd.R_reads hR
  injection hv with e1 _ e3
  subst e1 e3
  have HS := Aside0.mk (search_calls l A c id W hn hr hC)
  have c0 := blk_cell hz 0
  clear hz hR hC hl hg hr hn
  go_enter Try.func27, Try.ntmps27
  go_wp2_with (go_at_call 35; refine HS.out.mono ?_; rintro e w2 ⟨rfl, hb⟩; have HB := Aside0.mk hb; clear hb)
  go_ret2
  exact ⟨rfl, HB.out⟩
end Go.Proofs.Ytaepbgieahedjaa.QS
namespace Go.Proofs.Ytaepbgieahedjaa.QS
set_option linter.unusedVariables false
set_option linter.unusedSimpArgs false
open Go.RowKit Go.Proofs.Ytaepbgieahedjaa.Hp Go.Proofs.YtaepbgieahedjaaW.PrintWords Go.Proofs.YtaepbgieahedjaaW.PrintLast Go.Proofs.YtaepbgieahedjaaW.PrintMore
open Go.Proofs.Ytaepbgieahedjaa.IP
section
variable {P : Program} {ops : Array Oper} {rest : List Oper} {Q : Exit → Act → World → Prop}
theorem app_wp {o : Oper} {a : Act} {w w' : World} (hgd : o.guard = none) (s x : Operand) (t : TypeId)
    (ho : o.op = .call { callee := .builtin .append, args := #[s, x], argTypes := #[t, t] }) {v xv v' : Value} (hs : a.eval s = v) (hx : a.eval x = xv)
    (hr : (Builtin.append_ #[t, t] o.type #[v, xv]).run P w = .ok v' w') (h : wpList P ops Q rest (a.put o.dst v') w') : wpList P ops Q (o :: rest) a w := by
  refine wpList_plain hgd fun K hK => ?_
  unfold Oper.wp execOp
  simp only [ho, resolve, invoke, builtin, Sem.run_bind, Sem.run_pure, Result.andThen_ok, List.map_toArray, List.map_cons, List.map_nil, hs, hx, hr]
  exact hK _ _ h
end
def InsTo (W w' : World) (e : Ending) (base : Nat) (ok : Nat → Prop) (own : Option Nat) (l : List R0) : Prop := ∃ A c, e = .returned (.slice A l.length c) ∧ k29.R 29 w' base ok (.slice A l.length c) l ∧ W.grownBy w' own ∧ ∀ k, (Value.slice A l.length c).ownBlock = some k → own = some k ∨ W.heap.size ≤ k
set_option maxHeartbeats 4000000 in
set_option maxRecDepth 100000 in
theorem insert_end {W : World} {base gx : Nat} {l : List R0} {A : Option Addr} {c : Nat} {ok : Nat → Prop} (x : R0) (Ax : Option Addr) (cx : Nat) (hR : k29.R 29 W base ok (.slice A l.length c) l) (hc : l.length ≤ c) (hM : (Kd.int .i64).R 3 W base (fun k => ok k ∧ some k ≠ (Value.slice A l.length c).ownBlock) (.slice Ax x.f7.length cx) x.f7)
    (hx : W.heap[gx]? = some (.cells #[.int .u64 x.f0, .int .u64 x.f1, .int .i64 x.f2, .int .i64 x.f3, .int .u64 x.f4, .bool x.f5, .int .i64 x.f6, .slice Ax x.f7.length cx] 29 (0, 0))) (hn : l.length + 1 ≤ 100000) (hs : base ≤ W.heap.size) (hfresh : ∀ k, W.heap.size ≤ k → ok k) :
    Calls Try.prog 30 #[.slice A l.length c, .int .i64 (l.length : Int), .slice (some ⟨gx, 0, none⟩) 1 1] W fun e w' => InsTo W w' e base ok (Value.slice A l.length c).ownBlock (l ++ [x]) := by
  obtain ⟨i0, hi0, hsz⟩ := Option.map_eq_some_iff.1 (show (Try.prog.info? 29).map (·.size) = some 8 by kernel_rfl)
  obtain ⟨A0, hsl⟩ : ∃ A0, ∀ W, (Instr.slice 22 (.slice A l.length c) (some (.int .i64 (l.length : Int))) none none).run Try.prog W = .ok (.slice A0 0 (c - l.length)) W := ⟨_, fun W => by
    have k := cut_from (P := Try.prog) 22 29 .i64 Try.underlying22 hi0 8 hsz A l.length c (l.length : Int) (by omega) (by omega) W
    rw [Int.toNat_natCast, Nat.sub_self] at k
    exact k⟩
  obtain ⟨v', w', hr, hR', hg, hat⟩ := rec_app x Ax cx hR hM hx hn hs hfresh
  obtain ⟨A2, c2, hv⟩ := Kd.R_slice hR'
  subst hv
  have HR := Aside0.mk (And.intro hR' (And.intro hg hat))
  have HRUN := Aside0.mk hr
  clear hi0 hsz hR hM hx hfresh hg hat hR' hr
  go_enter Try.func30, Try.ntmps30
  go_wp2_with (at_builtin; refine app_wp rfl _ _ 22 rfl rfl rfl HRUN.out ?_)
  go_ret
  exact ⟨A2, c2, by rw [List.length_append]; rfl, HR.out.1, HR.out.2.1, fun k hk => HR.out.2.2.elim (fun h => .inl (h.symm.trans hk)) (fun ⟨b, hb, hle⟩ => .inr (by rw [hb] at hk; rw [← Option.some.inj hk]; exact hle))⟩
end Go.Proofs.Ytaepbgieahedjaa.QS
namespace Go.Proofs.Ytaepbgieahedjaa.QS
set_option linter.unusedVariables false
set_option linter.unusedSimpArgs false
open Go.RowKit Go.Proofs.Ytaepbgieahedjaa.Hp Go.Proofs.YtaepbgieahedjaaW.PrintWords Go.Proofs.YtaepbgieahedjaaW.PrintLast Go.Proofs.YtaepbgieahedjaaW.PrintMore
open Go.Proofs.Ytaepbgieahedjaa.IP
set_option maxHeartbeats 4000000 in
set_option maxRecDepth 100000 in
theorem isome_calls (K : FuncId) (fn : Func) (caps : Array Value) (hK : Try.prog.funcs[K]? = some fn) (hname : (fn.name == "runtime.NumGoroutine") = false) (hbody : fn.body.isSome = true) (so : R0 → Bool) (l : List R0) (base g : Nat) (w : World) (hn : l.length ≤ 1000) (hp : ∀ x ∈ l, x.f7.length ≤ 1000) (hX : IX w base g l)
    (hso : ∀ W, Below w.heap.size w W → ∀ (x : R0) (Ap : Option Addr) (cpp : Nat), Calls Try.prog K (#[.agg #[.int .u64 x.f0, .int .u64 x.f1, .int .i64 x.f2, .int .i64 x.f3, .int .u64 x.f4, .bool x.f5, .int .i64 x.f6, .slice Ap x.f7.length cpp]] ++ caps) W fun e w' => e = .returned (.bool (so x)) ∧ Below W.heap.size W w') :
    Calls Try.prog 25 #[.pointer (some ⟨g, 0, none⟩), .func (.func K) #[] caps] w fun e w' => ∃ v, e = .returned v ∧ Kd.R k29 29 w' w.heap.size (fun k => w.heap.size ≤ k) v (l.filter so) ∧ Below w.heap.size w w' := by
  obtain ⟨A, cp, hz, hRx, hgb⟩ := hX
  obtain ⟨A', cp', hv, hcl, hC⟩ := Kd.R_reads hRx
  injection hv with e1 _ e3
  subst e1 e3
  have HR := Aside0.mk hC
  have z0 := blk_cell hz 0
  have HN := Aside0.mk (And.intro hn hp)
  have HSO := Aside0.mk hso
  have hcf := fun (args : Array Value) (W : World) => enters_ (P := Try.prog) hK hname hbody args W
  clear hC hn hp hso hK hname hbody hz hRx hgb hcl
  go_enter Try.func25, Try.ntmps25
  go_wp2_with fail
  go_loopg [5, 16] (l.length + 1) (fun kq v5 v16 w' => ∃ i : Nat, v16 = .int .i64 (i : Int) ∧ Aside0 (i ≤ l.length ∧ kq + i = l.length + 1) ∧ Aside0 (Kd.R k29 29 w' w.heap.size (fun k => w.heap.size ≤ k) v5 ((l.take i).filter so)) ∧ Aside0 (Below w.heap.size w w'))
  case atStart => exact ⟨0, rfl, ⟨Nat.zero_le _, rfl⟩, ⟨Kd.R_nil _ _ _ _ _⟩, ⟨Below.refl _ _⟩⟩
  case round =>
    obtain ⟨i, rfl, HI, HO, BB⟩ := hrel
    by_cases hi : i < l.length
    case neg =>
      have hie : i = l.length := by have := HI.out; omega
      subst hie
      have t1 : decide ((l.length : Int) < (l.length : Int)) = false := decide_eq_false (by omega)
      have ho := HO.out
      rw [List.take_length] at ho
      replace ho := Aside0.mk ho
      clear HO hi
      go_wp2_with fail
      go_ret
      exact ⟨_, rfl, ho.out, BB.out⟩
    case pos =>
      have t1 : decide ((i : Int) < (l.length : Int)) = true := decide_eq_true (by omega)
      have t2 : decide (i < l.length) = true := decide_eq_true hi
      obtain ⟨ad, Ap, cpp, rfl, hx0, hx1, hx2, hx3, hx4, hx5, hx6, hx7, hlp, hCp⟩ := at_T29 (Kd.C_below HR.out BB.out) (i : Int) (by omega) (by omega)
      obtain ⟨x, hxe⟩ : ∃ x, x = l[i] := ⟨_, rfl⟩
      have hrd : rd_T29 l (i : Int) = x := by
        unfold rd_T29
        rw [hxe, Int.toNat_natCast, List.getD_eq_getElem?_getD, List.getElem?_eq_getElem hi]
        rfl
      rw [hrd] at hx0 hx1 hx2 hx3 hx4 hx5 hx6 hx7 hlp hCp
      rw [Int.toNat_natCast] at hx0 hx1 hx2 hx3 hx4 hx5 hx6 hx7
      have hxp := HN.out.2 x (by rw [hxe]; exact List.getElem_mem hi)
      have p1 : (0 : Int) ≤ (i : Int) := by omega
      have q1 : (i : Int) < (l.length : Int) := by omega
      replace p1 := eq_true p1
      replace q1 := eq_true q1
      have HCP := Aside0.mk (And.intro hlp (And.intro hCp hxp))
      have hfil : (l.take (i + 1)).filter so = (l.take i).filter so ++ (if so x = true then [x] else []) := by
        rw [List.take_add_one, List.getElem?_eq_getElem hi, List.filter_append, ← hxe]
        by_cases h : so x = true
        · rw [if_pos h]; simp [h]
        · rw [if_neg h]; simp [h]
      have HFI := Aside0.mk hfil
      have HI2 := Aside0.mk hi
      have HWI : IntKind.i64.wrap ((i : Int) + 1) = ((i + 1 : Nat) : Int) := by rw [i64_w]; unfold wrap64; have := HN.out.1; omega
      clear hlp hCp hxp hrd hxe hfil hi
      have hbx := heap_alloc_new wr (.cells #[.int .u64 x.f0, .int .u64 x.f1, .int .i64 x.f2, .int .i64 x.f3, .int .u64 x.f4, .bool x.f5, .int .i64 x.f6, .slice Ap x.f7.length cpp] 29)
      have hbb := below_alloc BB.out (.cells #[.int .u64 x.f0, .int .u64 x.f1, .int .i64 x.f2, .int .i64 x.f3, .int .u64 x.f4, .bool x.f5, .int .i64 x.f6, .slice Ap x.f7.length cpp] 29)
      have hsc := Aside0.mk (HSO.out _ hbb x Ap cpp)
      have HOb := Kd.R_mono (Kd.R_bound HO.out) (fun k hk => (⟨hk.1, hk.2.2.1⟩ : w.heap.size ≤ k ∧ k < wr.heap.size))
      have HO1 := Aside0.mk (Kd.R_alloc HOb (.cells #[.int .u64 x.f0, .int .u64 x.f1, .int .i64 x.f2, .int .i64 x.f3, .int .u64 x.f4, .bool x.f5, .int .i64 x.f6, .slice Ap x.f7.length cpp] 29))
      have HCP1 := Aside0.mk (Kd.C_below HCP.out.2.1 (below_alloc (Below.refl wr.heap.size wr) (.cells #[.int .u64 x.f0, .int .u64 x.f1, .int .i64 x.f2, .int .i64 x.f3, .int .u64 x.f4, .bool x.f5, .int .i64 x.f6, .slice Ap x.f7.length cpp] 29)))
      have HLT := Aside0.mk (Kd.R_lt HO.out)
      clear HOb
      replace hbx := Aside0.mk hbx
      replace hbb := Aside0.mk hbb
      have HSZ : Aside0 (wr.heap.size < (wr.alloc (.cells #[.int .u64 x.f0, .int .u64 x.f1, .int .i64 x.f2, .int .i64 x.f3, .int .u64 x.f4, .bool x.f5, .int .i64 x.f6, .slice Ap x.f7.length cpp] 29)).heap.size) := ⟨by simp⟩
      go_upto_region 7 with fail
      generalize wr.alloc (.cells #[.int .u64 x.f0, .int .u64 x.f1, .int .i64 x.f2, .int .i64 x.f3, .int .u64 x.f4, .bool x.f5, .int .i64 x.f6, .slice Ap x.f7.length cpp] 29) = W1 at hbx hbb hsc HO1 HCP1 HSZ ⊢
      clear hx0 hx1 hx2 hx3 hx4 hx5 hx6 hx7 p1 q1 t1 t2 HO
      have c0 := blk_cell hbx.out 0
      have c1 := blk_cell hbx.out 1
      have c2 := blk_cell hbx.out 2
      have c3 := blk_cell hbx.out 3
      have c4 := blk_cell hbx.out 4
      have c5 := blk_cell hbx.out 5
      have c6 := blk_cell hbx.out 6
      have c7 := blk_cell hbx.out 7
      cases hsx : so x with
      | false =>
        rw [hsx] at hsc
        have hfl : (l.take (i + 1)).filter so = (l.take i).filter so := by rw [HFI.out, if_neg (by rw [hsx]; simp), List.append_nil]
        replace hfl := Aside0.mk hfl
        clear hsx
        go_wp2_with (refine hsc.out.mono ?_; rintro e w2 ⟨rfl, hb⟩; replace hb := Aside0.mk hb)
        go_roundg (l.length - i)
        case measure => have := HI.out; have := HI2.out; omega
        case rel => exact ⟨i + 1, by first | rfl | (rw [← i64_w, HWI]) | (simp; unfold wrap64; have := HI2.out; have := HN.out.1; omega), ⟨by have := HI2.out; omega, by have := HI.out; have := HI2.out; omega⟩, ⟨by rw [hfl.out]; exact Kd.R_mono (Kd.R_below HO1.out hb.out) (fun _ hk => hk.1)⟩, ⟨below_then hbb.out hbb.out.size hb.out⟩⟩
      | true =>
        rw [hsx] at hsc
        have hfl : (l.take (i + 1)).filter so = (l.take i).filter so ++ [x] := by rw [HFI.out, if_pos (by rw [hsx])]
        replace hfl := Aside0.mk hfl
        clear hsx
        go_upto_region 8 with (refine hsc.out.mono ?_; rintro e w2 ⟨rfl, hb⟩)
        clear c0 c1 c2 c3 c4 c5 c6 c7
        have hbx2 := blk_below hbx.out hb
        have c0 := blk_cell hbx2 0
        have c1 := blk_cell hbx2 1
        have c2 := blk_cell hbx2 2
        have c3 := blk_cell hbx2 3
        have c4 := blk_cell hbx2 4
        have c5 := blk_cell hbx2 5
        have c6 := blk_cell hbx2 6
        have c7 := blk_cell hbx2 7
        have HOC := Aside0.mk (copy_calls x Ap cpp w2 (by have := HCP.out.2.2; omega) (Kd.C_below HCP1.out hb))
        have HO2 := Aside0.mk (Kd.R_below HO1.out hb)
        have HB2 := Aside0.mk (below_then hbb.out hbb.out.size hb)
        have HSZ2 : Aside0 (wr.heap.size < w2.heap.size) := ⟨Nat.lt_of_lt_of_le HSZ.out hb.size⟩
        clear hbx hbx2 hb HO1 hbb HCP1 HSZ hsc
        have HNW : Aside0 (∀ k, w2.heap.size ≤ k → w.heap.size ≤ k ∧ some k ≠ u5.ownBlock) := ⟨fun k hk => ⟨by have := HSZ2.out; have := BB.out.size; omega, fun h => by have := HLT.out k h.symm; have := HSZ2.out; omega⟩⟩
        have HLN : Aside0 (((l.take i).filter so).length ≤ 1000) := ⟨by have h1 := List.length_filter_le so (l.take i); have h2 := List.length_take_le i l; have := HN.out.1; rw [List.length_take] at h1; omega⟩
        go_wp2_with (first | (go_at_call 31; refine HOC.out.mono ?_; rintro e w4 ⟨A2, cp2, rfl, h2, hb⟩; have HM := Aside0.mk (k29_mkM w4 w.heap.size _ x (Kd.R_lower h2 HB2.out.size)); have HO3 := Aside0.mk (Kd.R_mono (Kd.R_below HO2.out hb) (fun _ hk => hk.1)); have HB3 := Aside0.mk (below_then HB2.out HB2.out.size hb); have HSZ4 := Aside0.mk hb.size; clear hb h2 c0 c1 c2 c3 c4 c5 c6 c7) | (at_builtin; (refine Kd.R_append k29 w.heap.size rfl _ _ 22 29 _ 80 rfl Try.underlying22 inf_rec rfl (by decide) (by decide) u5 _ x _ (fun k => w.heap.size ≤ k) (fun k => w2.heap.size ≤ k) rfl rfl HM.out HNW.out (fun k hk => Nat.le_trans HB3.out.size hk) HO3.out HB3.out HB3.out.size (Nat.le_trans (Nat.mul_le_mul_right 80 (Nat.succ_le_succ HLN.out)) (by decide)) ?_); intro v1 w5 ho5 hb5 hg5 _; replace ho5 := Aside0.mk ho5; replace hb5 := Aside0.mk hb5; clear hg5))
        go_roundg (l.length - i)
        case measure => have := HI.out; have := HI2.out; omega
        case rel => exact ⟨i + 1, by first | rfl | (rw [← i64_w, HWI]) | (simp; unfold wrap64; have := HI2.out; have := HN.out.1; omega), ⟨by have := HI2.out; omega, by have := HI.out; have := HI2.out; omega⟩, ⟨by rw [hfl.out]; exact ho5.out⟩, hb5⟩
end Go.Proofs.Ytaepbgieahedjaa.QS
namespace Go.Proofs.Ytaepbgieahedjaa.QS
set_option linter.unusedVariables false
set_option linter.unusedSimpArgs false
open Go.RowKit Go.Proofs.Ytaepbgieahedjaa.Hp Go.Proofs.YtaepbgieahedjaaW.PrintWords Go.Proofs.YtaepbgieahedjaaW.PrintLast Go.Proofs.YtaepbgieahedjaaW.PrintMore
open Go.Proofs.Ytaepbgieahedjaa.IP
def SomeTo (w w' : World) (e : Ending) (l : List R0) : Prop := ∃ v, e = .returned v ∧ Kd.R k29 29 w' w.heap.size (fun k => w.heap.size ≤ k) v l ∧ Below w.heap.size w w'
set_option maxHeartbeats 2000000 in
set_option maxRecDepth 100000 in
theorem all_fn (x : R0) (Ap : Option Addr) (cpp : Nat) (W : World) : Calls Try.prog 32 (#[.agg #[.int .u64 x.f0, .int .u64 x.f1, .int .i64 x.f2, .int .i64 x.f3, .int .u64 x.f4, .bool x.f5, .int .i64 x.f6, .slice Ap x.f7.length cpp]] ++ #[]) W fun e w' => e = .returned (.bool true) ∧ Below W.heap.size W w' := by
  have hb := Aside0.mk (below_alloc (Below.refl W.heap.size W) (.cells #[.int .u64 x.f0, .int .u64 x.f1, .int .i64 x.f2, .int .i64 x.f3, .int .u64 x.f4, .bool x.f5, .int .i64 x.f6, .slice Ap x.f7.length cpp] 29))
  show Calls Try.prog 32 #[.agg #[.int .u64 x.f0, .int .u64 x.f1, .int .i64 x.f2, .int .i64 x.f3, .int .u64 x.f4, .bool x.f5, .int .i64 x.f6, .slice Ap x.f7.length cpp]] W _
  go_enter Try.func32, Try.ntmps32
  go_wp2_with fail
  go_ret
  first | exact ⟨rfl, hb.out⟩ | exact ⟨rfl, Below.refl _ _⟩
set_option maxHeartbeats 2000000 in
set_option maxRecDepth 100000 in
theorem all_calls {W : World} {base g : Nat} {l : List R0} (h : IX W base g l) (hn : l.length ≤ 1000) (hp : ∀ x ∈ l, x.f7.length ≤ 1000) : Calls Try.prog 21 #[.pointer (some ⟨g, 0, none⟩)] W fun e w' => SomeTo W w' e l := by
  have HS := Aside0.mk (isome_calls 32 _ #[] Try.func32 rfl rfl (fun _ => true) l base g W hn hp h (fun W' hW x Ap cpp => all_fn x Ap cpp W'))
  clear h hn hp
  go_enter Try.func21, Try.ntmps21
  go_wp2_with (go_at_call 25; refine HS.out.mono ?_; rintro e w2 ⟨v, rfl, hR, hb⟩; rw [show (l.filter fun _ => true) = l from List.filter_eq_self.2 (fun _ _ => rfl)] at hR; have HR := Aside0.mk hR; have HB := Aside0.mk hb; clear hR hb)
  go_ret
  exact ⟨_, rfl, HR.out, HB.out⟩
set_option maxHeartbeats 2000000 in
set_option maxRecDepth 100000 in
theorem over_fn {gb : Nat} {n : Int} (x : R0) (Ap : Option Addr) (cpp : Nat) (W : World) (hc : W.cell? ⟨gb, 0, none⟩ = some (.int .u64 n)) : Calls Try.prog 33 (#[.agg #[.int .u64 x.f0, .int .u64 x.f1, .int .i64 x.f2, .int .i64 x.f3, .int .u64 x.f4, .bool x.f5, .int .i64 x.f6, .slice Ap x.f7.length cpp]] ++ #[.pointer (some ⟨gb, 0, none⟩)]) W fun e w' => e = .returned (.bool (decide (x.f4 ≤ n))) ∧ Below W.heap.size W w' := by
  have hz := heap_alloc_new W (.cells #[.int .u64 x.f0, .int .u64 x.f1, .int .i64 x.f2, .int .i64 x.f3, .int .u64 x.f4, .bool x.f5, .int .i64 x.f6, .slice Ap x.f7.length cpp] 29)
  have hb := below_alloc (Below.refl W.heap.size W) (.cells #[.int .u64 x.f0, .int .u64 x.f1, .int .i64 x.f2, .int .i64 x.f3, .int .u64 x.f4, .bool x.f5, .int .i64 x.f6, .slice Ap x.f7.length cpp] 29)
  have hk := (hb.cell (World.block_lt_of_cell? W _ hc)).trans hc
  obtain ⟨g2, hg2⟩ : ∃ g, g = W.heap.size := ⟨_, rfl⟩
  show Calls Try.prog 33 #[.agg #[.int .u64 x.f0, .int .u64 x.f1, .int .i64 x.f2, .int .i64 x.f3, .int .u64 x.f4, .bool x.f5, .int .i64 x.f6, .slice Ap x.f7.length cpp], .pointer (some ⟨gb, 0, none⟩)] W _
  clear hc
  go_enter Try.func33, Try.ntmps33
  go_upto_region 1 with fail
  generalize W.alloc (.cells #[.int .u64 x.f0, .int .u64 x.f1, .int .i64 x.f2, .int .i64 x.f3, .int .u64 x.f4, .bool x.f5, .int .i64 x.f6, .slice Ap x.f7.length cpp] 29) = W1 at hz hb hk ⊢
  rw [← hg2] at hz ⊢
  have HB := Aside0.mk hb
  have c4 := blk_cell hz 4
  clear hz hb hg2
  go_wp2_with fail
  go_ret
  exact ⟨rfl, HB.out⟩
set_option maxHeartbeats 2000000 in
set_option maxRecDepth 100000 in
theorem over_calls {W : World} {base g : Nat} {l : List R0} (h : IX W base g l) (hn : l.length ≤ 1000) (hp : ∀ x ∈ l, x.f7.length ≤ 1000) (n : Int) : Calls Try.prog 22 #[.pointer (some ⟨g, 0, none⟩), .int .u64 n] W fun e w' => SomeTo W w' e (l.filter fun x => decide (x.f4 ≤ n)) := by
  have hz := heap_alloc_new W (.cells #[.int .u64 n] 23)
  have hb := below_alloc (Below.refl W.heap.size W) (.cells #[.int .u64 n] 23)
  obtain ⟨gb, hgb⟩ : ∃ g, g = W.heap.size := ⟨_, rfl⟩
  have HX := Aside0.mk (h.below hb)
  have HN := Aside0.mk (And.intro hn hp)
  clear h hn hp
  go_enter Try.func22, Try.ntmps22
  go_upto_region 1 with fail
  generalize W.alloc (.cells #[.int .u64 n] 23) = W1 at hz hb HX ⊢
  rw [← hgb] at hz ⊢
  have HS := Aside0.mk (isome_calls 33 _ #[.pointer (some ⟨gb, 0, none⟩)] Try.func33 rfl rfl (fun x => decide (x.f4 ≤ n)) l base g W1 HN.out.1 HN.out.2 HX.out (fun W' hW x Ap cpp => over_fn x Ap cpp W' (blk_cell (blk_below hz hW) 0)))
  have HB1 := Aside0.mk hb
  clear hz hb hgb
  go_wp2_with (go_at_call 25; refine HS.out.mono ?_; rintro e w2 ⟨v, rfl, hR, hb⟩; have HR := Aside0.mk hR; have HB := Aside0.mk hb; clear hR hb)
  go_ret
  exact ⟨_, rfl, Kd.R_mono (Kd.R_lower HR.out HB1.out.size) (fun k hk => Nat.le_trans HB1.out.size hk), below_then HB1.out HB1.out.size HB.out⟩
set_option maxHeartbeats 2000000 in
set_option maxRecDepth 100000 in
theorem alive_fn {gb : Nat} {n : Int} (x : R0) (Ap : Option Addr) (cpp : Nat) (W : World) (hc : W.cell? ⟨gb, 0, none⟩ = some (.int .u64 n)) : Calls Try.prog 34 (#[.agg #[.int .u64 x.f0, .int .u64 x.f1, .int .i64 x.f2, .int .i64 x.f3, .int .u64 x.f4, .bool x.f5, .int .i64 x.f6, .slice Ap x.f7.length cpp]] ++ #[.pointer (some ⟨gb, 0, none⟩)]) W fun e w' => e = .returned (.bool (decide (n < x.f4))) ∧ Below W.heap.size W w' := by
  have hz := heap_alloc_new W (.cells #[.int .u64 x.f0, .int .u64 x.f1, .int .i64 x.f2, .int .i64 x.f3, .int .u64 x.f4, .bool x.f5, .int .i64 x.f6, .slice Ap x.f7.length cpp] 29)
  have hb := below_alloc (Below.refl W.heap.size W) (.cells #[.int .u64 x.f0, .int .u64 x.f1, .int .i64 x.f2, .int .i64 x.f3, .int .u64 x.f4, .bool x.f5, .int .i64 x.f6, .slice Ap x.f7.length cpp] 29)
  have hk := (hb.cell (World.block_lt_of_cell? W _ hc)).trans hc
  obtain ⟨g2, hg2⟩ : ∃ g, g = W.heap.size := ⟨_, rfl⟩
  show Calls Try.prog 34 #[.agg #[.int .u64 x.f0, .int .u64 x.f1, .int .i64 x.f2, .int .i64 x.f3, .int .u64 x.f4, .bool x.f5, .int .i64 x.f6, .slice Ap x.f7.length cpp], .pointer (some ⟨gb, 0, none⟩)] W _
  clear hc
  go_enter Try.func34, Try.ntmps34
  go_upto_region 1 with fail
  generalize W.alloc (.cells #[.int .u64 x.f0, .int .u64 x.f1, .int .i64 x.f2, .int .i64 x.f3, .int .u64 x.f4, .bool x.f5, .int .i64 x.f6, .slice Ap x.f7.length cpp] 29) = W1 at hz hb hk ⊢
  rw [← hg2] at hz ⊢
  have HB := Aside0.mk hb
  have c4 := blk_cell hz 4
  clear hz hb hg2
  go_wp2_with fail
  go_ret
  exact ⟨rfl, HB.out⟩
set_option maxHeartbeats 2000000 in
set_option maxRecDepth 100000 in
theorem alive_calls {W : World} {base g : Nat} {l : List R0} (h : IX W base g l) (hn : l.length ≤ 1000) (hp : ∀ x ∈ l, x.f7.length ≤ 1000) (n : Int) : Calls Try.prog 24 #[.pointer (some ⟨g, 0, none⟩), .int .u64 n] W fun e w' => SomeTo W w' e (l.filter fun x => decide (n < x.f4)) := by
  have hz := heap_alloc_new W (.cells #[.int .u64 n] 23)
  have hb := below_alloc (Below.refl W.heap.size W) (.cells #[.int .u64 n] 23)
  obtain ⟨gb, hgb⟩ : ∃ g, g = W.heap.size := ⟨_, rfl⟩
  have HX := Aside0.mk (h.below hb)
  have HN := Aside0.mk (And.intro hn hp)
  clear h hn hp
  go_enter Try.func24, Try.ntmps24
  go_upto_region 1 with fail
  generalize W.alloc (.cells #[.int .u64 n] 23) = W1 at hz hb HX ⊢
  rw [← hgb] at hz ⊢
  have HS := Aside0.mk (isome_calls 34 _ #[.pointer (some ⟨gb, 0, none⟩)] Try.func34 rfl rfl (fun x => decide (n < x.f4)) l base g W1 HN.out.1 HN.out.2 HX.out (fun W' hW x Ap cpp => alive_fn x Ap cpp W' (blk_cell (blk_below hz hW) 0)))
  have HB1 := Aside0.mk hb
  clear hz hb hgb
  go_wp2_with (go_at_call 25; refine HS.out.mono ?_; rintro e w2 ⟨v, rfl, hR, hb⟩; have HR := Aside0.mk hR; have HB := Aside0.mk hb; clear hR hb)
  go_ret
  exact ⟨_, rfl, Kd.R_mono (Kd.R_lower HR.out HB1.out.size) (fun k hk => Nat.le_trans HB1.out.size hk), below_then HB1.out HB1.out.size HB.out⟩
end Go.Proofs.Ytaepbgieahedjaa.QS
namespace Go.Proofs.Ytaepbgieahedjaa.QS
set_option linter.unusedVariables false
set_option linter.unusedSimpArgs false
open Go.RowKit Go.Proofs.Ytaepbgieahedjaa.Hp Go.Proofs.YtaepbgieahedjaaW.PrintWords Go.Proofs.YtaepbgieahedjaaW.PrintLast Go.Proofs.YtaepbgieahedjaaW.PrintMore
open Go.Proofs.Ytaepbgieahedjaa.IP
end Go.Proofs.Ytaepbgieahedjaa.QS
namespace Go.Proofs.Ytaepbgieahedjaa.QS
set_option linter.unusedVariables false
set_option linter.unusedSimpArgs false
open Go.RowKit Go.Proofs.Ytaepbgieahedjaa.Hp Go.Proofs.YtaepbgieahedjaaW.PrintWords Go.Proofs.YtaepbgieahedjaaW.PrintLast Go.Proofs.YtaepbgieahedjaaW.PrintMore
open Go.Proofs.Ytaepbgieahedjaa.IP
section
variable {P : Program} {ops : Array Oper} {rest : List Oper} {Q : Exit → Act → World → Prop}
theorem run_copy_rowS (w : World) (dT sT ty elem : TypeId) (g o dLen dCap : Nat) (a : Addr) (sLen sCap sz : Nat) (cur : Array Value) (t : TypeId) (cs : List Value)
    (hu : P.underlying dT = some (.slice elem)) (hs : (P.info? elem).map (·.size) = some sz)
    (hg : w.heap[g]? = some (.cells cur t (0, 0))) (hn : cs.length = Nat.min sLen dLen * sz)
    (hsrc : ∀ j v, cs[j]? = some v → w.cell? (a.add j) = some v) (hfit : o + cs.length ≤ cur.size) (h1 : ∀ v ∈ cs, v.oneCell' = true) :
    (Builtin.copy_ #[dT, sT] ty #[.slice (some ⟨g, o, none⟩) dLen dCap, .slice (some a) sLen sCap]).run P w =
      .ok (goInt (Nat.min sLen dLen)) (w.setRow g (cur.toList.take o ++ cs ++ cur.toList.drop (o + cs.length)).toArray) := by
  have hl := run_loadCells_list (P := P) w a cs hsrc
  have hst := run_storeCells_at P g o t cs 0 cur w hg (by simpa using hfit) h1
  cases hq : P.info? elem with
  | none => simp [hq] at hs
  | some i =>
    have hi : i.size = sz := by simpa [hq] using hs
    simp [Builtin.copy_, run_underlying hu, Builtin.lenOf, Builtin.firstCells, sizeOf, typeInfo, hq, hi, ← hn, hl, hst]
theorem copy_wp {o : Oper} {a : Act} {w w' : World} (hgd : o.guard = none) (d s : Operand) (t : TypeId)
    (ho : o.op = .call { callee := .builtin .copy, args := #[d, s], argTypes := #[t, t] }) {v u v' : Value} (hd : a.eval d = v) (hs : a.eval s = u)
    (hr : (Builtin.copy_ #[t, t] o.type #[v, u]).run P w = .ok v' w') (h : wpList P ops Q rest (a.put o.dst v') w') : wpList P ops Q (o :: rest) a w := by
  refine wpList_plain hgd fun K hK => ?_
  unfold Oper.wp execOp
  simp only [ho, resolve, invoke, builtin, Sem.run_bind, Sem.run_pure, Result.andThen_ok, List.map_toArray, List.map_cons, List.map_nil, hd, hs, hr]
  exact hK _ _ h
theorem copy_step {o : Oper} {a : Act} {w w' : World} {K : Act → World → Prop} {E : Prop} (hgd : o.guard = none) (d s : Operand) (t : TypeId)
    (ho : o.op = .call { callee := .builtin .copy, args := #[d, s], argTypes := #[t, t] }) {v u v' : Value} (hd : a.eval d = v) (hs : a.eval s = u)
    (hr : (Builtin.copy_ #[t, t] o.type #[v, u]).run P w = .ok v' w') (hK : K (a.put o.dst v') w') : if Region.wanted o (yielded ops a.tmps) = true then Oper.wp P o a w K Q else E := by
  have hw : Region.wanted o (yielded ops a.tmps) = true := by simp [Region.wanted, hgd]
  rw [if_pos hw]
  unfold Oper.wp execOp
  simp only [ho, resolve, invoke, builtin, Sem.run_bind, Sem.run_pure, Result.andThen_ok, List.map_toArray, List.map_cons, List.map_nil, hd, hs, hr]
  exact hK
theorem appz_wp {o : Oper} {a : Act} {w w' : World} (hgd : o.guard = none) (s x : Operand) (t ti : TypeId)
    (ho : o.op = .call { callee := .builtin .append, args := #[s, x], argTypes := #[t, ti] }) {v xv v' : Value} (hs : a.eval s = v) (hx : a.eval x = xv)
    (hr : (Builtin.append_ #[t, ti] o.type #[v, xv]).run P w = .ok v' w') (h : wpList P ops Q rest (a.put o.dst v') w') : wpList P ops Q (o :: rest) a w := by
  refine wpList_plain hgd fun K hK => ?_
  unfold Oper.wp execOp
  simp only [ho, resolve, invoke, builtin, Sem.run_bind, Sem.run_pure, Result.andThen_ok, List.map_toArray, List.map_cons, List.map_nil, hs, hx, hr]
  exact hK _ _ h
end
def shiftL (cur xs ys : List Value) (a s : Nat) : List Value := cur.take (a + s) ++ xs.drop a ++ cur.drop (a + s + (xs.drop a).length)
def insL (cur ys : List Value) (a : Nat) : List Value := cur.take a ++ ys ++ cur.drop (a + ys.length)
theorem ins_shift {cur xs ys : List Value} {a s : Nat} (hy : ys.length = s) (ha : a ≤ xs.length) (hx : cur.take xs.length = xs) (hc : xs.length + s ≤ cur.length) :
    (shiftL cur xs ys a s).length = cur.length ∧ (insL (shiftL cur xs ys a s) ys a).length = cur.length ∧ (insL (shiftL cur xs ys a s) ys a).take (xs.length + s) = xs.take a ++ ys ++ xs.drop a := by
  have h1 : (cur.take (a + s)).length = a + s := by rw [List.length_take]; omega
  have hd : (xs.drop a).length = xs.length - a := List.length_drop
  have hl : (shiftL cur xs ys a s).length = cur.length := by
    unfold shiftL
    rw [List.length_append, List.length_append, h1, hd, List.length_drop]
    omega
  have e1 : (shiftL cur xs ys a s).take a = xs.take a := by
    unfold shiftL
    rw [List.append_assoc, List.take_append_of_le_length (by omega), List.take_take, Nat.min_eq_left (by omega), ← hx, List.take_take, Nat.min_eq_left ha]
  have e2 : (shiftL cur xs ys a s).drop (a + s) = xs.drop a ++ cur.drop (a + s + (xs.drop a).length) := by
    unfold shiftL
    rw [List.append_assoc, List.drop_left' h1]
  have e3 : insL (shiftL cur xs ys a s) ys a = xs.take a ++ ys ++ xs.drop a ++ cur.drop (a + s + (xs.drop a).length) := by
    unfold insL
    rw [e1, hy, e2, List.append_assoc, List.append_assoc, List.append_assoc]
  have ht : (xs.take a).length = a := by rw [List.length_take]; omega
  refine ⟨hl, ?_, ?_⟩
  · unfold insL
    rw [List.length_append, List.length_append, List.length_take, List.length_drop, hl]
    omega
  · rw [e3, List.take_left' (by rw [List.length_append, List.length_append, ht, hd]; omega)]
theorem ins_new {z xs ys : List Value} {a s : Nat} (hy : ys.length = s) (ha : a ≤ xs.length) (hc : xs.length + s ≤ (xs.take a ++ z).length) :
    (insL (xs.take a ++ z) ys a).length = (xs.take a ++ z).length ∧ (shiftL (insL (xs.take a ++ z) ys a) xs ys a s).length = (xs.take a ++ z).length ∧ (shiftL (insL (xs.take a ++ z) ys a) xs ys a s).take (xs.length + s) = xs.take a ++ ys ++ xs.drop a := by
  have ht : (xs.take a).length = a := by rw [List.length_take]; omega
  have hd : (xs.drop a).length = xs.length - a := List.length_drop
  have hl : (insL (xs.take a ++ z) ys a).length = (xs.take a ++ z).length := by
    unfold insL
    rw [List.length_append, List.length_append, List.length_take, List.length_drop]
    omega
  have e1 : (insL (xs.take a ++ z) ys a).take (a + s) = xs.take a ++ ys := by
    unfold insL
    rw [List.take_left' ht, List.take_left' (by rw [List.length_append, ht, hy])]
  refine ⟨hl, ?_, ?_⟩
  · unfold shiftL
    rw [List.length_append, List.length_append, List.length_take, hl, hd, List.length_drop, hl]
    omega
  · unfold shiftL
    rw [e1, List.take_left' (by rw [List.length_append, List.length_append, ht, hy, hd]; omega)]
theorem encs_append (a b : List Rec) : (a ++ b).flatMap Rec.enc = a.flatMap Rec.enc ++ b.flatMap Rec.enc := List.flatMap_append
theorem encs_take (ps : List Rec) (i : Nat) : (ps.take i).flatMap Rec.enc = (ps.flatMap Rec.enc).take (i * 8) := by
  induction ps generalizing i with
  | nil => simp
  | cons a r ih =>
    cases i with
    | zero => simp
    | succ i =>
      rw [List.take_succ_cons, List.flatMap_cons, List.flatMap_cons, ih, show (i + 1) * 8 = (Rec.enc a).length + i * 8 by rw [show (Rec.enc a).length = 8 from rfl]; omega, List.take_length_add_append]
theorem encs_drop (ps : List Rec) (i : Nat) : (ps.drop i).flatMap Rec.enc = (ps.flatMap Rec.enc).drop (i * 8) := by
  induction ps generalizing i with
  | nil => simp
  | cons a r ih =>
    cases i with
    | zero => simp
    | succ i =>
      rw [List.drop_succ_cons, List.flatMap_cons, ih, show (i + 1) * 8 = (Rec.enc a).length + i * 8 by rw [show (Rec.enc a).length = 8 from rfl]; omega, List.drop_length_add_append]
theorem encs_put (ps : List Rec) (i : Nat) (x : Rec) : (putAt ps i x).flatMap Rec.enc = (ps.flatMap Rec.enc).take (i * 8) ++ x.enc ++ (ps.flatMap Rec.enc).drop (i * 8) := by
  unfold putAt
  rw [encs_append, List.flatMap_cons, encs_take, encs_drop, List.append_assoc]
theorem putAt_map {α β : Type} (f : α → β) (l : List α) (i : Nat) (x : α) : (putAt l i x).map f = putAt (l.map f) i (f x) := by
  unfold putAt
  rw [List.map_append, List.map_cons, List.map_take, List.map_drop]
theorem mem_putAt {α : Type} {l : List α} {i : Nat} {x y : α} (h : y ∈ putAt l i x) : y = x ∨ y ∈ l := by
  unfold putAt at h
  rcases List.mem_append.1 h with h | h
  · exact .inr (List.mem_of_mem_take h)
  · rcases List.mem_cons.1 h with h | h
    · exact .inl h
    · exact .inr (List.mem_of_mem_drop h)
theorem encs_one (ps : List Rec) : ∀ u ∈ ps.flatMap Rec.enc, u.oneCell' = true := by
  intro u hu
  obtain ⟨x, _, hx⟩ := List.mem_flatMap.1 hu
  exact enc_one x u hx
theorem putAt_length {α : Type} {l : List α} {i : Nat} {x : α} (hi : i ≤ l.length) : (putAt l i x).length = l.length + 1 := putAt_len hi
theorem insTo_mk {W w' : World} {base : Nat} {l : List R0} {i g c : Nat} {ok : Nat → Prop} {own : Option Nat} {x : R0} {Ax : Option Addr} {cx : Nat} {ps : List Rp} (hps : ps.map (·.1) = l) (hi : i ≤ l.length)
    {cur : Array Value} (hz : w'.heap[g]? = some (.cells cur 29 (0, 0))) (hcs : cur.size = c * 8) (hnc : l.length + 1 ≤ c) (hcm : c ≤ maxLen) (hgb : base ≤ g) (hok : ok g)
    (ht : cur.toList.take (((ps.map recOf).flatMap Rec.enc).length + 8) = ((ps.map recOf).flatMap Rec.enc).take (i * 8) ++ encR x Ax cx ++ ((ps.map recOf).flatMap Rec.enc).drop (i * 8))
    (hmade : ∀ p ∈ ps, p.made w' base (fun k => ok k ∧ k ≠ g)) (hM : (Kd.int .i64).R 3 w' base (fun k => ok k ∧ k ≠ g) (.slice Ax x.f7.length cx) x.f7) (hg : W.grownBy w' own) (hnew : own = some g ∨ W.heap.size ≤ g) :
    InsTo W w' (.returned (.slice (some ⟨g, 0, none⟩) (l.length + 1) c)) base ok own (putAt l i x) := by
  have hlen : ps.length = l.length := by rw [← hps, List.length_map]
  have hpl : (putAt l i x).length = l.length + 1 := putAt_length hi
  have hpp : (putAt ps i ((x, (Ax, cx)) : Rp)).length = l.length + 1 := by rw [putAt_length (by omega), hlen]
  refine ⟨some ⟨g, 0, none⟩, c, by rw [hpl], ?_, hg, fun k hk => by have e : g = k := Option.some.inj hk; rw [← e]; exact hnew⟩
  have e : putAt l i x = (putAt ps i ((x, (Ax, cx)) : Rp)).map (·.1) := by rw [putAt_map, hps]
  have hR := R_of_rows (W := w') (base := base) (ok := ok) (v := .slice (some ⟨g, 0, none⟩) (putAt l i x).length c) (ps := putAt ps i ((x, (Ax, cx)) : Rp)) (fun k hk => by
    have hk' : g = k := by simpa [Value.ownBlock] using hk
    rwa [← hk']) ?_ ?_
  · rwa [← e] at hR
  · have hL : ((putAt ps i ((x, (Ax, cx)) : Rp)).map recOf).flatMap Rec.enc = ((ps.map recOf).flatMap Rec.enc).take (i * 8) ++ encR x Ax cx ++ ((ps.map recOf).flatMap Rec.enc).drop (i * 8) := by
      rw [putAt_map, encs_put]
      rfl
    refine ⟨by rw [encs_len, List.length_map], .inr ⟨g, c, cur, ?_, hgb, hz, ?_, hcm, hcs, ?_⟩⟩
    · rw [hpp, hpl]
    · rw [hpp]; exact hnc
    · rw [hL, ← ht, encs_len, List.length_map, hpp, hlen, Nat.add_mul]
  · intro p hp
    have hb : ∀ k, (ok k ∧ k ≠ g) → (ok k ∧ some k ≠ (Value.slice (some (⟨g, 0, none⟩ : Addr)) (putAt l i x).length c).ownBlock) := fun k hk => ⟨hk.1, fun h => hk.2 (by simpa [Value.ownBlock] using h)⟩
    rcases mem_putAt hp with rfl | hp
    · exact Kd.R_mono hM hb
    · exact Kd.R_mono (hmade p hp) hb
end Go.Proofs.Ytaepbgieahedjaa.QS
namespace Go.Proofs.Ytaepbgieahedjaa.QS
set_option linter.unusedVariables false
set_option linter.unusedSimpArgs false
open Go.RowKit Go.Proofs.Ytaepbgieahedjaa.Hp Go.Proofs.YtaepbgieahedjaaW.PrintWords Go.Proofs.YtaepbgieahedjaaW.PrintLast Go.Proofs.YtaepbgieahedjaaW.PrintMore
open Go.Proofs.Ytaepbgieahedjaa.IP
theorem size_rec : (Try.prog.info? 29).map (·.size) = some 8 := by kernel_rfl
theorem sizeOf_rec : ∀ w, (Go.sizeOf 29).run Try.prog w = .ok 8 w := fun w => by kernel_rfl
theorem slice_from (g n c i : Nat) (hi : i ≤ n) (hc : i < c) (W : World) : (Instr.slice 22 (.slice (some ⟨g, 0, none⟩) n c) (some (.int .i64 (i : Int))) none none).run Try.prog W = .ok (.slice (some ⟨g, i * 8, none⟩) (n - i) (c - i)) W := by
  obtain ⟨i0, hi0, hsz⟩ := Option.map_eq_some_iff.1 size_rec
  have k := cut_from (P := Try.prog) 22 29 .i64 Try.underlying22 hi0 8 hsz (some ⟨g, 0, none⟩) n c (i : Int) (by omega) (by omega) W
  rw [Int.toNat_natCast, if_neg (by omega)] at k
  rw [k]
  simp [Addr.add]
  omega
theorem slice_to (A : Option Addr) (n c i : Nat) (hi : i ≤ c) (W : World) : (Instr.slice 22 (.slice A n c) none (some (.int .i64 (i : Int))) none).run Try.prog W = .ok (.slice A i c) W := by
  obtain ⟨i0, hi0, hsz⟩ := Option.map_eq_some_iff.1 size_rec
  have hel : Try.prog.elem 22 = 29 := by simp [Program.elem, Try.underlying22]
  have hu : Try.prog.underlying 22 = some (.slice (Try.prog.elem 22)) := by rw [hel]; exact Try.underlying22
  have ha : (A.map fun x => x.add 0) = A := by cases A <;> simp [Addr.add]
  rw [run_slice_h W 22 A n c hu .i64 (i : Int) (by omega) (by omega), hel]
  simp [sizeOf, typeInfo, hi0, hsz, sliced, Result.andThen, ha]
theorem add_at (g o j : Nat) : (⟨g, o, none⟩ : Addr).add j = ⟨g, o + j, none⟩ := Addr.add_lit _ _ _
theorem overlaps_no (W : World) (gx g o lb cb : Nat) (hne : gx ≠ g) {cx cg : Array Value} (hx : W.heap[gx]? = some (.cells cx 29 (0, 0))) (hg : W.heap[g]? = some (.cells cg 29 (0, 0))) (h0 : cg.size ≠ 0) :
    (callFunc 39 #[.slice (some ⟨gx, 0, none⟩) 1 1, .slice (some ⟨g, o, none⟩) lb cb]).run Try.prog W = .ok (.value (.bool false)) W := by
  rw [run_callFunc_extern Try.func39 (by kernel_rfl) (by kernel_rfl) (by kernel_rfl) (e := Extern.SlicesOverlaps.overlaps #[22, 22] #[4]) (by kernel_rfl),
    Lib.run_overlaps_apart W 22 4 29 Try.underlying22 8 sizeOf_rec ⟨gx, 0, none⟩ ⟨g, o, none⟩ 1 1 lb cb hne 29 29 cx.size cg.size (by simp [World.shape?, hx]) (by simp [World.shape?, hg]) h0 (blk_frozen hx 0) (blk_frozen hx _)]
  rfl
theorem grownBy_row {W w : World} {g : Nat} (h : W.grownBy w (some g)) (cs : Array Value) : W.grownBy (w.setRow g cs) (some g) :=
  ⟨h.os, h.tape, h.output, by rw [setRow_size]; exact h.size, fun k hk hne => (setRow_other w g k cs (fun e => hne (by rw [e]))).trans (h.block k hk hne)⟩
set_option maxHeartbeats 8000000 in
set_option maxRecDepth 100000 in
theorem insert_room {W : World} {base gx i : Nat} {l : List R0} {A : Option Addr} {c : Nat} {ok : Nat → Prop} (x : R0) (Ax : Option Addr) (cx : Nat) (hR : k29.R 29 W base ok (.slice A l.length c) l) (hM : (Kd.int .i64).R 3 W base (fun k => ok k ∧ some k ≠ (Value.slice A l.length c).ownBlock) (.slice Ax x.f7.length cx) x.f7)
    (hx : W.heap[gx]? = some (.cells #[.int .u64 x.f0, .int .u64 x.f1, .int .i64 x.f2, .int .i64 x.f3, .int .u64 x.f4, .bool x.f5, .int .i64 x.f6, .slice Ax x.f7.length cx] 29 (0, 0))) (hn : l.length + 1 ≤ 100000) (hi : i < l.length) (hroom : l.length + 1 ≤ c) (hgx : some gx ≠ (Value.slice A l.length c).ownBlock) :
    Calls Try.prog 30 #[.slice A l.length c, .int .i64 (i : Int), .slice (some ⟨gx, 0, none⟩) 1 1] W fun e w' => InsTo W w' e base ok (Value.slice A l.length c).ownBlock (putAt l i x) := by
  obtain ⟨ps, hps, ho, hmade⟩ := rows_of_R hR
  have hlen : ps.length = l.length := by rw [← hps, List.length_map]
  obtain ⟨hxs, ⟨hv, hn0⟩ | ⟨g, c', cur, hv, hgb, hz, hnc, hcm, hcs, htk⟩⟩ := ho
  · omega
  injection hv with e1 e2 e3
  clear e2
  subst e1 e3
  have hokg : ok g := hR.1 g rfl
  have hgx' : gx ≠ g := fun h => hgx (by rw [h]; rfl)
  obtain ⟨xs, hxse⟩ : ∃ xs, xs = (ps.map recOf).flatMap Rec.enc := ⟨_, rfl⟩
  rw [← hxse] at htk hxs
  have hxl : xs.length = l.length * 8 := by rw [hxs, hlen]
  have htk' : cur.toList.take xs.length = xs := by rw [hxs]; exact htk
  have hcl : cur.toList.length = c * 8 := by rw [Array.length_toList]; exact hcs
  have hfin := ins_shift (ys := encR x Ax cx) (s := 8) (a := i * 8) rfl (by omega) htk' (by omega)
  obtain ⟨cur1, hcur1⟩ : ∃ c1, c1 = shiftL cur.toList xs (encR x Ax cx) (i * 8) 8 := ⟨_, rfl⟩
  rw [← hcur1] at hfin
  obtain ⟨cur2, hcur2⟩ : ∃ c1, c1 = insL cur1 (encR x Ax cx) (i * 8) := ⟨_, rfl⟩
  rw [← hcur2] at hfin
  have h1xs : ∀ v ∈ xs, v.oneCell' = true := by rw [hxse]; exact encs_one _
  have h1ys : ∀ v ∈ encR x Ax cx, v.oneCell' = true := fun u hu => by
    unfold encR at hu
    simp only [List.mem_cons, List.not_mem_nil, or_false] at hu
    rcases hu with rfl | rfl | rfl | rfl | rfl | rfl | rfl | rfl <;> rfl
  have hxc : ∀ j v, xs[j]? = some v → cur[j]? = some v := fun j v hj => by
    have hlt := (List.getElem?_eq_some_iff.1 hj).1
    have h := hj
    rw [← htk', List.getElem?_take, if_pos hlt] at h
    rw [← Array.getElem?_toList]
    exact h
  have hcp1 : ∀ Wq : World, Wq.heap[g]? = some (.cells cur 29 (0, 0)) → ∀ ty dc sc, (Builtin.copy_ #[22, 22] ty #[.slice (some ⟨g, (i + 1) * 8, none⟩) (l.length - i) dc, .slice (some ⟨g, i * 8, none⟩) (l.length + 1 - i) sc]).run Try.prog Wq = .ok (goInt (Nat.min (l.length + 1 - i) (l.length - i))) (Wq.setRow g cur1.toArray) := fun Wq hq ty dc sc => by
    have hm : Nat.min (l.length + 1 - i) (l.length - i) = l.length - i := by simp only [Nat.min_def]; split <;> omega
    rw [run_copy_rowS (P := Try.prog) Wq 22 22 ty 29 g ((i + 1) * 8) (l.length - i) dc ⟨g, i * 8, none⟩ (l.length + 1 - i) sc 8 cur 29 (xs.drop (i * 8)) Try.underlying22 size_rec hq (by rw [hm, List.length_drop]; omega)
      (fun j v hj => by rw [add_at, blk_cell hq]; rw [List.getElem?_drop] at hj; exact hxc _ _ hj) (by rw [List.length_drop]; omega) (fun v hv => h1xs v (List.mem_of_mem_drop hv))]
    rw [hcur1]
    unfold shiftL
    rw [Nat.add_mul, Nat.one_mul]
  have hcp2 : ∀ Wq : World, Wq.heap[g]? = some (.cells cur1.toArray 29 (0, 0)) → Wq.heap[gx]? = some (.cells #[.int .u64 x.f0, .int .u64 x.f1, .int .i64 x.f2, .int .i64 x.f3, .int .u64 x.f4, .bool x.f5, .int .i64 x.f6, .slice Ax x.f7.length cx] 29 (0, 0)) → ∀ ty dc, (Builtin.copy_ #[22, 22] ty #[.slice (some ⟨g, i * 8, none⟩) (l.length + 1 - i) dc, .slice (some ⟨gx, 0, none⟩) 1 1]).run Try.prog Wq = .ok (goInt (Nat.min 1 (l.length + 1 - i))) (Wq.setRow g cur2.toArray) := fun Wq hq hqx ty dc => by
    have hm : Nat.min 1 (l.length + 1 - i) = 1 := by simp only [Nat.min_def]; split <;> omega
    rw [run_copy_rowS (P := Try.prog) Wq 22 22 ty 29 g (i * 8) (l.length + 1 - i) dc ⟨gx, 0, none⟩ 1 1 8 cur1.toArray 29 (encR x Ax cx) Try.underlying22 size_rec hq (by rw [hm]; rfl)
      (fun j v hj => by rw [add_at, Nat.zero_add, blk_cell hqx]; rw [← hj]; unfold encR; rw [← List.getElem?_toArray]) (by rw [List.size_toArray, hfin.1]; show i * 8 + 8 ≤ _; omega) h1ys]
    rw [hcur2]
    unfold insL
    rfl
  have hs1 := fun W => slice_from g l.length c i (by omega) (by omega) W
  have hs2 := fun W => slice_to (some ⟨g, 0, none⟩) l.length c (l.length + 1) hroom W
  have hs3 := fun W => slice_from g (l.length + 1) c (i + 1) (by omega) (by omega) W
  have hs4 := fun W => slice_from g (l.length + 1) c i (by omega) (by omega) W
  have hov := fun lb cb => overlaps_no W gx g ((i + 1) * 8) lb cb hgx' hx hz (by omega)
  have a1 : IntKind.i64.wrap ((l.length : Int) + 1) = ((l.length + 1 : Nat) : Int) := by rw [IntKind.wrap_i64]; omega
  have a2 : IntKind.i64.wrap ((i : Int) + 1) = ((i + 1 : Nat) : Int) := by rw [IntKind.wrap_i64]; omega
  have t1 : ((i : Int) == (l.length : Int)) = false := beq_eq_false_iff_ne.2 (by omega)
  have t2 : decide ((c : Int) < ((l.length + 1 : Nat) : Int)) = false := decide_eq_false (by omega)
  have hA : ∀ Wq : World, Wq = W.drew → Wq.heap[g]? = some (.cells cur 29 (0, 0)) := fun Wq h => by rw [h]; exact hz
  have FIN : Aside0 (∀ w1 w2 : World, w1 = W.drew.setRow g cur1.toArray → w2 = w1.setRow g cur2.toArray → InsTo W w2 (.returned (.slice (some ⟨g, 0, none⟩) (l.length + 1) c)) base ok (some g) (putAt l i x)) := ⟨fun w1 w2 e1 e2 => by
    have hz1 : w1.heap[g]? = some (.cells cur1.toArray 29 (0, 0)) := by rw [e1]; exact setRow_heap W.drew g cur cur1.toArray _ _ hz
    have hz2 : w2.heap[g]? = some (.cells cur2.toArray 29 (0, 0)) := by rw [e2]; exact setRow_heap w1 g cur1.toArray cur2.toArray _ _ hz1
    have hgr : W.grownBy w2 (some g) := by
      rw [e2, e1]
      exact grownBy_row (grownBy_row (⟨rfl, rfl, rfl, Nat.le_refl _, fun _ _ _ => rfl⟩ : W.grownBy W.drew (some g)) _) _
    have hmv : ∀ k, (ok k ∧ k ≠ g) → k < W.heap.size → w2.heap[k]? = W.heap[k]? := fun k hk hlt => hgr.block k hlt (fun e => hk.2 (Option.some.inj e))
    have hne : ∀ k, (ok k ∧ some k ≠ (Value.slice (some (⟨g, 0, none⟩ : Addr)) l.length c).ownBlock) → (ok k ∧ k ≠ g) := fun k hk => ⟨hk.1, fun e => hk.2 (by rw [e]; rfl)⟩
    refine insTo_mk (x := x) (Ax := Ax) (cx := cx) (ps := ps) hps (by omega) hz2 (by rw [List.size_toArray, hfin.2.1]; exact hcl) hroom hcm hgb hokg ?_ (fun p hp => Kd.R_step (Kd.R_mono (hmade p hp) hne) hmv) (Kd.R_step (Kd.R_mono hM hne) hmv) hgr (.inl rfl)
    rw [← hxse]
    exact hfin.2.2⟩
  have HCP1 := Aside0.mk hcp1
  have HCP2 := Aside0.mk hcp2
  have HX := Aside0.mk hx
  have HZ := Aside0.mk hz
  have HNE := Aside0.mk hgx'
  clear hR hM hx hz hcp1 hcp2 hxc h1xs h1ys hfin hcur1 hcur2 htk htk' hxl hxs hxse hmade hps hlen hcl hcs hcm hgb hokg hgx hgx' hA
  go_enter Try.func30, Try.ntmps30
  go_upto_region 15 with (simp only [hov])
  have b1 : (0 : Int) ≤ (i : Int) + 1 := by omega
  have b2 : i ≤ l.length := by omega
  have b3 : ¬ (c = i + 1) := by omega
  have b4 : ¬ (c = i) := by omega
  have b5 : (i : Int) ≤ (l.length : Int) + 1 := by omega
  go_region_law (refine copy_step rfl _ _ 22 rfl (v := .slice (some ⟨g, (i + 1) * 8, none⟩) (l.length - i) (c - (i + 1))) (u := .slice (some ⟨g, i * 8, none⟩) (l.length + 1 - i) (c - i)) (by simp [Act.eval, Act.put]) (by simp [Act.eval, Act.put]) (HCP1.out W.drew HZ.out _ _ _) ?_)
  obtain ⟨W1, hW1⟩ : ∃ W1, W1 = W.drew.setRow g cur1.toArray := ⟨_, rfl⟩
  rw [← hW1]
  have HW1 := Aside0.mk hW1
  have HCP := Aside0.mk (HCP2.out W1 (by rw [hW1]; exact setRow_heap W.drew g cur cur1.toArray _ _ HZ.out) (by rw [hW1]; exact (setRow_other W.drew g gx cur1.toArray HNE.out).trans HX.out))
  clear hW1
  go_wp2_with (refine copy_wp rfl _ _ 22 rfl rfl rfl (HCP.out _ _) ?_)
  go_ret
  exact FIN.out _ _ HW1.out rfl
set_option maxHeartbeats 8000000 in
set_option maxRecDepth 100000 in
theorem insert_grow {W : World} {base gx i : Nat} {l : List R0} {A : Option Addr} {c : Nat} {ok : Nat → Prop} (x : R0) (Ax : Option Addr) (cx : Nat) (hR : k29.R 29 W base ok (.slice A l.length c) l) (hM : (Kd.int .i64).R 3 W base (fun k => ok k ∧ some k ≠ (Value.slice A l.length c).ownBlock) (.slice Ax x.f7.length cx) x.f7)
    (hx : W.heap[gx]? = some (.cells #[.int .u64 x.f0, .int .u64 x.f1, .int .i64 x.f2, .int .i64 x.f3, .int .u64 x.f4, .bool x.f5, .int .i64 x.f6, .slice Ax x.f7.length cx] 29 (0, 0))) (hn : l.length + 1 ≤ 100000) (hi : i < l.length) (hroom : c < l.length + 1) (hs : base ≤ W.heap.size) (hfresh : ∀ k, W.heap.size ≤ k → ok k) :
    Calls Try.prog 30 #[.slice A l.length c, .int .i64 (i : Int), .slice (some ⟨gx, 0, none⟩) 1 1] W fun e w' => InsTo W w' e base ok (Value.slice A l.length c).ownBlock (putAt l i x) := by
  obtain ⟨ps, hps, ho, hmade⟩ := rows_of_R hR
  have hlen : ps.length = l.length := by rw [← hps, List.length_map]
  obtain ⟨hxs, ⟨hv, hn0⟩ | ⟨g, c', cur, hv, hgb, hz, hnc, hcm, hcs, htk⟩⟩ := ho
  · omega
  injection hv with e1 e2 e3
  clear e2
  subst e1 e3
  have hgW : g < W.heap.size := blk_lt hz
  have hxW : gx < W.heap.size := blk_lt hx
  obtain ⟨xs, hxse⟩ : ∃ xs, xs = (ps.map recOf).flatMap Rec.enc := ⟨_, rfl⟩
  rw [← hxse] at htk hxs
  have hxl : xs.length = l.length * 8 := by rw [hxs, hlen]
  have htk' : cur.toList.take xs.length = xs := by rw [hxs]; exact htk
  have hcl : cur.toList.length = c * 8 := by rw [Array.length_toList]; exact hcs
  have h1xs : ∀ v ∈ xs, v.oneCell' = true := by rw [hxse]; exact encs_one _
  have h1ys : ∀ v ∈ encR x Ax cx, v.oneCell' = true := fun u hu => by
    unfold encR at hu
    simp only [List.mem_cons, List.not_mem_nil, or_false] at hu
    rcases hu with rfl | rfl | rfl | rfl | rfl | rfl | rfl | rfl <;> rfl
  have hxc : ∀ j v, xs[j]? = some v → cur[j]? = some v := fun j v hj => by
    have hlt := (List.getElem?_eq_some_iff.1 hj).1
    have h := hj
    rw [← htk', List.getElem?_take, if_pos hlt] at h
    rw [← Array.getElem?_toList]
    exact h
  obtain ⟨i0, hi0, hzz⟩ := Option.map_eq_some_iff.1 inf_rec
  simp only [Prod.mk.injEq] at hzz
  obtain ⟨hz0, hzs, hzb⟩ := hzz
  have hold : (Builtin.firstCells i0.size i (.slice (some ⟨g, 0, none⟩) i c)).run Try.prog W.drew = .ok (xs.take (i * 8)).toArray W.drew := by
    rw [hzs]
    exact run_firstCells_some W.drew 8 i ⟨g, 0, none⟩ i c (xs.take (i * 8)) (by rw [List.length_take]; omega) (fun j v hj => by
      rw [add_at, Nat.zero_add]
      rw [List.getElem?_take] at hj
      split at hj
      · show W.cell? ⟨g, j, none⟩ = some v
        rw [blk_cell hz]
        exact hxc j v hj
      · cases hj)
  have hik : i + (l.length + 1 - i) = l.length + 1 := by omega
  obtain ⟨G, hG⟩ : ∃ G, G = grownCap W (l.length + 1) c 29 := ⟨_, rfl⟩
  have hGn : l.length + 1 ≤ G := by rw [hG]; exact grownCap_ge W _ _ _
  have hGm : G ≤ maxLen := by rw [hG]; exact grownCap_le_maxLen W (l.length + 1) c 29 (by unfold maxLen; omega)
  obtain ⟨Z, hZ⟩ : ∃ Z : Array Value, Z = Builtin.zeroCells zrec.cells (l.length + 1 - i) ++ Builtin.zeroCells zrec.cells (G - (l.length + 1)) := ⟨_, rfl⟩
  have hZl : Z.toList.length = (l.length + 1 - i) * 8 + (G - (l.length + 1)) * 8 := by
    rw [hZ, Array.length_toList, Array.size_append, size_zeroCells, size_zeroCells]
    rfl
  have hrz : ∀ ty, (Builtin.append_ #[22, 3] ty #[.slice (some ⟨g, 0, none⟩) i c, .int .i64 ((l.length : Int) + 1 - (i : Int))]).run Try.prog W =
      .ok (.slice (some ⟨W.heap.size, 0, none⟩) (l.length + 1) G) (W.drew.alloc (.cells (xs.take (i * 8) ++ Z.toList).toArray 29)) := fun ty => by
    have h := Lib.run_append_grow_zeros W 22 3 ty 29 i0 _ .i64 .i64 Try.underlying22 Try.underlying3 hi0 hz0 (some ⟨g, 0, none⟩) i c (xs.take (i * 8)) hold (l.length + 1 - i) (by omega) (by omega) (by omega) (by omega) (by rw [hzb]; omega) (by rw [hzb, hik]; exact growslice_fits hroom (by omega))
    rw [hik, ← hG] at h
    rw [show (l.length : Int) + 1 - (i : Int) = ((l.length + 1 - i : Nat) : Int) by omega, h, hZ, Array.append_assoc]
    congr 4
    simp
  have htl : (xs.take (i * 8)).length = i * 8 := by rw [List.length_take]; omega
  have hl0 : (xs.take (i * 8) ++ Z.toList).length = G * 8 := by rw [List.length_append, htl, hZl]; omega
  have hfin := ins_new (z := Z.toList) (ys := encR x Ax cx) (s := 8) (a := i * 8) (xs := xs) rfl (by omega) (by omega)
  obtain ⟨cur0, hcur0⟩ : ∃ c1, c1 = xs.take (i * 8) ++ Z.toList := ⟨_, rfl⟩
  rw [← hcur0] at hfin hrz hl0
  obtain ⟨cur1, hcur1⟩ : ∃ c1, c1 = insL cur0 (encR x Ax cx) (i * 8) := ⟨_, rfl⟩
  rw [← hcur1] at hfin
  obtain ⟨cur2, hcur2⟩ : ∃ c1, c1 = shiftL cur1 xs (encR x Ax cx) (i * 8) 8 := ⟨_, rfl⟩
  rw [← hcur2] at hfin
  obtain ⟨N, hN⟩ : ∃ N, N = W.heap.size := ⟨_, rfl⟩
  rw [← hN] at hrz hgW hxW
  have hcp1 : ∀ Wq : World, Wq.heap[N]? = some (.cells cur0.toArray 29 (0, 0)) → Wq.heap[gx]? = some (.cells #[.int .u64 x.f0, .int .u64 x.f1, .int .i64 x.f2, .int .i64 x.f3, .int .u64 x.f4, .bool x.f5, .int .i64 x.f6, .slice Ax x.f7.length cx] 29 (0, 0)) → ∀ ty dc, (Builtin.copy_ #[22, 22] ty #[.slice (some ⟨N, i * 8, none⟩) (l.length + 1 - i) dc, .slice (some ⟨gx, 0, none⟩) 1 1]).run Try.prog Wq = .ok (goInt (Nat.min 1 (l.length + 1 - i))) (Wq.setRow N cur1.toArray) := fun Wq hq hqx ty dc => by
    have hm : Nat.min 1 (l.length + 1 - i) = 1 := by simp only [Nat.min_def]; split <;> omega
    rw [run_copy_rowS (P := Try.prog) Wq 22 22 ty 29 N (i * 8) (l.length + 1 - i) dc ⟨gx, 0, none⟩ 1 1 8 cur0.toArray 29 (encR x Ax cx) Try.underlying22 size_rec hq (by rw [hm]; rfl)
      (fun j v hj => by rw [add_at, Nat.zero_add, blk_cell hqx]; rw [← hj]; unfold encR; rw [← List.getElem?_toArray]) (by rw [List.size_toArray, hl0]; show i * 8 + 8 ≤ _; omega) h1ys]
    rw [hcur1]
    unfold insL
    rfl
  have hcp2 : ∀ Wq : World, Wq.heap[N]? = some (.cells cur1.toArray 29 (0, 0)) → Wq.heap[g]? = some (.cells cur 29 (0, 0)) → ∀ ty dc sc, (Builtin.copy_ #[22, 22] ty #[.slice (some ⟨N, (i + 1) * 8, none⟩) (l.length - i) dc, .slice (some ⟨g, i * 8, none⟩) (l.length - i) sc]).run Try.prog Wq = .ok (goInt (Nat.min (l.length - i) (l.length - i))) (Wq.setRow N cur2.toArray) := fun Wq hq hqg ty dc sc => by
    have hm : Nat.min (l.length - i) (l.length - i) = l.length - i := Nat.min_self _
    rw [run_copy_rowS (P := Try.prog) Wq 22 22 ty 29 N ((i + 1) * 8) (l.length - i) dc ⟨g, i * 8, none⟩ (l.length - i) sc 8 cur1.toArray 29 (xs.drop (i * 8)) Try.underlying22 size_rec hq (by rw [hm, List.length_drop]; omega)
      (fun j v hj => by rw [add_at, blk_cell hqg]; rw [List.getElem?_drop] at hj; exact hxc _ _ hj) (by rw [List.size_toArray, hfin.1, List.length_drop, hl0]; omega) (fun v hv => h1xs v (List.mem_of_mem_drop hv))]
    rw [hcur2]
    unfold shiftL
    rw [Nat.add_mul, Nat.one_mul]
  have hs1 := fun W => slice_from g l.length c i (by omega) (by omega) W
  have hs2 := fun W => slice_to (some ⟨g, 0, none⟩) l.length c i (by omega) W
  have hs3 := fun W => slice_from N (l.length + 1) G i (by omega) (by omega) W
  have a1 : IntKind.i64.wrap ((l.length : Int) + 1) = (l.length : Int) + 1 := by rw [IntKind.wrap_i64]; omega
  have a2 : IntKind.i64.wrap ((i : Int) + 1) = (i : Int) + 1 := by rw [IntKind.wrap_i64]; omega
  have a3 : wrap64 ((l.length : Int) + 1 - (i : Int)) = ((l.length + 1 - i : Nat) : Int) := by unfold wrap64; omega
  have t1 : ((i : Int) == (l.length : Int)) = false := beq_eq_false_iff_ne.2 (by omega)
  have t2 : decide ((c : Int) < ((l.length : Int) + 1)) = true := decide_eq_true (by omega)
  have FIN : Aside0 (∀ w0 w1 w2 : World, w0.heap = (W.alloc (.cells cur0.toArray 29)).heap → w0.os = W.os → w0.tape = W.tape → w0.output = W.output → w1.heap = (w0.setRow N cur1.toArray).heap → w1.os = W.os → w1.tape = W.tape → w1.output = W.output → w2 = w1.setRow N cur2.toArray → InsTo W w2 (.returned (.slice (some ⟨N, 0, none⟩) (l.length + 1) G)) base ok (some g) (putAt l i x)) := ⟨fun w0 w1 w2 e0 eo et eu e1 fo ft fu e2 => by
    have hz0 : w0.heap[N]? = some (.cells cur0.toArray 29 (0, 0)) := by rw [e0, hN]; exact heap_alloc_new W _
    have hz1 : w1.heap[N]? = some (.cells cur1.toArray 29 (0, 0)) := by rw [e1]; exact setRow_heap w0 N cur0.toArray cur1.toArray _ _ hz0
    have hz2 : w2.heap[N]? = some (.cells cur2.toArray 29 (0, 0)) := by rw [e2]; exact setRow_heap w1 N cur1.toArray cur2.toArray _ _ hz1
    have hmv : ∀ k, k < N → w2.heap[k]? = W.heap[k]? := fun k hk => by
      rw [e2, setRow_other w1 N k _ (by omega), e1, setRow_other w0 N k _ (by omega), e0]
      exact heap_alloc_old W _ (by omega)
    have hgr : W.grownBy w2 (some g) := by
      refine ⟨by rw [e2]; exact fo, by rw [e2]; exact ft, by rw [e2]; exact fu, ?_, fun k hk _ => hmv k (by omega)⟩
      rw [e2, setRow_size, e1, setRow_size, e0]
      simp
    have hb : ∀ {α : Type} {d : Kd α} {e : Nat} {ok' : Nat → Prop} {v : Value} {xs : List α}, (∀ k, ok' k → ok k) → d.R e W base ok' v xs → d.R e w2 base (fun k => ok k ∧ k ≠ N) v xs := fun ho hR' =>
      Kd.R_mono (Kd.R_step (Kd.R_bound hR') (fun k hk hlt => hmv k (by have := hk.2.2.1; omega))) (fun k hk => ⟨ho k hk.1, by have := hk.2.2.1; omega⟩)
    refine insTo_mk (x := x) (Ax := Ax) (cx := cx) (ps := ps) hps (by omega) hz2 (by rw [List.size_toArray, hfin.2.1]; exact hl0) hGn hGm (by omega) (hfresh N (by omega)) ?_ (fun p hp => hb (fun k hk => hk.1) (hmade p hp)) (hb (fun k hk => hk.1) hM) hgr (.inr (Nat.le_of_eq hN.symm))
    rw [← hxse]
    exact hfin.2.2⟩
  have HCP1 := Aside0.mk hcp1
  have HCP2 := Aside0.mk hcp2
  have HX := Aside0.mk hx
  have HZ := Aside0.mk hz
  have HLT := Aside0.mk (And.intro hgW (And.intro hxW hN))
  have HRZ := Aside0.mk hrz
  have HNC : Aside0 (l.length ≤ c) := ⟨by omega⟩
  clear hR hM hx hz hcp1 hcp2 hxc h1xs h1ys hfin hcur1 hcur2 hcur0 htk htk' hxl hxs hxse hmade hps hlen hcl hcs hcm hgb hrz hold hZ hZl hG hi0 hz0 hzs hzb hik htl hl0 hfresh hgW hxW hN hs
  go_enter Try.func30, Try.ntmps30
  go_upto_region 10 with (at_builtin; refine appz_wp rfl _ _ 22 3 rfl rfl rfl (HRZ.out _) ?_)
  obtain ⟨W0, hW0⟩ : ∃ W0, W0 = (W.alloc (.cells cur0.toArray 29)).drew := ⟨_, rfl⟩
  rw [← hW0]
  have z0 : W0.heap[N]? = some (.cells cur0.toArray 29 (0, 0)) := by rw [hW0, HLT.out.2.2]; exact heap_alloc_new W _
  have zx : W0.heap[gx]? = some (.cells #[.int .u64 x.f0, .int .u64 x.f1, .int .i64 x.f2, .int .i64 x.f3, .int .u64 x.f4, .bool x.f5, .int .i64 x.f6, .slice Ax x.f7.length cx] 29 (0, 0)) := by rw [hW0]; exact (heap_alloc_old W _ (by have := HLT.out; omega)).trans HX.out
  have zg : W0.heap[g]? = some (.cells cur 29 (0, 0)) := by rw [hW0]; exact (heap_alloc_old W _ (by have := HLT.out; omega)).trans HZ.out
  have HC1 := Aside0.mk (HCP1.out W0 z0 zx)
  have HZ0 := Aside0.mk (And.intro z0 zg)
  have HW0 := Aside0.mk hW0
  clear hW0 z0 zx zg
  go_upto_region 11 with (refine copy_wp rfl _ _ 22 rfl rfl rfl (HC1.out _ _) ?_)
  obtain ⟨W1, hW1⟩ : ∃ W1, W1 = W0.setRow N cur1.toArray := ⟨_, rfl⟩
  rw [← hW1]
  have HC2 := Aside0.mk (HCP2.out W1.drew (by rw [hW1]; exact setRow_heap W0 N cur0.toArray cur1.toArray _ _ HZ0.out.1) (by rw [hW1]; exact (setRow_other W0 N g cur1.toArray (by have := HLT.out; omega)).trans HZ0.out.2))
  have HW1 := Aside0.mk hW1
  clear hW1
  clear a1 a2 a3 t1 t2
  have a2 : IntKind.i64.wrap ((i : Int) + 1) = (i : Int) + 1 := by rw [IntKind.wrap_i64]; omega
  have b1 : (0 : Int) ≤ (i : Int) + 1 := by clear a2; omega
  have b2 : i ≤ l.length := by clear a2; omega
  have b3 : ¬ (G = i + 1) := by clear a2; omega
  have b4 : ¬ (c = i) := by have := HNC.out; clear a2; omega
  have b5 : (i : Int) ≤ (l.length : Int) := by clear a2; omega
  go_region_law (refine copy_step rfl _ _ 22 rfl (v := .slice (some ⟨N, (i + 1) * 8, none⟩) (l.length - i) (G - (i + 1))) (u := .slice (some ⟨g, i * 8, none⟩) (l.length - i) (c - i)) (by simp [Act.eval, Act.put]) (by simp [Act.eval, Act.put]) (HC2.out _ _ _) ?_)
  go_wp2_with fail
  go_ret
  exact FIN.out W0 W1.drew _ (by rw [HW0.out]; rfl) (by rw [HW0.out]; rfl) (by rw [HW0.out]; rfl) (by rw [HW0.out]; rfl) (by rw [HW1.out]; rfl) (by rw [HW1.out, HW0.out]; rfl) (by rw [HW1.out, HW0.out]; rfl) (by rw [HW1.out, HW0.out]; rfl) rfl
theorem insert_mid {W : World} {base gx i : Nat} {l : List R0} {A : Option Addr} {c : Nat} {ok : Nat → Prop} (x : R0) (Ax : Option Addr) (cx : Nat) (hR : k29.R 29 W base ok (.slice A l.length c) l) (hc : l.length ≤ c) (hM : (Kd.int .i64).R 3 W base (fun k => ok k ∧ some k ≠ (Value.slice A l.length c).ownBlock) (.slice Ax x.f7.length cx) x.f7)
    (hx : W.heap[gx]? = some (.cells #[.int .u64 x.f0, .int .u64 x.f1, .int .i64 x.f2, .int .i64 x.f3, .int .u64 x.f4, .bool x.f5, .int .i64 x.f6, .slice Ax x.f7.length cx] 29 (0, 0))) (hn : l.length + 1 ≤ 100000) (hs : base ≤ W.heap.size) (hfresh : ∀ k, W.heap.size ≤ k → ok k) (hi : i ≤ l.length) (hgx : some gx ≠ (Value.slice A l.length c).ownBlock) :
    Calls Try.prog 30 #[.slice A l.length c, .int .i64 (i : Int), .slice (some ⟨gx, 0, none⟩) 1 1] W fun e w' => InsTo W w' e base ok (Value.slice A l.length c).ownBlock (putAt l i x) := by
  rcases Nat.lt_or_ge i l.length with h | h
  · rcases Nat.lt_or_ge c (l.length + 1) with h2 | h2
    · exact insert_grow x Ax cx hR hM hx hn h h2 hs hfresh
    · exact insert_room x Ax cx hR hM hx hn h h2 hgx
  · have : i = l.length := by omega
    subst this
    have e : putAt l l.length x = l ++ [x] := by unfold putAt; rw [List.take_length, List.drop_length]
    rw [e]
    exact insert_end x Ax cx hR hc hM hx hn hs hfresh
end Go.Proofs.Ytaepbgieahedjaa.QS
namespace Go.Proofs.Ytaepbgieahedjaa.QS
set_option linter.unusedVariables false
set_option linter.unusedSimpArgs false
open Go.RowKit Go.Proofs.Ytaepbgieahedjaa.Hp Go.Proofs.YtaepbgieahedjaaW.PrintWords Go.Proofs.YtaepbgieahedjaaW.PrintLast Go.Proofs.YtaepbgieahedjaaW.PrintMore
open Go.Proofs.Ytaepbgieahedjaa.IP
def PutTo (W w' : World) (base g : Nat) (l : List R0) (r : Option Nat) : Prop := (∃ r', IXr w' base g l r' ∧ ∀ k, r' = some k → r = some k ∨ W.heap.size ≤ k) ∧ ∀ k, k < W.heap.size → k ≠ g → some k ≠ r → w'.heap[k]? = W.heap[k]?
def iput9.T9 : Bool × List (List Nat × List Nat) := (true, [([], []), ([], []), ([1], [1]), ([2], [2]), ([3], [3]), ([], []), ([], []), ([6], [6]), ([7], [7]), ([4, 5, 8, 7], [4, 5, 8]), ([0, 0, 1, 2, 3, 4, 5, 6, 7, 8, 9], [0]), ([10, 0, 1, 2, 3, 4, 5, 6, 7, 8, 9], [10]), ([11, 9, 9, 0, 1, 2, 3, 4, 5, 6, 7, 8, 9], [9, 11])])
def iput9.B9 : List Nat := [0, 0, 2, 6, 14, 0, 0, 64, 192, 510, 1023, 2047, 4095]
theorem iput9.tab9 : rtab .any (opsOf Try.f17 9) = iput9.T9 := by kernel_rfl
theorem iput9.bits9 : waitsOk iput9.T9.2 iput9.B9 = true := by kernel_rfl
set_option maxHeartbeats 4000000 in
set_option maxRecDepth 100000 in
theorem put_any {W : World} {base g i : Nat} {l : List R0} {r : Option Nat} (h : IXr W base g l r) (x : R0) (A : Option Addr) (c : Nat) (hC : Kd.C (Kd.int .i64) W A x.f7.length x.f7) (hp : x.f7.length ≤ 1000) (hm : mayB x = true) (hr : Rising keyR l) (hn : l.length ≤ 1000) (hlow : low keyR l x.f0 = i) (hk : hasKey keyR l x.f0 = false) :
    Calls Try.prog 17 #[.pointer (some ⟨g, 0, none⟩), ragg x A c] W fun e w' => e = .returned (.int .i64 0) ∧ PutTo W w' base g (putAt l i x) r ∧ Below base W w' := by
  have hz := heap_alloc_new W (.cells #[.int .u64 x.f0, .int .u64 x.f1, .int .i64 x.f2, .int .i64 x.f3, .int .u64 x.f4, .bool x.f5, .int .i64 x.f6, .slice A x.f7.length c] 29)
  have hb := below_alloc (Below.refl W.heap.size W) (.cells #[.int .u64 x.f0, .int .u64 x.f1, .int .i64 x.f2, .int .i64 x.f3, .int .u64 x.f4, .bool x.f5, .int .i64 x.f6, .slice A x.f7.length c] 29)
  obtain ⟨gb, hgb⟩ : ∃ g, g = W.heap.size := ⟨_, rfl⟩
  have HX1 := Aside0.mk (h.below hb)
  have HC1 := Aside0.mk (Kd.C_below hC hb)
  have HIN := Aside0.mk (And.intro hp (And.intro hr (And.intro hn (And.intro hlow hk))))
  have hck : chk x = 0 := by unfold chk; rw [if_pos hm]
  have HBS : Aside0 (base ≤ W.heap.size) := ⟨by obtain ⟨A', c', hz', _, hg', _⟩ := h; have := blk_lt hz'; omega⟩
  unfold ragg
  clear h hC hp hm hr hn hlow hk
  go_enter Try.func17, Try.ntmps17
  go_upto_region 1 with fail
  generalize W.alloc (.cells #[.int .u64 x.f0, .int .u64 x.f1, .int .i64 x.f2, .int .i64 x.f3, .int .u64 x.f4, .bool x.f5, .int .i64 x.f6, .slice A x.f7.length c] 29) = W1 at hz hb HX1 HC1 ⊢
  rw [← hgb] at hz ⊢
  have HCK := Aside0.mk (check_calls x A c W1 (by have := HIN.out.1; omega) HC1.out)
  rw [hck] at HCK
  unfold ragg at HCK
  have HZ := Aside0.mk hz
  have HB := Aside0.mk hb
  have c0 := blk_cell hz 0
  have c1 := blk_cell hz 1
  have c2 := blk_cell hz 2
  have c3 := blk_cell hz 3
  have c4 := blk_cell hz 4
  have c5 := blk_cell hz 5
  have c6 := blk_cell hz 6
  have c7 := blk_cell hz 7
  clear hz hb hgb hck
  go_upto_region 6 with (go_at_call 29; refine HCK.out.mono ?_; rintro e w2 ⟨rfl, hb⟩; have HB2 := Aside0.mk (below_then HB.out HB.out.size hb); have HZ2 := Aside0.mk (blk_below HZ.out hb); have HX2 := Aside0.mk (HX1.out.below hb); have HC2 := Aside0.mk (Kd.C_below HC1.out hb); clear hb c0 c1 c2 c3 c4 c5 c6 c7)
  have HPL := Aside0.mk (place_calls HX2.out.ix HIN.out.2.1 (by have := HIN.out.2.2.1; omega) x.f0)
  rw [HIN.out.2.2.2.1, HIN.out.2.2.2.2] at HPL
  have c0 := blk_cell HZ2.out 0
  clear HX1 HC1 HCK HZ HB
  go_upto_region 9 with (go_at_call 27; refine HPL.out.mono ?_; rintro e w5 ⟨rfl, hb⟩; have HB5 := Aside0.mk (below_then HB2.out HB2.out.size hb); have HZ5 := Aside0.mk (blk_below HZ2.out hb); have HX5 := Aside0.mk (HX2.out.below hb); have HC5 := Aside0.mk (Kd.C_below HC2.out hb); clear hb c0)
  clear HPL HB2 HZ2 HX2 HC2
  obtain ⟨A1, c1, hzg, hRl, hbg, hr1⟩ := HX5.out
  obtain ⟨A1', c1', hv1, hcl, _⟩ := Kd.R_reads hRl
  injection hv1 with e1 _ e3
  subst e1 e3
  have HG1 : Aside0 (base ≤ g ∧ g < w5.heap.size ∧ base ≤ w5.heap.size ∧ l.length ≤ c1 ∧ ∀ k, (Value.slice A1 l.length c1).ownBlock = some k → k < w5.heap.size) := ⟨hbg, blk_lt hzg, by have := blk_lt hzg; omega, hcl, Kd.R_lt hRl⟩
  have HCP : Aside0 (∀ w', Kd.C (Kd.int .i64) w' A x.f7.length x.f7 → Calls Try.prog 31 #[ragg x A c] w' fun e w2 => OwnR w' w2 e x) := ⟨fun w' hC => copy_calls x A c w' (by have := HIN.out.1; omega) hC⟩
  have HIL : Aside0 (i ≤ l.length) := ⟨by rw [← HIN.out.2.2.2.1]; exact low_le⟩
  have HPLN : Aside0 ((putAt l i x).length = l.length + 1) := ⟨putAt_length HIL.out⟩
  have HIS : Aside0 (∀ (w' : World) (A2 : Option Addr) (c2 gx : Nat), w5.heap.size ≤ w'.heap.size → k29.R 29 w' base (fun k => g < k) (.slice A1 l.length c1) l → (Kd.int .i64).R 3 w' w5.heap.size (fun k => w5.heap.size ≤ k) (.slice A2 x.f7.length c2) x.f7 → (w'.heap[gx]? = some (.cells #[.int .u64 x.f0, .int .u64 x.f1, .int .i64 x.f2, .int .i64 x.f3, .int .u64 x.f4, .bool x.f5, .int .i64 x.f6, .slice A2 x.f7.length c2] 29 (0, 0)) ∧ w5.heap.size ≤ gx) → Calls Try.prog 30 #[.slice A1 l.length c1, .int .i64 (i : Int), .slice (some ⟨gx, 0, none⟩) 1 1] w' fun e w2 => InsTo w' w2 e base (fun k => g < k) (Value.slice A1 l.length c1).ownBlock (putAt l i x)) := ⟨fun w' A2 c2 gx hs hR hM hx =>
    insert_mid x A2 c2 hR HG1.out.2.2.2.1 (Kd.R_mono (Kd.R_lower hM HG1.out.2.2.1) (fun k hk => ⟨Nat.lt_of_lt_of_le HG1.out.2.1 hk, fun he => by have := HG1.out.2.2.2.2 k he.symm; have h2 : w5.heap.size ≤ k := hk; omega⟩)) hx.1 (by have := HIN.out.2.2.1; omega) (Nat.le_trans HG1.out.2.2.1 hs) (fun k hk => by have := HG1.out.2.1; show g < k; omega) HIL.out (fun he => by have := HG1.out.2.2.2.2 gx he.symm; have h2 := hx.2; omega)⟩
  have D0 := below_drew1 (Below.refl w5.heap.size w5)
  have B5 := Aside0.mk D0
  have BX := Aside0.mk (below_then (HB5.out.mono HBS.out) (Nat.le_trans HBS.out HB5.out.size) D0)
  have ZB := Aside0.mk (blk_below HZ5.out D0)
  have ZG := Aside0.mk (blk_below hzg D0)
  have RR := Aside0.mk (Kd.R_below hRl D0)
  have CA := Aside0.mk (Kd.C_below HC5.out D0)
  have HR1 := Aside0.mk hr1
  have FR : Aside0 (∀ k, k < W.heap.size → k ≠ g → some k ≠ r → w5.drew.heap[k]? = W.heap[k]?) := ⟨fun k hk _ _ => HB5.out.block k hk⟩
  have PR := True.intro
  have GX := True.intro
  have IR := True.intro
  have FIN := True.intro
  clear hzg hRl hbg hcl D0 HX5 hr1
  refine start_ (n := 13) (S := fun w' => True) (ds := []) #[false, false, false, false, false, false, false, false, false, false, false, false, false] (by kernel_rfl) rfl rfl trivial (fun hHeld => ?_)
  refine with_tabW iput9.tab9 iput9.bits9 (fun HT_ HW_ => ?_)
  generalize w5.drew = wz at B5 BX ZB ZG RR CA FR hHeld ⊢
  refine inv_at [0, 1, 2, 3, 4, 5, 6, 7, 8, 9, 10, 11, 12] (fun a0_ b a w' => ∃ (A2 : Option Addr) (c2 : Nat) (gx : Nat) (A3 : Option Addr) (c3 : Nat) (m7_ : Value) (m8_ : Value) (m9_ : Value), a = putSel a0_ b [(0, 23, .pointer (some ⟨g, 0, none⟩)), (1, 24, .pointer (some ⟨g, 0, none⟩)), (2, 25, .pointer (some ⟨g, 0, none⟩)), (3, 26, .pointer (some ⟨g, 0, none⟩)), (4, 27, .slice A1 l.length c1), (5, 28, .int .i64 (i : Int)), (6, 29, .agg #[.int .u64 x.f0, .int .u64 x.f1, .int .i64 x.f2, .int .i64 x.f3, .int .u64 x.f4, .bool x.f5, .int .i64 x.f6, .slice A x.f7.length c]), (7, 30, m7_), (8, 31, m8_), (9, 32, m9_), (10, 33, .pointer (some ⟨g, 0, none⟩)), (11, 34, .pointer (some ⟨g, 0, none⟩))] ∧ (b 9 = false → Below w5.heap.size w5 w') ∧ (Below base W w') ∧ (b 9 = false → w'.heap[gb]? = some (.cells #[.int .u64 x.f0, .int .u64 x.f1, .int .i64 x.f2, .int .i64 x.f3, .int .u64 x.f4, .bool x.f5, .int .i64 x.f6, .slice A x.f7.length c] 29 (0, 0))) ∧ (b 12 = false → w'.heap[g]? = some (.cells #[.slice A1 l.length c1] 57 (0, 0))) ∧ (b 9 = false → k29.R 29 w' base (fun k => g < k) (.slice A1 l.length c1) l) ∧ (b 9 = false → Kd.C (Kd.int .i64) w' A x.f7.length x.f7) ∧ (b 7 = true → b 9 = false → (Kd.int .i64).R 3 w' w5.heap.size (fun k => w5.heap.size ≤ k) (.slice A2 x.f7.length c2) x.f7) ∧ (b 8 = true → b 9 = false → (w'.heap[gx]? = some (.cells #[.int .u64 x.f0, .int .u64 x.f1, .int .i64 x.f2, .int .i64 x.f3, .int .u64 x.f4, .bool x.f5, .int .i64 x.f6, .slice A2 x.f7.length c2] 29 (0, 0)) ∧ w5.heap.size ≤ gx)) ∧ (b 9 = true → b 12 = false → (k29.R 29 w' base (fun k => g < k) (.slice A3 (putAt l i x).length c3) (putAt l i x) ∧ ∀ k, (Value.slice A3 (putAt l i x).length c3).ownBlock = some k → r = some k ∨ W.heap.size ≤ k)) ∧ (b 12 = true → ∃ r', IXr w' base g (putAt l i x) r' ∧ ∀ k, r' = some k → r = some k ∨ W.heap.size ≤ k) ∧ (∀ k, k < W.heap.size → k ≠ g → some k ≠ r → w'.heap[k]? = W.heap[k]?) ∧ (b 7 = true → (m7_ : Value) = .agg #[.int .u64 x.f0, .int .u64 x.f1, .int .i64 x.f2, .int .i64 x.f3, .int .u64 x.f4, .bool x.f5, .int .i64 x.f6, .slice A2 x.f7.length c2]) ∧ (b 8 = true → (m8_ : Value) = .slice (some ⟨gx, 0, none⟩) 1 1) ∧ (b 9 = true → (m9_ : Value) = .slice A3 (putAt l i x).length c3)) HT_.out HW_.out (by kernel_rfl) (by kernel_rfl) ?_ ?_ ?_
  · exact ⟨none, 0, 0, none, 0, .bool false, .bool false, .bool false, by simp only [putSel, Bool.false_eq_true, if_false], fun _ => B5.out, BX.out, fun _ => ZB.out, fun _ => ZG.out, fun _ => RR.out, fun _ => CA.out, fun h_ => absurd h_ (by decide), fun h_ => absurd h_ (by decide), fun h_ => absurd h_ (by decide), fun h_ => absurd h_ (by decide), FR.out, fun h_ => absurd h_ (by decide), fun h_ => absurd h_ (by decide), fun h_ => absurd h_ (by decide)⟩
  · skip
    clear B5 BX CA FR RR ZB ZG
    refine steps_cons ?_ ?_
    · rintro b a w' ⟨A2, c2, gx, A3, c3, m7_, m8_, m9_, ha, Q_B5, Q_BX, Q_ZB, Q_ZG, Q_RR, Q_CA, Q_PR, Q_GX, Q_IR, Q_FIN, Q_FR, Q_X7_, Q_X8_, Q_X9_⟩ hb_ hon hoff
      refine ⟨_, rfl, fun K hK => ?_⟩
      have e0 : a.tmps[0]? = some (.pointer (some ⟨g, 0, none⟩)) := by rw [ha]; exact (putSel_off rfl).trans rfl
      replace ha := Aside0.mk ha
      have BX := Aside0.mk Q_BX
      have ZG := Aside0.mk (Q_ZG (hoff 12 (by kernel_rfl)))
      have FR := Aside0.mk Q_FR
      refine value_ (w1 := w') (v := .pointer (some ⟨g, 0, none⟩)) (by rfl) rfl ?_ ?_
      · go_simp
        (try simp only [i64_w])
        try rfl
      refine hK.out _ _ ⟨A2, c2, gx, A3, c3, m7_, m8_, m9_, (by rw [ha.out]; exact putSel_upk 0 hb_ rfl rfl rfl), Q_B5, Q_BX, Q_ZB, Q_ZG, Q_RR, Q_CA, Q_PR, Q_GX, Q_IR, fun h0_ => absurd ((hoff 12 (by kernel_rfl)).symm.trans h0_) (by decide), Q_FR, Q_X7_, Q_X8_, Q_X9_⟩
    refine steps_cons ?_ ?_
    · rintro b a w' ⟨A2, c2, gx, A3, c3, m7_, m8_, m9_, ha, Q_B5, Q_BX, Q_ZB, Q_ZG, Q_RR, Q_CA, Q_PR, Q_GX, Q_IR, Q_FIN, Q_FR, Q_X7_, Q_X8_, Q_X9_⟩ hb_ hon hoff
      refine ⟨_, rfl, fun K hK => ?_⟩
      have e0 : a.tmps[0]? = some (.pointer (some ⟨g, 0, none⟩)) := by rw [ha]; exact (putSel_off rfl).trans rfl
      replace ha := Aside0.mk ha
      have B5 := Aside0.mk (Q_B5 (hoff 9 (by kernel_rfl)))
      have BX := Aside0.mk Q_BX
      have ZB := Aside0.mk (Q_ZB (hoff 9 (by kernel_rfl)))
      have ZG := Aside0.mk (Q_ZG (hoff 12 (by kernel_rfl)))
      have RR := Aside0.mk (Q_RR (hoff 9 (by kernel_rfl)))
      have CA := Aside0.mk (Q_CA (hoff 9 (by kernel_rfl)))
      have FR := Aside0.mk Q_FR
      refine value_ (w1 := w') (v := .pointer (some ⟨g, 0, none⟩)) (by rfl) rfl ?_ ?_
      · go_simp
        (try simp only [i64_w])
        try rfl
      refine hK.out _ _ ⟨A2, c2, gx, A3, c3, m7_, m8_, m9_, (by rw [ha.out]; exact putSel_upk 1 hb_ rfl rfl rfl), Q_B5, Q_BX, Q_ZB, Q_ZG, Q_RR, Q_CA, Q_PR, Q_GX, fun h0_ _ => absurd ((hoff 9 (by kernel_rfl)).symm.trans h0_) (by decide), fun h0_ => absurd ((hoff 12 (by kernel_rfl)).symm.trans h0_) (by decide), Q_FR, Q_X7_, Q_X8_, fun h0_ => absurd ((hoff 9 (by kernel_rfl)).symm.trans h0_) (by decide)⟩
    refine steps_cons ?_ ?_
    · rintro b a w' ⟨A2, c2, gx, A3, c3, m7_, m8_, m9_, ha, Q_B5, Q_BX, Q_ZB, Q_ZG, Q_RR, Q_CA, Q_PR, Q_GX, Q_IR, Q_FIN, Q_FR, Q_X7_, Q_X8_, Q_X9_⟩ hb_ hon hoff
      refine ⟨_, rfl, fun K hK => ?_⟩
      have e24 : a.tmps[24]? = some (.pointer (some ⟨g, 0, none⟩)) := by rw [ha]; exact putSel_on (e := (1, 24, .pointer (some ⟨g, 0, none⟩))) 1 rfl rfl (hon 1 (by kernel_rfl)) rfl
      replace ha := Aside0.mk ha
      have B5 := Aside0.mk (Q_B5 (hoff 9 (by kernel_rfl)))
      have BX := Aside0.mk Q_BX
      have ZB := Aside0.mk (Q_ZB (hoff 9 (by kernel_rfl)))
      have ZG := Aside0.mk (Q_ZG (hoff 12 (by kernel_rfl)))
      have RR := Aside0.mk (Q_RR (hoff 9 (by kernel_rfl)))
      have CA := Aside0.mk (Q_CA (hoff 9 (by kernel_rfl)))
      have FR := Aside0.mk Q_FR
      refine value_ (w1 := w') (v := .pointer (some ⟨g, 0, none⟩)) (by rfl) rfl ?_ ?_
      · go_simp
        (try simp only [i64_w])
        try rfl
      refine hK.out _ _ ⟨A2, c2, gx, A3, c3, m7_, m8_, m9_, (by rw [ha.out]; exact putSel_upk 2 hb_ rfl rfl rfl), Q_B5, Q_BX, Q_ZB, Q_ZG, Q_RR, Q_CA, Q_PR, Q_GX, fun h0_ _ => absurd ((hoff 9 (by kernel_rfl)).symm.trans h0_) (by decide), fun h0_ => absurd ((hoff 12 (by kernel_rfl)).symm.trans h0_) (by decide), Q_FR, Q_X7_, Q_X8_, fun h0_ => absurd ((hoff 9 (by kernel_rfl)).symm.trans h0_) (by decide)⟩
    refine steps_cons ?_ ?_
    · rintro b a w' ⟨A2, c2, gx, A3, c3, m7_, m8_, m9_, ha, Q_B5, Q_BX, Q_ZB, Q_ZG, Q_RR, Q_CA, Q_PR, Q_GX, Q_IR, Q_FIN, Q_FR, Q_X7_, Q_X8_, Q_X9_⟩ hb_ hon hoff
      refine ⟨_, rfl, fun K hK => ?_⟩
      have e25 : a.tmps[25]? = some (.pointer (some ⟨g, 0, none⟩)) := by rw [ha]; exact putSel_on (e := (2, 25, .pointer (some ⟨g, 0, none⟩))) 2 rfl rfl (hon 2 (by kernel_rfl)) rfl
      replace ha := Aside0.mk ha
      have B5 := Aside0.mk (Q_B5 (hoff 9 (by kernel_rfl)))
      have BX := Aside0.mk Q_BX
      have ZB := Aside0.mk (Q_ZB (hoff 9 (by kernel_rfl)))
      have ZG := Aside0.mk (Q_ZG (hoff 12 (by kernel_rfl)))
      have RR := Aside0.mk (Q_RR (hoff 9 (by kernel_rfl)))
      have CA := Aside0.mk (Q_CA (hoff 9 (by kernel_rfl)))
      have FR := Aside0.mk Q_FR
      refine value_ (w1 := w') (v := .pointer (some ⟨g, 0, none⟩)) (by rfl) rfl ?_ ?_
      · go_simp
        (try simp only [i64_w])
        try rfl
      refine hK.out _ _ ⟨A2, c2, gx, A3, c3, m7_, m8_, m9_, (by rw [ha.out]; exact putSel_upk 3 hb_ rfl rfl rfl), Q_B5, Q_BX, Q_ZB, Q_ZG, Q_RR, Q_CA, Q_PR, Q_GX, fun h0_ _ => absurd ((hoff 9 (by kernel_rfl)).symm.trans h0_) (by decide), fun h0_ => absurd ((hoff 12 (by kernel_rfl)).symm.trans h0_) (by decide), Q_FR, Q_X7_, Q_X8_, fun h0_ => absurd ((hoff 9 (by kernel_rfl)).symm.trans h0_) (by decide)⟩
    refine steps_cons ?_ ?_
    · rintro b a w' ⟨A2, c2, gx, A3, c3, m7_, m8_, m9_, ha, Q_B5, Q_BX, Q_ZB, Q_ZG, Q_RR, Q_CA, Q_PR, Q_GX, Q_IR, Q_FIN, Q_FR, Q_X7_, Q_X8_, Q_X9_⟩ hb_ hon hoff
      refine ⟨_, rfl, fun K hK => ?_⟩
      have e26 : a.tmps[26]? = some (.pointer (some ⟨g, 0, none⟩)) := by rw [ha]; exact putSel_on (e := (3, 26, .pointer (some ⟨g, 0, none⟩))) 3 rfl rfl (hon 3 (by kernel_rfl)) rfl
      replace ha := Aside0.mk ha
      have B5 := Aside0.mk (Q_B5 (hoff 9 (by kernel_rfl)))
      have BX := Aside0.mk Q_BX
      have ZB := Aside0.mk (Q_ZB (hoff 9 (by kernel_rfl)))
      have ZG := Aside0.mk (Q_ZG (hoff 12 (by kernel_rfl)))
      have RR := Aside0.mk (Q_RR (hoff 9 (by kernel_rfl)))
      have CA := Aside0.mk (Q_CA (hoff 9 (by kernel_rfl)))
      have FR := Aside0.mk Q_FR
      have c_ := blk_cell ZG.out 0
      refine value_ (w1 := w') (v := .slice A1 l.length c1) (by rfl) rfl ?_ ?_
      · go_simp
        (try simp only [i64_w])
        try rfl
      refine hK.out _ _ ⟨A2, c2, gx, A3, c3, m7_, m8_, m9_, (by rw [ha.out]; exact putSel_upk 4 hb_ rfl rfl rfl), Q_B5, Q_BX, Q_ZB, Q_ZG, Q_RR, Q_CA, Q_PR, Q_GX, fun h0_ _ => absurd ((hoff 9 (by kernel_rfl)).symm.trans h0_) (by decide), fun h0_ => absurd ((hoff 12 (by kernel_rfl)).symm.trans h0_) (by decide), Q_FR, Q_X7_, Q_X8_, fun h0_ => absurd ((hoff 9 (by kernel_rfl)).symm.trans h0_) (by decide)⟩
    refine steps_cons ?_ ?_
    · rintro b a w' ⟨A2, c2, gx, A3, c3, m7_, m8_, m9_, ha, Q_B5, Q_BX, Q_ZB, Q_ZG, Q_RR, Q_CA, Q_PR, Q_GX, Q_IR, Q_FIN, Q_FR, Q_X7_, Q_X8_, Q_X9_⟩ hb_ hon hoff
      refine ⟨_, rfl, fun K hK => ?_⟩
      have e6 : a.tmps[6]? = some (.int .i64 (i : Int)) := by rw [ha]; exact (putSel_off rfl).trans rfl
      replace ha := Aside0.mk ha
      have B5 := Aside0.mk (Q_B5 (hoff 9 (by kernel_rfl)))
      have BX := Aside0.mk Q_BX
      have ZB := Aside0.mk (Q_ZB (hoff 9 (by kernel_rfl)))
      have ZG := Aside0.mk (Q_ZG (hoff 12 (by kernel_rfl)))
      have RR := Aside0.mk (Q_RR (hoff 9 (by kernel_rfl)))
      have CA := Aside0.mk (Q_CA (hoff 9 (by kernel_rfl)))
      have FR := Aside0.mk Q_FR
      refine value_ (w1 := w') (v := .int .i64 (i : Int)) (by rfl) rfl ?_ ?_
      · go_simp
        (try simp only [i64_w])
        try rfl
      refine hK.out _ _ ⟨A2, c2, gx, A3, c3, m7_, m8_, m9_, (by rw [ha.out]; exact putSel_upk 5 hb_ rfl rfl rfl), Q_B5, Q_BX, Q_ZB, Q_ZG, Q_RR, Q_CA, Q_PR, Q_GX, fun h0_ _ => absurd ((hoff 9 (by kernel_rfl)).symm.trans h0_) (by decide), fun h0_ => absurd ((hoff 12 (by kernel_rfl)).symm.trans h0_) (by decide), Q_FR, Q_X7_, Q_X8_, fun h0_ => absurd ((hoff 9 (by kernel_rfl)).symm.trans h0_) (by decide)⟩
    refine steps_cons ?_ ?_
    · rintro b a w' ⟨A2, c2, gx, A3, c3, m7_, m8_, m9_, ha, Q_B5, Q_BX, Q_ZB, Q_ZG, Q_RR, Q_CA, Q_PR, Q_GX, Q_IR, Q_FIN, Q_FR, Q_X7_, Q_X8_, Q_X9_⟩ hb_ hon hoff
      refine ⟨_, rfl, fun K hK => ?_⟩
      have e3 : a.tmps[3]? = some (.pointer (some ⟨gb, 0, none⟩)) := by rw [ha]; exact (putSel_off rfl).trans rfl
      replace ha := Aside0.mk ha
      have B5 := Aside0.mk (Q_B5 (hoff 9 (by kernel_rfl)))
      have BX := Aside0.mk Q_BX
      have ZB := Aside0.mk (Q_ZB (hoff 9 (by kernel_rfl)))
      have ZG := Aside0.mk (Q_ZG (hoff 12 (by kernel_rfl)))
      have RR := Aside0.mk (Q_RR (hoff 9 (by kernel_rfl)))
      have CA := Aside0.mk (Q_CA (hoff 9 (by kernel_rfl)))
      have FR := Aside0.mk Q_FR
      have c0_ := blk_cell (ZB.out) 0
      have c1_ := blk_cell (ZB.out) 1
      have c2_ := blk_cell (ZB.out) 2
      have c3_ := blk_cell (ZB.out) 3
      have c4_ := blk_cell (ZB.out) 4
      have c5_ := blk_cell (ZB.out) 5
      have c6_ := blk_cell (ZB.out) 6
      have c7_ := blk_cell (ZB.out) 7
      refine value_ (w1 := w') (v := .agg #[.int .u64 x.f0, .int .u64 x.f1, .int .i64 x.f2, .int .i64 x.f3, .int .u64 x.f4, .bool x.f5, .int .i64 x.f6, .slice A x.f7.length c]) (by rfl) rfl ?_ ?_
      · go_simp
        (try simp only [i64_w])
        try rfl
      refine hK.out _ _ ⟨A2, c2, gx, A3, c3, m7_, m8_, m9_, (by rw [ha.out]; exact putSel_upk 6 hb_ rfl rfl rfl), Q_B5, Q_BX, Q_ZB, Q_ZG, Q_RR, Q_CA, fun h0_ _ => absurd ((hoff 7 (by kernel_rfl)).symm.trans h0_) (by decide), fun h0_ _ => absurd ((hoff 8 (by kernel_rfl)).symm.trans h0_) (by decide), fun h0_ _ => absurd ((hoff 9 (by kernel_rfl)).symm.trans h0_) (by decide), fun h0_ => absurd ((hoff 12 (by kernel_rfl)).symm.trans h0_) (by decide), Q_FR, fun h0_ => absurd ((hoff 7 (by kernel_rfl)).symm.trans h0_) (by decide), fun h0_ => absurd ((hoff 8 (by kernel_rfl)).symm.trans h0_) (by decide), fun h0_ => absurd ((hoff 9 (by kernel_rfl)).symm.trans h0_) (by decide)⟩
    refine steps_cons ?_ ?_
    · rintro b a w' ⟨A2, c2, gx, A3, c3, m7_, m8_, m9_, ha, Q_B5, Q_BX, Q_ZB, Q_ZG, Q_RR, Q_CA, Q_PR, Q_GX, Q_IR, Q_FIN, Q_FR, Q_X7_, Q_X8_, Q_X9_⟩ hb_ hon hoff
      refine ⟨_, rfl, fun K hK => ?_⟩
      have e29 : a.tmps[29]? = some (.agg #[.int .u64 x.f0, .int .u64 x.f1, .int .i64 x.f2, .int .i64 x.f3, .int .u64 x.f4, .bool x.f5, .int .i64 x.f6, .slice A x.f7.length c]) := by rw [ha]; exact putSel_on (e := (6, 29, .agg #[.int .u64 x.f0, .int .u64 x.f1, .int .i64 x.f2, .int .i64 x.f3, .int .u64 x.f4, .bool x.f5, .int .i64 x.f6, .slice A x.f7.length c])) 6 rfl rfl (hon 6 (by kernel_rfl)) rfl
      replace ha := Aside0.mk ha
      have B5 := Aside0.mk (Q_B5 (hoff 9 (by kernel_rfl)))
      have BX := Aside0.mk Q_BX
      have ZB := Aside0.mk (Q_ZB (hoff 9 (by kernel_rfl)))
      have ZG := Aside0.mk (Q_ZG (hoff 12 (by kernel_rfl)))
      have RR := Aside0.mk (Q_RR (hoff 9 (by kernel_rfl)))
      have CA := Aside0.mk (Q_CA (hoff 9 (by kernel_rfl)))
      have FR := Aside0.mk Q_FR
      refine goes_ Try.func31 (by kernel_rfl) rfl #[.agg #[.int .u64 x.f0, .int .u64 x.f1, .int .i64 x.f2, .int .i64 x.f3, .int .u64 x.f4, .bool x.f5, .int .i64 x.f6, .slice A x.f7.length c]] (by rfl) rfl rfl (by first | (simp only [List.map_toArray, List.map_cons, List.map_nil, Act.eval, Array.getD_eq_getD_getElem?, Option.getD_some, e29]; done) | (simp only [List.map_toArray, List.map_cons, List.map_nil, Act.eval, Array.getD_eq_getD_getElem?, Option.getD_some, e29]; rfl)) ?_
      with_reducible refine (HCP.out _ CA.out).mono ?_
      rintro e w2 ⟨A_, c_, rfl, hM_, hb⟩
      refine ⟨_, rfl, ?_⟩
      refine hK.out _ _ ⟨A_, c_, gx, A3, c3, (.agg #[.int .u64 x.f0, .int .u64 x.f1, .int .i64 x.f2, .int .i64 x.f3, .int .u64 x.f4, .bool x.f5, .int .i64 x.f6, .slice A_ x.f7.length c_]), m8_, m9_, (by rw [ha.out]; exact putSel_upk 7 hb_ rfl rfl rfl), fun _ => below_then B5.out B5.out.size hb, below_then BX.out (Nat.le_trans HG1.out.2.2.1 B5.out.size) hb, fun _ => blk_below ZB.out hb, fun _ => blk_below ZG.out hb, fun _ => Kd.R_below RR.out hb, fun _ => Kd.C_below CA.out hb, fun _ _ => Kd.R_mono (Kd.R_lower hM_ B5.out.size) (fun k hk => Nat.le_trans B5.out.size hk), fun h0_ _ => absurd ((hoff 8 (by kernel_rfl)).symm.trans h0_) (by decide), fun h0_ _ => absurd ((hoff 9 (by kernel_rfl)).symm.trans h0_) (by decide), fun h0_ => absurd ((hoff 12 (by kernel_rfl)).symm.trans h0_) (by decide), fun k h1_ h2_ h3_ => (hb.block k (Nat.lt_of_lt_of_le h1_ BX.out.size)).trans (FR.out k h1_ h2_ h3_), fun _ => rfl, fun h0_ => absurd ((hoff 8 (by kernel_rfl)).symm.trans h0_) (by decide), fun h0_ => absurd ((hoff 9 (by kernel_rfl)).symm.trans h0_) (by decide)⟩
    refine steps_cons ?_ ?_
    · rintro b a w' ⟨A2, c2, gx, A3, c3, m7_, m8_, m9_, ha, Q_B5, Q_BX, Q_ZB, Q_ZG, Q_RR, Q_CA, Q_PR, Q_GX, Q_IR, Q_FIN, Q_FR, Q_X7_, Q_X8_, Q_X9_⟩ hb_ hon hoff
      refine ⟨_, rfl, fun K hK => ?_⟩
      have e30 : a.tmps[30]? = some (m7_) := by rw [ha]; exact putSel_on (e := (7, 30, m7_)) 7 rfl rfl (hon 7 (by kernel_rfl)) rfl
      rw [Q_X7_ (hon 7 (by kernel_rfl))] at e30
      replace ha := Aside0.mk ha
      have B5 := Aside0.mk (Q_B5 (hoff 9 (by kernel_rfl)))
      have BX := Aside0.mk Q_BX
      have ZB := Aside0.mk (Q_ZB (hoff 9 (by kernel_rfl)))
      have ZG := Aside0.mk (Q_ZG (hoff 12 (by kernel_rfl)))
      have RR := Aside0.mk (Q_RR (hoff 9 (by kernel_rfl)))
      have CA := Aside0.mk (Q_CA (hoff 9 (by kernel_rfl)))
      have PR := Aside0.mk (Q_PR (hon 7 (by kernel_rfl)) (hoff 9 (by kernel_rfl)))
      have FR := Aside0.mk Q_FR
      refine value_ (w1 := w'.alloc (Obj.cells #[.int .u64 x.f0, .int .u64 x.f1, .int .i64 x.f2, .int .i64 x.f3, .int .u64 x.f4, .bool x.f5, .int .i64 x.f6, .slice A2 x.f7.length c2] 29)) (v := .slice (some ⟨w'.heap.size, 0, none⟩) 1 1) (by rfl) rfl (by first | (go_simp; done) | (go_simp; rfl)) ?_
      have hb := below_alloc (Below.refl w'.heap.size w') (Obj.cells #[.int .u64 x.f0, .int .u64 x.f1, .int .i64 x.f2, .int .i64 x.f3, .int .u64 x.f4, .bool x.f5, .int .i64 x.f6, .slice A2 x.f7.length c2] 29)
      refine hK.out _ _ ⟨A2, c2, w'.heap.size, A3, c3, m7_, (.slice (some ⟨w'.heap.size, 0, none⟩) 1 1), m9_, (by rw [ha.out]; exact putSel_upk 8 hb_ rfl rfl rfl), fun _ => below_then B5.out B5.out.size hb, below_then BX.out (Nat.le_trans HG1.out.2.2.1 B5.out.size) hb, fun _ => blk_below ZB.out hb, fun _ => blk_below ZG.out hb, fun _ => Kd.R_below RR.out hb, fun _ => Kd.C_below CA.out hb, fun _ _ => Kd.R_below PR.out hb, fun _ _ => ⟨heap_alloc_new w' _, B5.out.size⟩, fun h0_ _ => absurd ((hoff 9 (by kernel_rfl)).symm.trans h0_) (by decide), fun h0_ => absurd ((hoff 12 (by kernel_rfl)).symm.trans h0_) (by decide), fun k h1_ h2_ h3_ => (hb.block k (Nat.lt_of_lt_of_le h1_ BX.out.size)).trans (FR.out k h1_ h2_ h3_), Q_X7_, fun _ => rfl, fun h0_ => absurd ((hoff 9 (by kernel_rfl)).symm.trans h0_) (by decide)⟩
    refine steps_cons ?_ ?_
    · rintro b a w' ⟨A2, c2, gx, A3, c3, m7_, m8_, m9_, ha, Q_B5, Q_BX, Q_ZB, Q_ZG, Q_RR, Q_CA, Q_PR, Q_GX, Q_IR, Q_FIN, Q_FR, Q_X7_, Q_X8_, Q_X9_⟩ hb_ hon hoff
      refine ⟨_, rfl, fun K hK => ?_⟩
      have e27 : a.tmps[27]? = some (.slice A1 l.length c1) := by rw [ha]; exact putSel_on (e := (4, 27, .slice A1 l.length c1)) 4 rfl rfl (hon 4 (by kernel_rfl)) rfl
      have e28 : a.tmps[28]? = some (.int .i64 (i : Int)) := by rw [ha]; exact putSel_on (e := (5, 28, .int .i64 (i : Int))) 5 rfl rfl (hon 5 (by kernel_rfl)) rfl
      have e31 : a.tmps[31]? = some (m8_) := by rw [ha]; exact putSel_on (e := (8, 31, m8_)) 8 rfl rfl (hon 8 (by kernel_rfl)) rfl
      rw [Q_X8_ (hon 8 (by kernel_rfl))] at e31
      replace ha := Aside0.mk ha
      have B5 := Aside0.mk (Q_B5 hb_)
      have BX := Aside0.mk Q_BX
      have ZB := Aside0.mk (Q_ZB hb_)
      have ZG := Aside0.mk (Q_ZG (hoff 12 (by kernel_rfl)))
      have RR := Aside0.mk (Q_RR hb_)
      have CA := Aside0.mk (Q_CA hb_)
      have PR := Aside0.mk (Q_PR (hon 7 (by kernel_rfl)) hb_)
      have GX := Aside0.mk (Q_GX (hon 8 (by kernel_rfl)) hb_)
      have FR := Aside0.mk Q_FR
      refine goes_ Try.func30 (by kernel_rfl) rfl #[.slice A1 l.length c1, .int .i64 (i : Int), .slice (some ⟨gx, 0, none⟩) 1 1] (by rfl) rfl rfl (by first | (simp only [List.map_toArray, List.map_cons, List.map_nil, Act.eval, Array.getD_eq_getD_getElem?, Option.getD_some, e27, e28, e31]; done) | (simp only [List.map_toArray, List.map_cons, List.map_nil, Act.eval, Array.getD_eq_getD_getElem?, Option.getD_some, e27, e28, e31]; rfl)) ?_
      with_reducible refine (HIS.out _ _ _ _ B5.out.size RR.out PR.out GX.out).mono ?_
      rintro e w2 ⟨A_, c_, rfl, hI_, hg_, hw_⟩
      refine ⟨_, rfl, ?_⟩
      refine hK.out _ _ ⟨A2, c2, gx, A_, c_, m7_, m8_, (.slice A_ (putAt l i x).length c_), (by rw [ha.out]; exact putSel_upk 9 hb_ rfl rfl rfl), fun h0_ => absurd ((up_self b 9).symm.trans h0_) (by decide), pw_below_grown BX.out _ (Nat.le_trans HG1.out.2.2.1 B5.out.size) hg_ (fun k hk => Nat.le_trans HG1.out.1 (Nat.le_of_lt (RR.out.1 k hk))), fun h0_ => absurd ((up_self b 9).symm.trans h0_) (by decide), fun _ => blk_grown ZG.out hg_ (fun e_ => absurd (RR.out.1 g e_.symm) (Nat.lt_irrefl _)), fun h0_ => absurd ((up_self b 9).symm.trans h0_) (by decide), fun h0_ => absurd ((up_self b 9).symm.trans h0_) (by decide), fun _ h1_ => absurd ((up_self b 9).symm.trans h1_) (by decide), fun _ h1_ => absurd ((up_self b 9).symm.trans h1_) (by decide), fun _ _ => ⟨hI_, fun k hk => (hw_ k hk).elim (fun h => .inl (HR1.out.trans h)) (fun h => .inr (Nat.le_trans BX.out.size h))⟩, fun h0_ => absurd ((hoff 12 (by kernel_rfl)).symm.trans h0_) (by decide), fun k h1_ h2_ h3_ => (hg_.block k (Nat.lt_of_lt_of_le h1_ BX.out.size) (fun e_ => h3_ (e_.trans HR1.out.symm))).trans (FR.out k h1_ h2_ h3_), Q_X7_, Q_X8_, fun _ => rfl⟩
    refine steps_cons ?_ ?_
    · rintro b a w' ⟨A2, c2, gx, A3, c3, m7_, m8_, m9_, ha, Q_B5, Q_BX, Q_ZB, Q_ZG, Q_RR, Q_CA, Q_PR, Q_GX, Q_IR, Q_FIN, Q_FR, Q_X7_, Q_X8_, Q_X9_⟩ hb_ hon hoff
      refine ⟨_, rfl, fun K hK => ?_⟩
      have e23 : a.tmps[23]? = some (.pointer (some ⟨g, 0, none⟩)) := by rw [ha]; exact putSel_on (e := (0, 23, .pointer (some ⟨g, 0, none⟩))) 0 rfl rfl (hon 0 (by kernel_rfl)) rfl
      replace ha := Aside0.mk ha
      have BX := Aside0.mk Q_BX
      have ZG := Aside0.mk (Q_ZG (hoff 12 (by kernel_rfl)))
      have IR := Aside0.mk (Q_IR (hon 9 (by kernel_rfl)) (hoff 12 (by kernel_rfl)))
      have FR := Aside0.mk Q_FR
      refine value_ (w1 := w') (v := .pointer (some ⟨g, 0, none⟩)) (by rfl) rfl ?_ ?_
      · go_simp
        (try simp only [i64_w])
        try rfl
      refine hK.out _ _ ⟨A2, c2, gx, A3, c3, m7_, m8_, m9_, (by rw [ha.out]; exact putSel_upk 10 hb_ rfl rfl rfl), fun h0_ => absurd ((hon 9 (by kernel_rfl)).symm.trans h0_) (by decide), Q_BX, fun h0_ => absurd ((hon 9 (by kernel_rfl)).symm.trans h0_) (by decide), Q_ZG, fun h0_ => absurd ((hon 9 (by kernel_rfl)).symm.trans h0_) (by decide), fun h0_ => absurd ((hon 9 (by kernel_rfl)).symm.trans h0_) (by decide), fun _ h1_ => absurd ((hon 9 (by kernel_rfl)).symm.trans h1_) (by decide), fun _ h1_ => absurd ((hon 9 (by kernel_rfl)).symm.trans h1_) (by decide), Q_IR, fun h0_ => absurd ((hoff 12 (by kernel_rfl)).symm.trans h0_) (by decide), Q_FR, Q_X7_, Q_X8_, Q_X9_⟩
    refine steps_cons ?_ ?_
    · rintro b a w' ⟨A2, c2, gx, A3, c3, m7_, m8_, m9_, ha, Q_B5, Q_BX, Q_ZB, Q_ZG, Q_RR, Q_CA, Q_PR, Q_GX, Q_IR, Q_FIN, Q_FR, Q_X7_, Q_X8_, Q_X9_⟩ hb_ hon hoff
      refine ⟨_, rfl, fun K hK => ?_⟩
      have e33 : a.tmps[33]? = some (.pointer (some ⟨g, 0, none⟩)) := by rw [ha]; exact putSel_on (e := (10, 33, .pointer (some ⟨g, 0, none⟩))) 10 rfl rfl (hon 10 (by kernel_rfl)) rfl
      replace ha := Aside0.mk ha
      have BX := Aside0.mk Q_BX
      have ZG := Aside0.mk (Q_ZG (hoff 12 (by kernel_rfl)))
      have IR := Aside0.mk (Q_IR (hon 9 (by kernel_rfl)) (hoff 12 (by kernel_rfl)))
      have FR := Aside0.mk Q_FR
      refine value_ (w1 := w') (v := .pointer (some ⟨g, 0, none⟩)) (by rfl) rfl ?_ ?_
      · go_simp
        (try simp only [i64_w])
        try rfl
      refine hK.out _ _ ⟨A2, c2, gx, A3, c3, m7_, m8_, m9_, (by rw [ha.out]; exact putSel_upk 11 hb_ rfl rfl rfl), fun h0_ => absurd ((hon 9 (by kernel_rfl)).symm.trans h0_) (by decide), Q_BX, fun h0_ => absurd ((hon 9 (by kernel_rfl)).symm.trans h0_) (by decide), Q_ZG, fun h0_ => absurd ((hon 9 (by kernel_rfl)).symm.trans h0_) (by decide), fun h0_ => absurd ((hon 9 (by kernel_rfl)).symm.trans h0_) (by decide), fun _ h1_ => absurd ((hon 9 (by kernel_rfl)).symm.trans h1_) (by decide), fun _ h1_ => absurd ((hon 9 (by kernel_rfl)).symm.trans h1_) (by decide), Q_IR, fun h0_ => absurd ((hoff 12 (by kernel_rfl)).symm.trans h0_) (by decide), Q_FR, Q_X7_, Q_X8_, Q_X9_⟩
    refine steps_cons ?_ ?_
    · rintro b a w' ⟨A2, c2, gx, A3, c3, m7_, m8_, m9_, ha, Q_B5, Q_BX, Q_ZB, Q_ZG, Q_RR, Q_CA, Q_PR, Q_GX, Q_IR, Q_FIN, Q_FR, Q_X7_, Q_X8_, Q_X9_⟩ hb_ hon hoff
      refine ⟨_, rfl, fun K hK => ?_⟩
      have e34 : a.tmps[34]? = some (.pointer (some ⟨g, 0, none⟩)) := by rw [ha]; exact putSel_on (e := (11, 34, .pointer (some ⟨g, 0, none⟩))) 11 rfl rfl (hon 11 (by kernel_rfl)) rfl
      have e32 : a.tmps[32]? = some (m9_) := by rw [ha]; exact putSel_on (e := (9, 32, m9_)) 9 rfl rfl (hon 9 (by kernel_rfl)) rfl
      rw [Q_X9_ (hon 9 (by kernel_rfl))] at e32
      replace ha := Aside0.mk ha
      have BX := Aside0.mk Q_BX
      have ZG := Aside0.mk (Q_ZG hb_)
      have IR := Aside0.mk (Q_IR (hon 9 (by kernel_rfl)) hb_)
      have FR := Aside0.mk Q_FR
      have c_ := blk_cell ZG.out 0
      have fr_ := blk_frozen ZG.out 0
      refine skip_ (w1 := ?_) (by rfl) rfl ?_ ?_
      rotate_left
      · go_simp
        rfl
      refine hK.out _ _ ⟨A2, c2, gx, A3, c3, m7_, m8_, m9_, (by rw [ha.out]; exact putSel_none (v := undef) rfl), fun h0_ => absurd ((hon 9 (by kernel_rfl)).symm.trans h0_) (by decide), BX.out.setCell (p := ⟨g, 0, none⟩) HG1.out.1 _, fun h0_ => absurd ((hon 9 (by kernel_rfl)).symm.trans h0_) (by decide), fun h0_ => absurd ((up_self b 12).symm.trans h0_) (by decide), fun h0_ => absurd ((hon 9 (by kernel_rfl)).symm.trans h0_) (by decide), fun h0_ => absurd ((hon 9 (by kernel_rfl)).symm.trans h0_) (by decide), fun _ h1_ => absurd ((hon 9 (by kernel_rfl)).symm.trans h1_) (by decide), fun _ h1_ => absurd ((hon 9 (by kernel_rfl)).symm.trans h1_) (by decide), fun _ h1_ => absurd ((up_self b 12).symm.trans h1_) (by decide), fun _ => ⟨_, ⟨A3, c3, blk_put ZG.out 0 _ (by rw [HPLN.out]; rfl), Kd.R_far (p := ⟨g, 0, none⟩) IR.out.1 (fun k hk => Nat.ne_of_gt hk) _, HG1.out.1, rfl⟩, IR.out.2⟩, fun k h1_ h2_ h3_ => (Below.heap_setCell _ ⟨g, 0, none⟩ _ k h2_).trans (FR.out k h1_ h2_ h3_), Q_X7_, Q_X8_, Q_X9_⟩
    exact steps_nil
  rintro b a w9 hall ⟨A2, c2, gx, A3, c3, m7_, m8_, m9_, ha, Q_B5, Q_BX, Q_ZB, Q_ZG, Q_RR, Q_CA, Q_PR, Q_GX, Q_IR, Q_FIN, Q_FR, Q_X7_, Q_X8_, Q_X9_⟩
  clear B5 BX CA FR RR ZB ZG
  have hb0_ := hall 0 (by kernel_rfl)
  have hb1_ := hall 1 (by kernel_rfl)
  have hb2_ := hall 2 (by kernel_rfl)
  have hb3_ := hall 3 (by kernel_rfl)
  have hb4_ := hall 4 (by kernel_rfl)
  have hb5_ := hall 5 (by kernel_rfl)
  have hb6_ := hall 6 (by kernel_rfl)
  have hb7_ := hall 7 (by kernel_rfl)
  have hb8_ := hall 8 (by kernel_rfl)
  have hb9_ := hall 9 (by kernel_rfl)
  have hb10_ := hall 10 (by kernel_rfl)
  have hb11_ := hall 11 (by kernel_rfl)
  have hb12_ := hall 12 (by kernel_rfl)
  subst ha
  obtain rfl := Q_X7_ hb7_
  obtain rfl := Q_X8_ hb8_
  obtain rfl := Q_X9_ hb9_
  simp only [putSel, hb0_, hb1_, hb2_, hb3_, hb4_, hb5_, hb6_, hb7_, hb8_, hb9_, hb10_, hb11_, hb12_, if_true, Act.put, List.setIfInBounds_toArray, List.set_cons_zero, List.set_cons_succ]
  clear Q_B5
  have BX := Aside0.mk Q_BX
  clear Q_BX
  clear Q_ZB
  clear Q_ZG
  clear Q_RR
  clear Q_CA
  clear Q_PR
  clear Q_GX
  clear Q_IR
  have FIN := Aside0.mk (Q_FIN hb12_)
  clear Q_FIN
  have FR := Aside0.mk Q_FR
  clear Q_FR
  clear hall hb0_ hb1_ hb2_ hb3_ hb4_ hb5_ hb6_ hb7_ hb8_ hb9_ hb10_ hb11_ hb12_
  go_wp2_with fail
  go_ret
  exact ⟨rfl, ⟨FIN.out, FR.out⟩, BX.out⟩
theorem put_end {W : World} {base g : Nat} {l : List R0} (h : IX W base g l) (x : R0) (A : Option Addr) (c : Nat) (hC : Kd.C (Kd.int .i64) W A x.f7.length x.f7) (hp : x.f7.length ≤ 1000) (hm : mayB x = true) (hr : Rising keyR l) (hn : l.length ≤ 1000) (hlow : low keyR l x.f0 = l.length) (hk : hasKey keyR l x.f0 = false) :
    Calls Try.prog 17 #[.pointer (some ⟨g, 0, none⟩), ragg x A c] W fun e w' => e = .returned (.int .i64 0) ∧ IX w' base g (l ++ [x]) ∧ Below base W w' := by
  have e : putAt l l.length x = l ++ [x] := by unfold putAt; rw [List.take_length, List.drop_length]
  obtain ⟨r, hr2⟩ := h.r
  have h2 := put_any hr2 x A c hC hp hm hr hn hlow hk
  rw [e] at h2
  exact h2.mono (fun e w' ⟨h1, ⟨⟨r', h3, _⟩, _⟩, h4⟩ => ⟨h1, h3.ix, h4⟩)
end Go.Proofs.Ytaepbgieahedjaa.QS
namespace Go.Proofs.Ytaepbgieahedjaa.QS
set_option linter.unusedVariables false
set_option linter.unusedSimpArgs false
open Go.RowKit Go.Proofs.Ytaepbgieahedjaa.Hp Go.Proofs.YtaepbgieahedjaaW.PrintWords Go.Proofs.YtaepbgieahedjaaW.PrintLast Go.Proofs.YtaepbgieahedjaaW.PrintMore
open Go.Proofs.Ytaepbgieahedjaa.IP
set_option maxHeartbeats 4000000 in
set_option maxRecDepth 100000 in
theorem put_no {W : World} {base g : Nat} {l : List R0} (h : IX W base g l) (x : R0) (A : Option Addr) (c : Nat) (hC : Kd.C (Kd.int .i64) W A x.f7.length x.f7) (hp : x.f7.length ≤ 9223372036854775807) (hr : Rising keyR l) (hn : l.length ≤ 1000) (hk : mayB x = true → hasKey keyR l x.f0 = true) :
    Calls Try.prog 17 #[.pointer (some ⟨g, 0, none⟩), ragg x A c] W fun e w' => e = .returned (.int .i64 (if mayB x = true then 15 else 3)) ∧ Below W.heap.size W w' := by
  have hz := heap_alloc_new W (.cells #[.int .u64 x.f0, .int .u64 x.f1, .int .i64 x.f2, .int .i64 x.f3, .int .u64 x.f4, .bool x.f5, .int .i64 x.f6, .slice A x.f7.length c] 29)
  have hb := below_alloc (Below.refl W.heap.size W) (.cells #[.int .u64 x.f0, .int .u64 x.f1, .int .i64 x.f2, .int .i64 x.f3, .int .u64 x.f4, .bool x.f5, .int .i64 x.f6, .slice A x.f7.length c] 29)
  obtain ⟨gb, hgb⟩ : ∃ g, g = W.heap.size := ⟨_, rfl⟩
  have HX1 := Aside0.mk (h.below hb)
  have HC1 := Aside0.mk (Kd.C_below hC hb)
  have HIN := Aside0.mk (And.intro hp (And.intro hr hn))
  have HK := Aside0.mk hk
  unfold ragg
  obtain ⟨rv, hrv⟩ : ∃ rv : Int, rv = if mayB x = true then 15 else 3 := ⟨_, rfl⟩
  rw [← hrv]
  have HRV := Aside0.mk hrv
  clear h hC hp hr hn hk hrv
  go_enter Try.func17, Try.ntmps17
  go_upto_region 1 with fail
  generalize W.alloc (.cells #[.int .u64 x.f0, .int .u64 x.f1, .int .i64 x.f2, .int .i64 x.f3, .int .u64 x.f4, .bool x.f5, .int .i64 x.f6, .slice A x.f7.length c] 29) = W1 at hz hb HX1 HC1 ⊢
  rw [← hgb] at hz ⊢
  have HCK := Aside0.mk (check_calls x A c W1 (by have := HIN.out.1; omega) HC1.out)
  unfold chk at HCK
  unfold ragg at HCK
  have HZ := Aside0.mk hz
  have HB := Aside0.mk hb
  have c0 := blk_cell hz 0
  have c1 := blk_cell hz 1
  have c2 := blk_cell hz 2
  have c3 := blk_cell hz 3
  have c4 := blk_cell hz 4
  have c5 := blk_cell hz 5
  have c6 := blk_cell hz 6
  have c7 := blk_cell hz 7
  clear hz hb hgb
  cases hm : mayB x with
  | false =>
    rw [hm] at HCK
    replace HCK := Aside0.mk HCK.out
    have HE : Aside0 (rv = 3) := ⟨by rw [HRV.out, hm]; rfl⟩
    clear hm
    go_wp2_with (go_at_call 29; refine HCK.out.mono ?_; rintro e w2 ⟨rfl, hb⟩; have HB2 := Aside0.mk (below_then HB.out HB.out.size hb); clear hb c0 c1 c2 c3 c4 c5 c6 c7)
    go_ret
    exact ⟨by rw [HE.out]; rfl, HB2.out⟩
  | true =>
    have hkk := HK.out hm
    rw [hm, if_pos rfl] at HCK
    have HE : Aside0 (rv = 15) := ⟨by rw [HRV.out, hm]; rfl⟩
    clear hm
    go_upto_region 6 with (go_at_call 29; refine HCK.out.mono ?_; rintro e w2 ⟨rfl, hb⟩; have HB2 := Aside0.mk (below_then HB.out HB.out.size hb); have HZ2 := Aside0.mk (blk_below HZ.out hb); have HX2 := Aside0.mk (HX1.out.below hb); clear hb c0 c1 c2 c3 c4 c5 c6 c7)
    have HPL := Aside0.mk (place_calls HX2.out HIN.out.2.1 (by have := HIN.out.2.2; omega) x.f0)
    rw [hkk] at HPL
    have c0 := blk_cell HZ2.out 0
    clear HX1 HC1 HCK HZ HB hkk
    go_wp2_with (go_at_call 27; refine HPL.out.mono ?_; rintro e w5 ⟨rfl, hb⟩; have HB5 := Aside0.mk (below_then HB2.out HB2.out.size hb); clear hb c0)
    go_ret
    exact ⟨by rw [HE.out]; rfl, HB5.out⟩
end Go.Proofs.Ytaepbgieahedjaa.QS
namespace Go.Proofs.Ytaepbgieahedjaa.QS
set_option linter.unusedVariables false
set_option linter.unusedSimpArgs false
open Go.RowKit Go.Proofs.Ytaepbgieahedjaa.Hp Go.Proofs.YtaepbgieahedjaaW.PrintWords Go.Proofs.YtaepbgieahedjaaW.PrintLast Go.Proofs.YtaepbgieahedjaaW.PrintMore
open Go.Proofs.Ytaepbgieahedjaa.IP
section
variable {P : Program} {ops : Array Oper} {rest : List Oper} {Q : Exit → Act → World → Prop}
end
theorem mem_dropAt {α : Type} {l : List α} {i : Nat} {y : α} (h : y ∈ dropAt l i) : y ∈ l := by
  unfold dropAt at h
  rcases List.mem_append.1 h with h | h
  · exact List.mem_of_mem_take h
  · exact List.mem_of_mem_drop h
theorem dropAt_length {α : Type} {l : List α} {i : Nat} (hi : i < l.length) : (dropAt l i).length = l.length - 1 := by
  unfold dropAt
  rw [List.length_append, List.length_take, List.length_drop]
  omega
end Go.Proofs.Ytaepbgieahedjaa.QS
namespace Go.Proofs.Ytaepbgieahedjaa.QS
set_option linter.unusedVariables false
set_option linter.unusedSimpArgs false
open Go.RowKit Go.Proofs.Ytaepbgieahedjaa.Hp Go.Proofs.YtaepbgieahedjaaW.PrintWords Go.Proofs.YtaepbgieahedjaaW.PrintLast Go.Proofs.YtaepbgieahedjaaW.PrintMore
open Go.Proofs.Ytaepbgieahedjaa.IP
theorem fill8 {g N : Nat} {w0 W : World} (x : R0) (A : Option Addr) (c : Nat) (hz : W.heap[g]? = some (.cells #[.int .u64 0, .int .u64 0, .int .i64 0, .int .i64 0, .int .u64 0, .bool false, .int .i64 0, .slice none 0 0] 29 (0, 0))) (hN : N ≤ g) (hb : Below N w0 W) :
    Below N w0 ((((((((W.setCell ⟨g, 0, none⟩ (.int .u64 x.f0)).setCell ⟨g, 1, none⟩ (.int .u64 x.f1)).setCell ⟨g, 2, none⟩ (.int .i64 x.f2)).setCell ⟨g, 3, none⟩ (.int .i64 x.f3)).setCell ⟨g, 4, none⟩ (.int .u64 x.f4)).setCell ⟨g, 5, none⟩ (.bool x.f5)).setCell ⟨g, 6, none⟩ (.int .i64 x.f6)).setCell ⟨g, 7, none⟩ (.slice A x.f7.length c)) ∧ ((((((((W.setCell ⟨g, 0, none⟩ (.int .u64 x.f0)).setCell ⟨g, 1, none⟩ (.int .u64 x.f1)).setCell ⟨g, 2, none⟩ (.int .i64 x.f2)).setCell ⟨g, 3, none⟩ (.int .i64 x.f3)).setCell ⟨g, 4, none⟩ (.int .u64 x.f4)).setCell ⟨g, 5, none⟩ (.bool x.f5)).setCell ⟨g, 6, none⟩ (.int .i64 x.f6)).setCell ⟨g, 7, none⟩ (.slice A x.f7.length c)).heap[g]? = some (.cells #[.int .u64 x.f0, .int .u64 x.f1, .int .i64 x.f2, .int .i64 x.f3, .int .u64 x.f4, .bool x.f5, .int .i64 x.f6, .slice A x.f7.length c] 29 (0, 0)) ∧ ∀ k, k ≠ g → ((((((((W.setCell ⟨g, 0, none⟩ (.int .u64 x.f0)).setCell ⟨g, 1, none⟩ (.int .u64 x.f1)).setCell ⟨g, 2, none⟩ (.int .i64 x.f2)).setCell ⟨g, 3, none⟩ (.int .i64 x.f3)).setCell ⟨g, 4, none⟩ (.int .u64 x.f4)).setCell ⟨g, 5, none⟩ (.bool x.f5)).setCell ⟨g, 6, none⟩ (.int .i64 x.f6)).setCell ⟨g, 7, none⟩ (.slice A x.f7.length c)).heap[k]? = W.heap[k]? := by
  have h0 := blk_put hz 0 (.int .u64 x.f0) (cs' := #[.int .u64 x.f0, .int .u64 0, .int .i64 0, .int .i64 0, .int .u64 0, .bool false, .int .i64 0, .slice none 0 0]) rfl
  have h1 := blk_put h0 1 (.int .u64 x.f1) (cs' := #[.int .u64 x.f0, .int .u64 x.f1, .int .i64 0, .int .i64 0, .int .u64 0, .bool false, .int .i64 0, .slice none 0 0]) rfl
  have h2 := blk_put h1 2 (.int .i64 x.f2) (cs' := #[.int .u64 x.f0, .int .u64 x.f1, .int .i64 x.f2, .int .i64 0, .int .u64 0, .bool false, .int .i64 0, .slice none 0 0]) rfl
  have h3 := blk_put h2 3 (.int .i64 x.f3) (cs' := #[.int .u64 x.f0, .int .u64 x.f1, .int .i64 x.f2, .int .i64 x.f3, .int .u64 0, .bool false, .int .i64 0, .slice none 0 0]) rfl
  have h4 := blk_put h3 4 (.int .u64 x.f4) (cs' := #[.int .u64 x.f0, .int .u64 x.f1, .int .i64 x.f2, .int .i64 x.f3, .int .u64 x.f4, .bool false, .int .i64 0, .slice none 0 0]) rfl
  have h5 := blk_put h4 5 (.bool x.f5) (cs' := #[.int .u64 x.f0, .int .u64 x.f1, .int .i64 x.f2, .int .i64 x.f3, .int .u64 x.f4, .bool x.f5, .int .i64 0, .slice none 0 0]) rfl
  have h6 := blk_put h5 6 (.int .i64 x.f6) (cs' := #[.int .u64 x.f0, .int .u64 x.f1, .int .i64 x.f2, .int .i64 x.f3, .int .u64 x.f4, .bool x.f5, .int .i64 x.f6, .slice none 0 0]) rfl
  have h7 := blk_put h6 7 (.slice A x.f7.length c) (cs' := #[.int .u64 x.f0, .int .u64 x.f1, .int .i64 x.f2, .int .i64 x.f3, .int .u64 x.f4, .bool x.f5, .int .i64 x.f6, .slice A x.f7.length c]) rfl
  refine ⟨((((((((hb.setCell (p := ⟨g, 0, none⟩) hN _).setCell (p := ⟨g, 1, none⟩) hN _).setCell (p := ⟨g, 2, none⟩) hN _).setCell (p := ⟨g, 3, none⟩) hN _).setCell (p := ⟨g, 4, none⟩) hN _).setCell (p := ⟨g, 5, none⟩) hN _).setCell (p := ⟨g, 6, none⟩) hN _).setCell (p := ⟨g, 7, none⟩) hN _), h7, fun k hk => ?_⟩
  exact (Below.heap_setCell _ ⟨g, 7, none⟩ _ k hk).trans ((Below.heap_setCell _ ⟨g, 6, none⟩ _ k hk).trans ((Below.heap_setCell _ ⟨g, 5, none⟩ _ k hk).trans ((Below.heap_setCell _ ⟨g, 4, none⟩ _ k hk).trans ((Below.heap_setCell _ ⟨g, 3, none⟩ _ k hk).trans ((Below.heap_setCell _ ⟨g, 2, none⟩ _ k hk).trans ((Below.heap_setCell _ ⟨g, 1, none⟩ _ k hk).trans ((Below.heap_setCell _ ⟨g, 0, none⟩ _ k hk))))))))
theorem IX.at {W : World} {base g i : Nat} {l : List R0} {x : R0} {A : Option Addr} {c : Nat} (hR : k29.R 29 W base (fun k => g < k) (.slice A l.length c) l) (hx : l[i]? = some x) :
    ∃ (gr : Nat) (Ax : Option Addr) (cx : Nat) (cur : Array Value), A = some ⟨gr, 0, none⟩ ∧ g < gr ∧ W.heap[gr]? = some (.cells cur 29 (0, 0)) ∧ (∀ k u, (encR x Ax cx)[k]? = some u → cur[i * 8 + k]? = some u) ∧ (Kd.int .i64).R 3 W base (fun k => g < k ∧ k ≠ gr) (.slice Ax x.f7.length cx) x.f7 := by
  have hi := (List.getElem?_eq_some_iff.1 hx).1
  obtain ⟨ps, hps, ho, hmade⟩ := rows_of_R hR
  have hlen : ps.length = l.length := by rw [← hps, List.length_map]
  obtain ⟨hxs, ⟨hv, hn0⟩ | ⟨gr, c', cur, hv, hgb, hz, hnc, hcm, hcs, htk⟩⟩ := ho
  · omega
  injection hv with e1 e2 e3
  clear e2
  subst e1 e3
  have hp : ps[i]? = some (ps[i]'(by omega)) := List.getElem?_eq_getElem (by omega)
  have hpx : (ps[i]'(by omega)).1 = x := by
    rw [← hps, List.getElem?_map, hp] at hx
    exact Option.some.inj hx
  have hm := hmade _ (List.getElem_mem (show i < ps.length by omega))
  refine ⟨gr, (ps[i]'(by omega)).2.1, (ps[i]'(by omega)).2.2, cur, rfl, hR.1 gr rfl, hz, fun k u hu => ?_, ?_⟩
  · have hk8 : k < 8 := (List.getElem?_eq_some_iff.1 hu).1
    have e : (recOf (ps[i]'(by omega))).enc = encR x (ps[i]'(by omega)).2.1 (ps[i]'(by omega)).2.2 := by rw [← hpx]; rfl
    have e2 := encs_at (ps.map recOf) i (recOf (ps[i]'(by omega))) (by rw [List.getElem?_map, hp]; rfl) k hk8
    rw [e, hu, ← htk, List.getElem?_take, if_pos (by omega), Array.getElem?_toList] at e2
    exact e2
  · rw [← hpx]
    exact Kd.R_mono hm (fun k hk => ⟨hk.1, fun he => hk.2 (by rw [he]; rfl)⟩)
end Go.Proofs.Ytaepbgieahedjaa.QS
namespace Go.Proofs.Ytaepbgieahedjaa.QS
set_option linter.unusedVariables false
set_option linter.unusedSimpArgs false
open Go.RowKit Go.Proofs.Ytaepbgieahedjaa.Hp Go.Proofs.YtaepbgieahedjaaW.PrintWords Go.Proofs.YtaepbgieahedjaaW.PrintLast Go.Proofs.YtaepbgieahedjaaW.PrintMore
open Go.Proofs.Ytaepbgieahedjaa.IP
end Go.Proofs.Ytaepbgieahedjaa.QS
namespace Go.Proofs.Ytaepbgieahedjaa.QS
set_option linter.unusedVariables false
set_option linter.unusedSimpArgs false
open Go.RowKit Go.Proofs.Ytaepbgieahedjaa.Hp Go.Proofs.YtaepbgieahedjaaW.PrintWords Go.Proofs.YtaepbgieahedjaaW.PrintLast Go.Proofs.YtaepbgieahedjaaW.PrintMore
open Go.Proofs.Ytaepbgieahedjaa.IP
def frI (n : Int) : Int := if n < 1 then 0 else wrap64 ((wrap64 (Int.tdiv (wrap64 (n - 1)) 100)) + 1)
theorem frames_calls (n : Int) (w : World) : Calls Try.prog 14 #[.int .i64 n] w fun e w' => e = .returned (.int .i64 (frI n)) ∧ Below w.heap.size w w' := by
  refine (index_Frames.calls n (frI n) w ?_).mono ?_
  · unfold index_Frames.f frI
    split <;> rfl
  · rintro e w' ⟨rfl, h⟩
    exact ⟨rfl, h.below⟩
def inB (n : Int) (x : R0) : Bool := decide (x.f1 ≤ n) && decide (IntKind.u64.wrap (n - x.f1) < IntKind.u64.wrap (frI x.f3))
def fr0.T1 : Bool × List (List Nat × List Nat) := (true, [([], []), ([], []), ([1], [1]), ([0, 2], [0, 2]), ([3], [3]), ([4], [4]), ([4], [4]), ([6, 4], [4, 6]), ([5, 7, 4], [4, 5, 7]), ([4], [4]), ([9, 4], [4, 9]), ([10, 4, 4], [4, 10]), ([11, 4], [4, 11]), ([8, 12, 4], [4, 8, 12]), ([4, 13], [4, 13]), ([14, 11, 0, 1, 2, 3, 4, 5, 6, 7, 8, 9, 10, 11, 12, 13, 14], [14])])
def fr0.B1 : List Nat := [0, 0, 2, 7, 15, 31, 31, 95, 255, 31, 543, 1567, 3615, 8191, 16383, 32767]
theorem fr0.tab1 : rtab .any (opsOf Try.f26 1) = fr0.T1 := by kernel_rfl
theorem fr0.bits1 : waitsOk fr0.T1.2 fr0.B1 = true := by kernel_rfl
def fr1.T1 : Bool × List (List Nat × List Nat) := (true, [([], []), ([], []), ([1], [1]), ([0, 2], [0, 2]), ([3], [3]), ([4], [4]), ([4], [4]), ([6, 4], [4, 6]), ([5, 7, 4], [4, 5, 7]), ([4], [4]), ([9, 4], [4, 9]), ([10, 4, 4], [4, 10]), ([11, 4], [4, 11]), ([8, 12, 4], [4, 8, 12]), ([4, 13], [4, 13]), ([14, 11, 0, 1, 2, 3, 4, 5, 6, 7, 8, 9, 10, 11, 12, 13, 14], [14])])
def fr1.B1 : List Nat := [0, 0, 2, 7, 15, 31, 31, 95, 255, 31, 543, 1567, 3615, 8191, 16383, 32767]
theorem fr1.tab1 : rtab .any (opsOf Try.f26 1) = fr1.T1 := by kernel_rfl
theorem fr1.bits1 : waitsOk fr1.T1.2 fr1.B1 = true := by kernel_rfl
set_option maxHeartbeats 2000000 in
set_option maxRecDepth 100000 in
theorem frame_fn {gb : Nat} {n : Int} (x : R0) (Ap : Option Addr) (cpp : Nat) (W : World) (hc : W.heap[gb]? = some (.cells #[.int .u64 n] 23 (0, 0))) : Calls Try.prog 26 (#[.agg #[.int .u64 x.f0, .int .u64 x.f1, .int .i64 x.f2, .int .i64 x.f3, .int .u64 x.f4, .bool x.f5, .int .i64 x.f6, .slice Ap x.f7.length cpp]] ++ #[.pointer (some ⟨gb, 0, none⟩)]) W fun e w' => e = .returned (.bool (inB n x)) ∧ Below W.heap.size W w' := by
  have hz := heap_alloc_new W (.cells #[.int .u64 x.f0, .int .u64 x.f1, .int .i64 x.f2, .int .i64 x.f3, .int .u64 x.f4, .bool x.f5, .int .i64 x.f6, .slice Ap x.f7.length cpp] 29)
  have hb := below_alloc (Below.refl W.heap.size W) (.cells #[.int .u64 x.f0, .int .u64 x.f1, .int .i64 x.f2, .int .i64 x.f3, .int .u64 x.f4, .bool x.f5, .int .i64 x.f6, .slice Ap x.f7.length cpp] 29)
  have hk := blk_below hc hb
  obtain ⟨g2, hg2⟩ : ∃ g, g = W.heap.size := ⟨_, rfl⟩
  show Calls Try.prog 26 #[.agg #[.int .u64 x.f0, .int .u64 x.f1, .int .i64 x.f2, .int .i64 x.f3, .int .u64 x.f4, .bool x.f5, .int .i64 x.f6, .slice Ap x.f7.length cpp], .pointer (some ⟨gb, 0, none⟩)] W _
  clear hc
  obtain ⟨rb, hrb⟩ : ∃ b, b = inB n x := ⟨_, rfl⟩
  rw [← hrb]
  unfold inB at hrb
  obtain ⟨F, hF⟩ : ∃ F, F = frI x.f3 := ⟨_, rfl⟩
  rw [← hF] at hrb
  have HRB := Aside0.mk hrb
  clear hrb
  have HFC : Aside0 (∀ W, Calls Try.prog 14 #[.int .i64 x.f3] W fun e w' => e = .returned (.int .i64 F) ∧ Below W.heap.size W w') := ⟨fun W => by rw [hF]; exact frames_calls x.f3 W⟩
  clear hF
  go_enter Try.func26, Try.ntmps26
  go_upto_region 1 with fail
  generalize W.alloc (.cells #[.int .u64 x.f0, .int .u64 x.f1, .int .i64 x.f2, .int .i64 x.f3, .int .u64 x.f4, .bool x.f5, .int .i64 x.f6, .slice Ap x.f7.length cpp] 29) = W1 at hz hb hk ⊢
  rw [← hg2] at hz ⊢
  have HZ := Aside0.mk hz
  have HB := Aside0.mk hb
  have HK := Aside0.mk hk
  have HB1 := Aside0.mk (Below.refl W1.heap.size W1)
  have B0 := Aside0.mk (below_drew1 (Below.refl W1.heap.size W1))
  clear hz hb hg2 hk
  cases h1 : decide (x.f1 ≤ n) with
  | false =>
    have HE : Aside0 (rb = false) := ⟨by rw [HRB.out, h1, Bool.false_and]⟩
    refine start_ (n := 16) (S := fun w' => True) (ds := []) #[false, false, false, false, false, false, false, false, false, false, false, false, false, false, false, false] (by kernel_rfl) rfl rfl trivial (fun hHeld => ?_)
    refine with_tabW fr0.tab1 fr0.bits1 (fun HT_ HW_ => ?_)
    generalize W1.drew = wz at B0 hHeld ⊢
    refine inv_at [0, 1, 2, 3, 4, 5, 6, 7, 8, 9, 10, 11, 12, 13, 14, 15] (fun a0_ b a w' => a = putSel a0_ b [(0, 4, .int .u64 n), (1, 5, .pointer (some ⟨g2, 1, none⟩)), (2, 6, .int .u64 x.f1), (3, 7, .bool false), (4, 8, .bool false), (5, 9, undef), (6, 10, undef), (7, 11, undef), (8, 12, undef), (9, 13, undef), (10, 14, undef), (11, 15, undef), (12, 16, undef), (13, 17, undef), (14, 18, .bool false), (15, 3, .bool false)] ∧ (Below W1.heap.size W1 w')) HT_.out HW_.out (by kernel_rfl) (by kernel_rfl) ?_ ?_ ?_
    · exact ⟨by simp only [putSel, Bool.false_eq_true, if_false], B0.out⟩
    · skip
      clear B0
      refine steps_cons ?_ ?_
      · rintro b a w' ⟨ha, Q_B0⟩ hb_ hon hoff
        refine ⟨_, rfl, fun K hK => ?_⟩
        have e1 : a.tmps[1]? = some (.pointer (some ⟨gb, 0, none⟩)) := by rw [ha]; exact (putSel_off rfl).trans rfl
        replace ha := Aside0.mk ha
        have B0 := Aside0.mk Q_B0
        have c0_ := blk_cell (blk_below HK.out B0.out) 0
        refine value_ (w1 := w') (v := .int .u64 n) (by rfl) rfl ?_ ?_
        · go_simp
          (try simp only [i64_w])
          try rfl
        refine hK.out _ _ ⟨(by rw [ha.out]; exact putSel_upk 0 hb_ rfl rfl rfl), Q_B0⟩
      refine steps_cons ?_ ?_
      · rintro b a w' ⟨ha, Q_B0⟩ hb_ hon hoff
        refine ⟨_, rfl, fun K hK => ?_⟩
        have e2 : a.tmps[2]? = some (.pointer (some ⟨g2, 0, none⟩)) := by rw [ha]; exact (putSel_off rfl).trans rfl
        replace ha := Aside0.mk ha
        have B0 := Aside0.mk Q_B0
        refine value_ (w1 := w') (v := .pointer (some ⟨g2, 1, none⟩)) (by rfl) rfl ?_ ?_
        · go_simp
          (try simp only [i64_w])
          try rfl
        refine hK.out _ _ ⟨(by rw [ha.out]; exact putSel_upk 1 hb_ rfl rfl rfl), Q_B0⟩
      refine steps_cons ?_ ?_
      · rintro b a w' ⟨ha, Q_B0⟩ hb_ hon hoff
        refine ⟨_, rfl, fun K hK => ?_⟩
        have e5 : a.tmps[5]? = some (.pointer (some ⟨g2, 1, none⟩)) := by rw [ha]; exact putSel_on (e := (1, 5, .pointer (some ⟨g2, 1, none⟩))) 1 rfl rfl (hon 1 (by kernel_rfl)) rfl
        replace ha := Aside0.mk ha
        have B0 := Aside0.mk Q_B0
        have c0_ := blk_cell (blk_below HZ.out B0.out) 1
        refine value_ (w1 := w') (v := .int .u64 x.f1) (by rfl) rfl ?_ ?_
        · go_simp
          (try simp only [i64_w])
          try rfl
        refine hK.out _ _ ⟨(by rw [ha.out]; exact putSel_upk 2 hb_ rfl rfl rfl), Q_B0⟩
      refine steps_cons ?_ ?_
      · rintro b a w' ⟨ha, Q_B0⟩ hb_ hon hoff
        refine ⟨_, rfl, fun K hK => ?_⟩
        have e4 : a.tmps[4]? = some (.int .u64 n) := by rw [ha]; exact putSel_on (e := (0, 4, .int .u64 n)) 0 rfl rfl (hon 0 (by kernel_rfl)) rfl
        have e6 : a.tmps[6]? = some (.int .u64 x.f1) := by rw [ha]; exact putSel_on (e := (2, 6, .int .u64 x.f1)) 2 rfl rfl (hon 2 (by kernel_rfl)) rfl
        replace ha := Aside0.mk ha
        have B0 := Aside0.mk Q_B0
        refine value_ (w1 := w') (v := .bool false) (by rfl) rfl ?_ ?_
        · go_simp
          (try simp only [i64_w])
          try rfl
        refine hK.out _ _ ⟨(by rw [ha.out]; exact putSel_upk 3 hb_ rfl rfl rfl), Q_B0⟩
      refine steps_cons ?_ ?_
      · rintro b a w' ⟨ha, Q_B0⟩ hb_ hon hoff
        refine ⟨_, rfl, fun K hK => ?_⟩
        have e7 : a.tmps[7]? = some (.bool false) := by rw [ha]; exact putSel_on (e := (3, 7, .bool false)) 3 rfl rfl (hon 3 (by kernel_rfl)) rfl
        replace ha := Aside0.mk ha
        have B0 := Aside0.mk Q_B0
        refine value_ (w1 := w') (v := .bool false) (by rfl) rfl ?_ ?_
        · go_simp
          (try simp only [i64_w])
          try rfl
        refine hK.out _ _ ⟨(by rw [ha.out]; exact putSel_upk 4 hb_ rfl rfl rfl), Q_B0⟩
      refine steps_cons ?_ ?_
      · rintro b a w' ⟨ha, Q_B0⟩ hb_ hon hoff
        refine ⟨_, rfl, fun K hK => ?_⟩
        have e8 : a.tmps[8]? = some (.bool false) := by rw [ha]; exact putSel_on (e := (4, 8, .bool false)) 4 rfl rfl (hon 4 (by kernel_rfl)) rfl
        replace ha := Aside0.mk ha
        have B0 := Aside0.mk Q_B0
        refine off_ (wanted_off rfl rfl rfl (e8.trans (by first | rfl | (simp [*]; done)))) ?_
        refine hK.out _ _ ⟨(by rw [ha.out]; exact putSel_upk 5 hb_ rfl rfl rfl), Q_B0⟩
      refine steps_cons ?_ ?_
      · rintro b a w' ⟨ha, Q_B0⟩ hb_ hon hoff
        refine ⟨_, rfl, fun K hK => ?_⟩
        have e8 : a.tmps[8]? = some (.bool false) := by rw [ha]; exact putSel_on (e := (4, 8, .bool false)) 4 rfl rfl (hon 4 (by kernel_rfl)) rfl
        replace ha := Aside0.mk ha
        have B0 := Aside0.mk Q_B0
        refine off_ (wanted_off rfl rfl rfl (e8.trans (by first | rfl | (simp [*]; done)))) ?_
        refine hK.out _ _ ⟨(by rw [ha.out]; exact putSel_upk 6 hb_ rfl rfl rfl), Q_B0⟩
      refine steps_cons ?_ ?_
      · rintro b a w' ⟨ha, Q_B0⟩ hb_ hon hoff
        refine ⟨_, rfl, fun K hK => ?_⟩
        have e8 : a.tmps[8]? = some (.bool false) := by rw [ha]; exact putSel_on (e := (4, 8, .bool false)) 4 rfl rfl (hon 4 (by kernel_rfl)) rfl
        replace ha := Aside0.mk ha
        have B0 := Aside0.mk Q_B0
        refine off_ (wanted_off rfl rfl rfl (e8.trans (by first | rfl | (simp [*]; done)))) ?_
        refine hK.out _ _ ⟨(by rw [ha.out]; exact putSel_upk 7 hb_ rfl rfl rfl), Q_B0⟩
      refine steps_cons ?_ ?_
      · rintro b a w' ⟨ha, Q_B0⟩ hb_ hon hoff
        refine ⟨_, rfl, fun K hK => ?_⟩
        have e8 : a.tmps[8]? = some (.bool false) := by rw [ha]; exact putSel_on (e := (4, 8, .bool false)) 4 rfl rfl (hon 4 (by kernel_rfl)) rfl
        replace ha := Aside0.mk ha
        have B0 := Aside0.mk Q_B0
        refine off_ (wanted_off rfl rfl rfl (e8.trans (by first | rfl | (simp [*]; done)))) ?_
        refine hK.out _ _ ⟨(by rw [ha.out]; exact putSel_upk 8 hb_ rfl rfl rfl), Q_B0⟩
      refine steps_cons ?_ ?_
      · rintro b a w' ⟨ha, Q_B0⟩ hb_ hon hoff
        refine ⟨_, rfl, fun K hK => ?_⟩
        have e8 : a.tmps[8]? = some (.bool false) := by rw [ha]; exact putSel_on (e := (4, 8, .bool false)) 4 rfl rfl (hon 4 (by kernel_rfl)) rfl
        replace ha := Aside0.mk ha
        have B0 := Aside0.mk Q_B0
        refine off_ (wanted_off rfl rfl rfl (e8.trans (by first | rfl | (simp [*]; done)))) ?_
        refine hK.out _ _ ⟨(by rw [ha.out]; exact putSel_upk 9 hb_ rfl rfl rfl), Q_B0⟩
      refine steps_cons ?_ ?_
      · rintro b a w' ⟨ha, Q_B0⟩ hb_ hon hoff
        refine ⟨_, rfl, fun K hK => ?_⟩
        have e8 : a.tmps[8]? = some (.bool false) := by rw [ha]; exact putSel_on (e := (4, 8, .bool false)) 4 rfl rfl (hon 4 (by kernel_rfl)) rfl
        replace ha := Aside0.mk ha
        have B0 := Aside0.mk Q_B0
        refine off_ (wanted_off rfl rfl rfl (e8.trans (by first | rfl | (simp [*]; done)))) ?_
        refine hK.out _ _ ⟨(by rw [ha.out]; exact putSel_upk 10 hb_ rfl rfl rfl), Q_B0⟩
      refine steps_cons ?_ ?_
      · rintro b a w' ⟨ha, Q_B0⟩ hb_ hon hoff
        refine ⟨_, rfl, fun K hK => ?_⟩
        have e8 : a.tmps[8]? = some (.bool false) := by rw [ha]; exact putSel_on (e := (4, 8, .bool false)) 4 rfl rfl (hon 4 (by kernel_rfl)) rfl
        replace ha := Aside0.mk ha
        have B0 := Aside0.mk Q_B0
        refine off_ (wanted_off rfl rfl rfl (e8.trans (by first | rfl | (simp [*]; done)))) ?_
        refine hK.out _ _ ⟨(by rw [ha.out]; exact putSel_upk 11 hb_ rfl rfl rfl), Q_B0⟩
      refine steps_cons ?_ ?_
      · rintro b a w' ⟨ha, Q_B0⟩ hb_ hon hoff
        refine ⟨_, rfl, fun K hK => ?_⟩
        have e8 : a.tmps[8]? = some (.bool false) := by rw [ha]; exact putSel_on (e := (4, 8, .bool false)) 4 rfl rfl (hon 4 (by kernel_rfl)) rfl
        replace ha := Aside0.mk ha
        have B0 := Aside0.mk Q_B0
        refine off_ (wanted_off rfl rfl rfl (e8.trans (by first | rfl | (simp [*]; done)))) ?_
        refine hK.out _ _ ⟨(by rw [ha.out]; exact putSel_upk 12 hb_ rfl rfl rfl), Q_B0⟩
      refine steps_cons ?_ ?_
      · rintro b a w' ⟨ha, Q_B0⟩ hb_ hon hoff
        refine ⟨_, rfl, fun K hK => ?_⟩
        have e8 : a.tmps[8]? = some (.bool false) := by rw [ha]; exact putSel_on (e := (4, 8, .bool false)) 4 rfl rfl (hon 4 (by kernel_rfl)) rfl
        replace ha := Aside0.mk ha
        have B0 := Aside0.mk Q_B0
        refine off_ (wanted_off rfl rfl rfl (e8.trans (by first | rfl | (simp [*]; done)))) ?_
        refine hK.out _ _ ⟨(by rw [ha.out]; exact putSel_upk 13 hb_ rfl rfl rfl), Q_B0⟩
      refine steps_cons ?_ ?_
      · rintro b a w' ⟨ha, Q_B0⟩ hb_ hon hoff
        refine ⟨_, rfl, fun K hK => ?_⟩
        have e8 : a.tmps[8]? = some (.bool false) := by rw [ha]; exact putSel_on (e := (4, 8, .bool false)) 4 rfl rfl (hon 4 (by kernel_rfl)) rfl
        have e17 : a.tmps[17]? = some (undef) := by rw [ha]; exact putSel_on (e := (13, 17, undef)) 13 rfl rfl (hon 13 (by kernel_rfl)) rfl
        replace ha := Aside0.mk ha
        have B0 := Aside0.mk Q_B0
        refine value_ (w1 := w') (v := .bool false) (by rfl) rfl ?_ ?_
        · go_simp
          (try simp only [i64_w])
          try rfl
        refine hK.out _ _ ⟨(by rw [ha.out]; exact putSel_upk 14 hb_ rfl rfl rfl), Q_B0⟩
      refine steps_cons ?_ ?_
      · rintro b a w' ⟨ha, Q_B0⟩ hb_ hon hoff
        refine ⟨_, rfl, fun K hK => ?_⟩
        have e18 : a.tmps[18]? = some (.bool false) := by rw [ha]; exact putSel_on (e := (14, 18, .bool false)) 14 rfl rfl (hon 14 (by kernel_rfl)) rfl
        replace ha := Aside0.mk ha
        have B0 := Aside0.mk Q_B0
        refine value_ (w1 := w') (v := .bool false) (by rfl) rfl ?_ ?_
        · go_simp
          (try simp only [i64_w])
          try rfl
        refine hK.out _ _ ⟨(by rw [ha.out]; exact putSel_upk 15 hb_ rfl rfl rfl), Q_B0⟩
      exact steps_nil
    rintro b a w9 hall ⟨ha, Q_B0⟩
    clear B0
    have hb0_ := hall 0 (by kernel_rfl)
    have hb1_ := hall 1 (by kernel_rfl)
    have hb2_ := hall 2 (by kernel_rfl)
    have hb3_ := hall 3 (by kernel_rfl)
    have hb4_ := hall 4 (by kernel_rfl)
    have hb5_ := hall 5 (by kernel_rfl)
    have hb6_ := hall 6 (by kernel_rfl)
    have hb7_ := hall 7 (by kernel_rfl)
    have hb8_ := hall 8 (by kernel_rfl)
    have hb9_ := hall 9 (by kernel_rfl)
    have hb10_ := hall 10 (by kernel_rfl)
    have hb11_ := hall 11 (by kernel_rfl)
    have hb12_ := hall 12 (by kernel_rfl)
    have hb13_ := hall 13 (by kernel_rfl)
    have hb14_ := hall 14 (by kernel_rfl)
    have hb15_ := hall 15 (by kernel_rfl)
    subst ha
    simp only [putSel, hb0_, hb1_, hb2_, hb3_, hb4_, hb5_, hb6_, hb7_, hb8_, hb9_, hb10_, hb11_, hb12_, hb13_, hb14_, hb15_, if_true, Act.put, List.setIfInBounds_toArray, List.set_cons_zero, List.set_cons_succ]
    have B0 := Aside0.mk Q_B0
    clear Q_B0
    clear hall hb0_ hb1_ hb2_ hb3_ hb4_ hb5_ hb6_ hb7_ hb8_ hb9_ hb10_ hb11_ hb12_ hb13_ hb14_ hb15_
    go_wp2_with fail
    go_ret
    exact ⟨by rw [HE.out]; rfl, below_then HB.out HB.out.size B0.out⟩
  | true =>
    obtain ⟨bq, hbq⟩ : ∃ b, b = decide (IntKind.u64.wrap (n - x.f1) < IntKind.u64.wrap F) := ⟨_, rfl⟩
    have e1 := hbq.symm
    have HE : Aside0 (rb = bq) := ⟨by rw [HRB.out, h1, Bool.true_and, hbq]⟩
    clear hbq
    refine start_ (n := 16) (S := fun w' => True) (ds := []) #[false, false, false, false, false, false, false, false, false, false, false, false, false, false, false, false] (by kernel_rfl) rfl rfl trivial (fun hHeld => ?_)
    refine with_tabW fr1.tab1 fr1.bits1 (fun HT_ HW_ => ?_)
    generalize W1.drew = wz at B0 hHeld ⊢
    refine inv_at [0, 1, 2, 3, 4, 5, 6, 7, 8, 9, 10, 11, 12, 13, 14, 15] (fun a0_ b a w' => a = putSel a0_ b [(0, 4, .int .u64 n), (1, 5, .pointer (some ⟨g2, 1, none⟩)), (2, 6, .int .u64 x.f1), (3, 7, .bool true), (4, 8, .bool true), (5, 9, .int .u64 n), (6, 10, .pointer (some ⟨g2, 1, none⟩)), (7, 11, .int .u64 x.f1), (8, 12, .int .u64 (IntKind.u64.wrap (n - x.f1))), (9, 13, .pointer (some ⟨g2, 3, none⟩)), (10, 14, .int .i64 x.f3), (11, 15, .int .i64 F), (12, 16, .int .u64 (IntKind.u64.wrap F)), (13, 17, .bool bq), (14, 18, .bool bq), (15, 3, .bool bq)] ∧ (Below W1.heap.size W1 w')) HT_.out HW_.out (by kernel_rfl) (by kernel_rfl) ?_ ?_ ?_
    · exact ⟨by simp only [putSel, Bool.false_eq_true, if_false], B0.out⟩
    · skip
      clear B0
      refine steps_cons ?_ ?_
      · rintro b a w' ⟨ha, Q_B0⟩ hb_ hon hoff
        refine ⟨_, rfl, fun K hK => ?_⟩
        have e1 : a.tmps[1]? = some (.pointer (some ⟨gb, 0, none⟩)) := by rw [ha]; exact (putSel_off rfl).trans rfl
        replace ha := Aside0.mk ha
        have B0 := Aside0.mk Q_B0
        have c0_ := blk_cell (blk_below HK.out B0.out) 0
        refine value_ (w1 := w') (v := .int .u64 n) (by rfl) rfl ?_ ?_
        · go_simp
          (try simp only [i64_w])
          try rfl
        refine hK.out _ _ ⟨(by rw [ha.out]; exact putSel_upk 0 hb_ rfl rfl rfl), Q_B0⟩
      refine steps_cons ?_ ?_
      · rintro b a w' ⟨ha, Q_B0⟩ hb_ hon hoff
        refine ⟨_, rfl, fun K hK => ?_⟩
        have e2 : a.tmps[2]? = some (.pointer (some ⟨g2, 0, none⟩)) := by rw [ha]; exact (putSel_off rfl).trans rfl
        replace ha := Aside0.mk ha
        have B0 := Aside0.mk Q_B0
        refine value_ (w1 := w') (v := .pointer (some ⟨g2, 1, none⟩)) (by rfl) rfl ?_ ?_
        · go_simp
          (try simp only [i64_w])
          try rfl
        refine hK.out _ _ ⟨(by rw [ha.out]; exact putSel_upk 1 hb_ rfl rfl rfl), Q_B0⟩
      refine steps_cons ?_ ?_
      · rintro b a w' ⟨ha, Q_B0⟩ hb_ hon hoff
        refine ⟨_, rfl, fun K hK => ?_⟩
        have e5 : a.tmps[5]? = some (.pointer (some ⟨g2, 1, none⟩)) := by rw [ha]; exact putSel_on (e := (1, 5, .pointer (some ⟨g2, 1, none⟩))) 1 rfl rfl (hon 1 (by kernel_rfl)) rfl
        replace ha := Aside0.mk ha
        have B0 := Aside0.mk Q_B0
        have c0_ := blk_cell (blk_below HZ.out B0.out) 1
        refine value_ (w1 := w') (v := .int .u64 x.f1) (by rfl) rfl ?_ ?_
        · go_simp
          (try simp only [i64_w])
          try rfl
        refine hK.out _ _ ⟨(by rw [ha.out]; exact putSel_upk 2 hb_ rfl rfl rfl), Q_B0⟩
      refine steps_cons ?_ ?_
      · rintro b a w' ⟨ha, Q_B0⟩ hb_ hon hoff
        refine ⟨_, rfl, fun K hK => ?_⟩
        have e4 : a.tmps[4]? = some (.int .u64 n) := by rw [ha]; exact putSel_on (e := (0, 4, .int .u64 n)) 0 rfl rfl (hon 0 (by kernel_rfl)) rfl
        have e6 : a.tmps[6]? = some (.int .u64 x.f1) := by rw [ha]; exact putSel_on (e := (2, 6, .int .u64 x.f1)) 2 rfl rfl (hon 2 (by kernel_rfl)) rfl
        replace ha := Aside0.mk ha
        have B0 := Aside0.mk Q_B0
        refine value_ (w1 := w') (v := .bool true) (by rfl) rfl ?_ ?_
        · go_simp
          (try simp only [i64_w])
          try rfl
        refine hK.out _ _ ⟨(by rw [ha.out]; exact putSel_upk 3 hb_ rfl rfl rfl), Q_B0⟩
      refine steps_cons ?_ ?_
      · rintro b a w' ⟨ha, Q_B0⟩ hb_ hon hoff
        refine ⟨_, rfl, fun K hK => ?_⟩
        have e7 : a.tmps[7]? = some (.bool true) := by rw [ha]; exact putSel_on (e := (3, 7, .bool true)) 3 rfl rfl (hon 3 (by kernel_rfl)) rfl
        replace ha := Aside0.mk ha
        have B0 := Aside0.mk Q_B0
        refine value_ (w1 := w') (v := .bool true) (by rfl) rfl ?_ ?_
        · go_simp
          (try simp only [i64_w])
          try rfl
        refine hK.out _ _ ⟨(by rw [ha.out]; exact putSel_upk 4 hb_ rfl rfl rfl), Q_B0⟩
      refine steps_cons ?_ ?_
      · rintro b a w' ⟨ha, Q_B0⟩ hb_ hon hoff
        refine ⟨_, rfl, fun K hK => ?_⟩
        have e1 : a.tmps[1]? = some (.pointer (some ⟨gb, 0, none⟩)) := by rw [ha]; exact (putSel_off rfl).trans rfl
        have e8 : a.tmps[8]? = some (.bool true) := by rw [ha]; exact putSel_on (e := (4, 8, .bool true)) 4 rfl rfl (hon 4 (by kernel_rfl)) rfl
        replace ha := Aside0.mk ha
        have B0 := Aside0.mk Q_B0
        have c0_ := blk_cell (blk_below HK.out B0.out) 0
        refine value_ (w1 := w') (v := .int .u64 n) (wanted_on rfl rfl rfl (e8.trans (by first | rfl | (simp [*]; done)))) rfl ?_ ?_
        · go_simp
          (try simp only [i64_w])
          try rfl
        refine hK.out _ _ ⟨(by rw [ha.out]; exact putSel_upk 5 hb_ rfl rfl rfl), Q_B0⟩
      refine steps_cons ?_ ?_
      · rintro b a w' ⟨ha, Q_B0⟩ hb_ hon hoff
        refine ⟨_, rfl, fun K hK => ?_⟩
        have e2 : a.tmps[2]? = some (.pointer (some ⟨g2, 0, none⟩)) := by rw [ha]; exact (putSel_off rfl).trans rfl
        have e8 : a.tmps[8]? = some (.bool true) := by rw [ha]; exact putSel_on (e := (4, 8, .bool true)) 4 rfl rfl (hon 4 (by kernel_rfl)) rfl
        replace ha := Aside0.mk ha
        have B0 := Aside0.mk Q_B0
        refine value_ (w1 := w') (v := .pointer (some ⟨g2, 1, none⟩)) (wanted_on rfl rfl rfl (e8.trans (by first | rfl | (simp [*]; done)))) rfl ?_ ?_
        · go_simp
          (try simp only [i64_w])
          try rfl
        refine hK.out _ _ ⟨(by rw [ha.out]; exact putSel_upk 6 hb_ rfl rfl rfl), Q_B0⟩
      refine steps_cons ?_ ?_
      · rintro b a w' ⟨ha, Q_B0⟩ hb_ hon hoff
        refine ⟨_, rfl, fun K hK => ?_⟩
        have e10 : a.tmps[10]? = some (.pointer (some ⟨g2, 1, none⟩)) := by rw [ha]; exact putSel_on (e := (6, 10, .pointer (some ⟨g2, 1, none⟩))) 6 rfl rfl (hon 6 (by kernel_rfl)) rfl
        have e8 : a.tmps[8]? = some (.bool true) := by rw [ha]; exact putSel_on (e := (4, 8, .bool true)) 4 rfl rfl (hon 4 (by kernel_rfl)) rfl
        replace ha := Aside0.mk ha
        have B0 := Aside0.mk Q_B0
        have c0_ := blk_cell (blk_below HZ.out B0.out) 1
        refine value_ (w1 := w') (v := .int .u64 x.f1) (wanted_on rfl rfl rfl (e8.trans (by first | rfl | (simp [*]; done)))) rfl ?_ ?_
        · go_simp
          (try simp only [i64_w])
          try rfl
        refine hK.out _ _ ⟨(by rw [ha.out]; exact putSel_upk 7 hb_ rfl rfl rfl), Q_B0⟩
      refine steps_cons ?_ ?_
      · rintro b a w' ⟨ha, Q_B0⟩ hb_ hon hoff
        refine ⟨_, rfl, fun K hK => ?_⟩
        have e9 : a.tmps[9]? = some (.int .u64 n) := by rw [ha]; exact putSel_on (e := (5, 9, .int .u64 n)) 5 rfl rfl (hon 5 (by kernel_rfl)) rfl
        have e11 : a.tmps[11]? = some (.int .u64 x.f1) := by rw [ha]; exact putSel_on (e := (7, 11, .int .u64 x.f1)) 7 rfl rfl (hon 7 (by kernel_rfl)) rfl
        have e8 : a.tmps[8]? = some (.bool true) := by rw [ha]; exact putSel_on (e := (4, 8, .bool true)) 4 rfl rfl (hon 4 (by kernel_rfl)) rfl
        replace ha := Aside0.mk ha
        have B0 := Aside0.mk Q_B0
        refine value_ (w1 := w') (v := .int .u64 (IntKind.u64.wrap (n - x.f1))) (wanted_on rfl rfl rfl (e8.trans (by first | rfl | (simp [*]; done)))) rfl ?_ ?_
        · go_simp
          (try simp only [i64_w])
          try rfl
        refine hK.out _ _ ⟨(by rw [ha.out]; exact putSel_upk 8 hb_ rfl rfl rfl), Q_B0⟩
      refine steps_cons ?_ ?_
      · rintro b a w' ⟨ha, Q_B0⟩ hb_ hon hoff
        refine ⟨_, rfl, fun K hK => ?_⟩
        have e2 : a.tmps[2]? = some (.pointer (some ⟨g2, 0, none⟩)) := by rw [ha]; exact (putSel_off rfl).trans rfl
        have e8 : a.tmps[8]? = some (.bool true) := by rw [ha]; exact putSel_on (e := (4, 8, .bool true)) 4 rfl rfl (hon 4 (by kernel_rfl)) rfl
        replace ha := Aside0.mk ha
        have B0 := Aside0.mk Q_B0
        refine value_ (w1 := w') (v := .pointer (some ⟨g2, 3, none⟩)) (wanted_on rfl rfl rfl (e8.trans (by first | rfl | (simp [*]; done)))) rfl ?_ ?_
        · go_simp
          (try simp only [i64_w])
          try rfl
        refine hK.out _ _ ⟨(by rw [ha.out]; exact putSel_upk 9 hb_ rfl rfl rfl), Q_B0⟩
      refine steps_cons ?_ ?_
      · rintro b a w' ⟨ha, Q_B0⟩ hb_ hon hoff
        refine ⟨_, rfl, fun K hK => ?_⟩
        have e13 : a.tmps[13]? = some (.pointer (some ⟨g2, 3, none⟩)) := by rw [ha]; exact putSel_on (e := (9, 13, .pointer (some ⟨g2, 3, none⟩))) 9 rfl rfl (hon 9 (by kernel_rfl)) rfl
        have e8 : a.tmps[8]? = some (.bool true) := by rw [ha]; exact putSel_on (e := (4, 8, .bool true)) 4 rfl rfl (hon 4 (by kernel_rfl)) rfl
        replace ha := Aside0.mk ha
        have B0 := Aside0.mk Q_B0
        have c0_ := blk_cell (blk_below HZ.out B0.out) 3
        refine value_ (w1 := w') (v := .int .i64 x.f3) (wanted_on rfl rfl rfl (e8.trans (by first | rfl | (simp [*]; done)))) rfl ?_ ?_
        · go_simp
          (try simp only [i64_w])
          try rfl
        refine hK.out _ _ ⟨(by rw [ha.out]; exact putSel_upk 10 hb_ rfl rfl rfl), Q_B0⟩
      refine steps_cons ?_ ?_
      · rintro b a w' ⟨ha, Q_B0⟩ hb_ hon hoff
        refine ⟨_, rfl, fun K hK => ?_⟩
        have e14 : a.tmps[14]? = some (.int .i64 x.f3) := by rw [ha]; exact putSel_on (e := (10, 14, .int .i64 x.f3)) 10 rfl rfl (hon 10 (by kernel_rfl)) rfl
        have e8 : a.tmps[8]? = some (.bool true) := by rw [ha]; exact putSel_on (e := (4, 8, .bool true)) 4 rfl rfl (hon 4 (by kernel_rfl)) rfl
        replace ha := Aside0.mk ha
        have B0 := Aside0.mk Q_B0
        refine goes_ Try.func14 (by kernel_rfl) rfl #[.int .i64 x.f3] (wanted_on rfl rfl rfl (e8.trans rfl)) rfl rfl (by first | (simp only [List.map_toArray, List.map_cons, List.map_nil, Act.eval, Array.getD_eq_getD_getElem?, Option.getD_some, e14, e8]; done) | (simp only [List.map_toArray, List.map_cons, List.map_nil, Act.eval, Array.getD_eq_getD_getElem?, Option.getD_some, e14, e8]; rfl)) ?_
        with_reducible refine (HFC.out _).mono ?_
        rintro e w2 ⟨rfl, hb⟩
        refine ⟨_, rfl, ?_⟩
        refine hK.out _ _ ⟨(by rw [ha.out]; exact putSel_upk 11 hb_ rfl rfl rfl), below_then B0.out B0.out.size hb⟩
      refine steps_cons ?_ ?_
      · rintro b a w' ⟨ha, Q_B0⟩ hb_ hon hoff
        refine ⟨_, rfl, fun K hK => ?_⟩
        have e15 : a.tmps[15]? = some (.int .i64 F) := by rw [ha]; exact putSel_on (e := (11, 15, .int .i64 F)) 11 rfl rfl (hon 11 (by kernel_rfl)) rfl
        have e8 : a.tmps[8]? = some (.bool true) := by rw [ha]; exact putSel_on (e := (4, 8, .bool true)) 4 rfl rfl (hon 4 (by kernel_rfl)) rfl
        replace ha := Aside0.mk ha
        have B0 := Aside0.mk Q_B0
        refine value_ (w1 := w') (v := .int .u64 (IntKind.u64.wrap F)) (wanted_on rfl rfl rfl (e8.trans (by first | rfl | (simp [*]; done)))) rfl ?_ ?_
        · go_simp
          (try simp only [i64_w])
          try rfl
        refine hK.out _ _ ⟨(by rw [ha.out]; exact putSel_upk 12 hb_ rfl rfl rfl), Q_B0⟩
      refine steps_cons ?_ ?_
      · rintro b a w' ⟨ha, Q_B0⟩ hb_ hon hoff
        refine ⟨_, rfl, fun K hK => ?_⟩
        have e12 : a.tmps[12]? = some (.int .u64 (IntKind.u64.wrap (n - x.f1))) := by rw [ha]; exact putSel_on (e := (8, 12, .int .u64 (IntKind.u64.wrap (n - x.f1)))) 8 rfl rfl (hon 8 (by kernel_rfl)) rfl
        have e16 : a.tmps[16]? = some (.int .u64 (IntKind.u64.wrap F)) := by rw [ha]; exact putSel_on (e := (12, 16, .int .u64 (IntKind.u64.wrap F))) 12 rfl rfl (hon 12 (by kernel_rfl)) rfl
        have e8 : a.tmps[8]? = some (.bool true) := by rw [ha]; exact putSel_on (e := (4, 8, .bool true)) 4 rfl rfl (hon 4 (by kernel_rfl)) rfl
        replace ha := Aside0.mk ha
        have B0 := Aside0.mk Q_B0
        refine value_ (w1 := w') (v := .bool bq) (wanted_on rfl rfl rfl (e8.trans (by first | rfl | (simp [*]; done)))) rfl ?_ ?_
        · go_simp
          (try simp only [i64_w])
          try rfl
        refine hK.out _ _ ⟨(by rw [ha.out]; exact putSel_upk 13 hb_ rfl rfl rfl), Q_B0⟩
      refine steps_cons ?_ ?_
      · rintro b a w' ⟨ha, Q_B0⟩ hb_ hon hoff
        refine ⟨_, rfl, fun K hK => ?_⟩
        have e8 : a.tmps[8]? = some (.bool true) := by rw [ha]; exact putSel_on (e := (4, 8, .bool true)) 4 rfl rfl (hon 4 (by kernel_rfl)) rfl
        have e17 : a.tmps[17]? = some (.bool bq) := by rw [ha]; exact putSel_on (e := (13, 17, .bool bq)) 13 rfl rfl (hon 13 (by kernel_rfl)) rfl
        replace ha := Aside0.mk ha
        have B0 := Aside0.mk Q_B0
        refine value_ (w1 := w') (v := .bool bq) (by rfl) rfl ?_ ?_
        · go_simp
          (try simp only [i64_w])
          try rfl
        refine hK.out _ _ ⟨(by rw [ha.out]; exact putSel_upk 14 hb_ rfl rfl rfl), Q_B0⟩
      refine steps_cons ?_ ?_
      · rintro b a w' ⟨ha, Q_B0⟩ hb_ hon hoff
        refine ⟨_, rfl, fun K hK => ?_⟩
        have e18 : a.tmps[18]? = some (.bool bq) := by rw [ha]; exact putSel_on (e := (14, 18, .bool bq)) 14 rfl rfl (hon 14 (by kernel_rfl)) rfl
        replace ha := Aside0.mk ha
        have B0 := Aside0.mk Q_B0
        refine value_ (w1 := w') (v := .bool bq) (by rfl) rfl ?_ ?_
        · go_simp
          (try simp only [i64_w])
          try rfl
        refine hK.out _ _ ⟨(by rw [ha.out]; exact putSel_upk 15 hb_ rfl rfl rfl), Q_B0⟩
      exact steps_nil
    rintro b a w9 hall ⟨ha, Q_B0⟩
    clear B0
    have hb0_ := hall 0 (by kernel_rfl)
    have hb1_ := hall 1 (by kernel_rfl)
    have hb2_ := hall 2 (by kernel_rfl)
    have hb3_ := hall 3 (by kernel_rfl)
    have hb4_ := hall 4 (by kernel_rfl)
    have hb5_ := hall 5 (by kernel_rfl)
    have hb6_ := hall 6 (by kernel_rfl)
    have hb7_ := hall 7 (by kernel_rfl)
    have hb8_ := hall 8 (by kernel_rfl)
    have hb9_ := hall 9 (by kernel_rfl)
    have hb10_ := hall 10 (by kernel_rfl)
    have hb11_ := hall 11 (by kernel_rfl)
    have hb12_ := hall 12 (by kernel_rfl)
    have hb13_ := hall 13 (by kernel_rfl)
    have hb14_ := hall 14 (by kernel_rfl)
    have hb15_ := hall 15 (by kernel_rfl)
    subst ha
    simp only [putSel, hb0_, hb1_, hb2_, hb3_, hb4_, hb5_, hb6_, hb7_, hb8_, hb9_, hb10_, hb11_, hb12_, hb13_, hb14_, hb15_, if_true, Act.put, List.setIfInBounds_toArray, List.set_cons_zero, List.set_cons_succ]
    have B0 := Aside0.mk Q_B0
    clear Q_B0
    clear hall hb0_ hb1_ hb2_ hb3_ hb4_ hb5_ hb6_ hb7_ hb8_ hb9_ hb10_ hb11_ hb12_ hb13_ hb14_ hb15_
    go_wp2_with fail
    go_ret
    exact ⟨by rw [HE.out]; rfl, below_then HB.out HB.out.size B0.out⟩
end Go.Proofs.Ytaepbgieahedjaa.QS
