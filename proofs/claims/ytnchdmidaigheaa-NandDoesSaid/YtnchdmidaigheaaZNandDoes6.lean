/- Parts of the proof of the statement NandDoes, laid together (7 of 7). -/
import Derived.Deep.DeepCutAuto
import Derived.Deep.CutBlock
import Derived.OpenShut
import Derived.SizedLaws
import Derived.ChangeSlices
import Derived.Test.YtnchdmidaigheaaRows
import Derived.WalkKit
import Derived.ProofKit
import Derived.ShutString
import Derived.ChangeOld
import Derived.Below
import Derived.Test.YtnchdmidaigheaaZNandDoes5
namespace Go.Proofs.Ytnchdmidaigheaa.Hp
open Go.RowKit Go.Proofs.YtnchdmidaigheaaW.PrintWords Go.Proofs.YtnchdmidaigheaaW.PrintLast Go.Proofs.YtnchdmidaigheaaW.PrintMore
attribute [local go_sem] max2_int min2_int max_two min_two max_three min_three max_four min_four   -- for this text's walks alone
set_option linter.unusedVariables false
set_option linter.unusedSimpArgs false
mutual
def wagtaillaw14_Plan_Light.j0 : Nat → Bool → Int → Int → Int → List Int → List (S65) → Option (Bool)
  | 0, _, _, _, _, _, _ => none
  | k + 1, x13, x102000, x102001, x102002, x102003, x102004 => if x13 = true then (some false) else (wagtaillaw14_Plan_Light.l0 k 0 x102000 x102001 x102002 x102003 x102004)
def wagtaillaw14_Plan_Light.l0 : Nat → Int → Int → Int → Int → List Int → List (S65) → Option (Bool)
  | 0, _, _, _, _, _, _ => none
  | k + 1, x3, x102000, x102001, x102002, x102003, x102004 => if x3 < (x102004.length : Int) then (if 0 ≤ x3 then (if (((rd_T65 x102004 x3).f2).length : Int) > 300 then (some false) else (wagtaillaw14_Plan_Light.l0 k (wrap64 (x3 + 1)) x102000 x102001 x102002 x102003 x102004)) else (none)) else (some true)
end
def wagtaillaw14_Plan_Light.f (k : Nat) (a0_0 : Int) (a0_1 : Int) (a0_2 : Int) (l0_3 : List Int) (l0_4 : List (S65)) : Option (Bool) := if (l0_3.length : Int) > 60 then (wagtaillaw14_Plan_Light.j0 k true a0_0 a0_1 a0_2 l0_3 l0_4) else (wagtaillaw14_Plan_Light.j0 k (decide ((l0_4.length : Int) > 40)) a0_0 a0_1 a0_2 l0_3 l0_4)
theorem wagtaillaw14_Plan_Light.mono_l : ∀ k, (∀ y0 y1 y2 y3 y4 y5, LeO (wagtaillaw14_Plan_Light.j0 k y0 y1 y2 y3 y4 y5) (wagtaillaw14_Plan_Light.j0 (k + 1) y0 y1 y2 y3 y4 y5)) ∧ (∀ y0 y1 y2 y3 y4 y5, LeO (wagtaillaw14_Plan_Light.l0 k y0 y1 y2 y3 y4 y5) (wagtaillaw14_Plan_Light.l0 (k + 1) y0 y1 y2 y3 y4 y5))
  | 0 => ⟨fun _ _ _ _ _ _ r h => by simp [wagtaillaw14_Plan_Light.j0] at h, fun _ _ _ _ _ _ r h => by simp [wagtaillaw14_Plan_Light.l0] at h⟩
  | k + 1 => by
    obtain ⟨ih0, ih1⟩ := wagtaillaw14_Plan_Light.mono_l k
    refine ⟨?_, ?_⟩
    · intro y0 y1 y2 y3 y4 y5
      unfold wagtaillaw14_Plan_Light.j0
      repeat' first
      | (with_reducible exact ih0 _ _ _ _ _ _)
      | (with_reducible exact ih1 _ _ _ _ _ _)
      | (with_reducible exact LeO.refl _)
      | (with_reducible exact LeO.none _)
      | (with_reducible refine LeO.ite ?_ ?_)
      | (with_reducible refine LeO.bind ?_ (fun _ => ?_))
      | exact ih0 _ _ _ _ _ _
      | exact ih1 _ _ _ _ _ _
      | exact LeO.none _
      | refine LeO.ite ?_ ?_
      | refine LeO.bind ?_ (fun _ => ?_)
    · intro y0 y1 y2 y3 y4 y5
      unfold wagtaillaw14_Plan_Light.l0
      repeat' first
      | (with_reducible exact ih0 _ _ _ _ _ _)
      | (with_reducible exact ih1 _ _ _ _ _ _)
      | (with_reducible exact LeO.refl _)
      | (with_reducible exact LeO.none _)
      | (with_reducible refine LeO.ite ?_ ?_)
      | (with_reducible refine LeO.bind ?_ (fun _ => ?_))
      | exact ih0 _ _ _ _ _ _
      | exact ih1 _ _ _ _ _ _
      | exact LeO.none _
      | refine LeO.ite ?_ ?_
      | refine LeO.bind ?_ (fun _ => ?_)
theorem wagtaillaw14_Plan_Light.mono : ∀ a0 a1 a2 a3 a4 k, LeO (wagtaillaw14_Plan_Light.f k a0 a1 a2 a3 a4) (wagtaillaw14_Plan_Light.f (k + 1) a0 a1 a2 a3 a4) := by
  intro a0 a1 a2 a3 a4 k
  obtain ⟨ih0, ih1⟩ := wagtaillaw14_Plan_Light.mono_l k
  unfold wagtaillaw14_Plan_Light.f
  repeat' first
      | (with_reducible exact ih0 _ _ _ _ _ _)
      | (with_reducible exact ih1 _ _ _ _ _ _)
      | (with_reducible exact LeO.refl _)
      | (with_reducible exact LeO.none _)
      | (with_reducible refine LeO.ite ?_ ?_)
      | (with_reducible refine LeO.bind ?_ (fun _ => ?_))
      | exact ih0 _ _ _ _ _ _
      | exact ih1 _ _ _ _ _ _
      | exact LeO.none _
      | refine LeO.ite ?_ ?_
      | refine LeO.bind ?_ (fun _ => ?_)
set_option maxHeartbeats 8000000 in
set_option maxRecDepth 100000 in
theorem wagtaillaw14_Plan_Light.calls (k : Nat) (a0_0 : Int) (a0_1 : Int) (a0_2 : Int) (A0_3 : Option Addr) (c0_3 : Nat) (l0_3 : List Int) (A0_4 : Option Addr) (c0_4 : Nat) (l0_4 : List (S65)) (r : Bool) (w : World) (hr0_3 : Kd.C (Kd.int .i64) w A0_3 l0_3.length l0_3) (hc0_3 : l0_3.length ≤ c0_3) (hr0_4 : Kd.C k65 w A0_4 l0_4.length l0_4) (hc0_4 : l0_4.length ≤ c0_4) (h : wagtaillaw14_Plan_Light.f k a0_0 a0_1 a0_2 l0_3 l0_4 = some r) :
    Calls Try.prog 11 #[.agg #[.int .i64 a0_0, .int .i64 a0_1, .int .i64 a0_2, .slice A0_3 l0_3.length c0_3, .slice A0_4 l0_4.length c0_4]] w fun e w' => e = .returned (.bool r) ∧ Below w.heap.size w w' := by
  have hu27 := Try.underlying27
  have HR0_3 := Aside0.mk hr0_3
  have HC0_3 := Aside0.mk hc0_3
  clear hr0_3 hc0_3
  have HR0_4 := Aside0.mk hr0_4
  have HC0_4 := Aside0.mk hc0_4
  clear hr0_4 hc0_4
  have HB := Aside0.mk (Below.refl w.heap.size w)
  have H : (if (l0_3.length : Int) > 60 then (wagtaillaw14_Plan_Light.j0 k true a0_0 a0_1 a0_2 l0_3 l0_4) else (wagtaillaw14_Plan_Light.j0 k (decide ((l0_4.length : Int) > 40)) a0_0 a0_1 a0_2 l0_3 l0_4)) = some r := h
  clear h
  have HC2 := Aside0.mk H
  clear H
  go_enter Try.func11, Try.ntmps11
  go_upto_region 1 with (first | ((with_reducible refine gate_dst (N := 1) rfl ?_); (try (refine gate_guard (by rfl) ?_; dsimp only)); refine box_event ?hg (N := 1) ?hd (cs := #[.int .i64 a0_0, .int .i64 a0_1, .int .i64 a0_2, .slice A0_3 l0_3.length c0_3, .slice A0_4 l0_4.length c0_4]) (t := 27) ?hr ?_; (case hd => rfl); (case hg => rfl); (case hr => first | (go_simp; done) | (go_simp; rfl)); intro gb101 hg w3 hbox hb; have n0_ := Aside0.mk (below_step (by repeat (first | (with_reducible first | exact HB.out | apply below_alloc | apply pw_below_drewN | apply below_drew1) | exact HB.out)) hb); have n1_ := Aside0.mk (hbox); have n2_ := Aside0.mk ((by rw [hg]; exact (below_size (by repeat (first | (with_reducible first | exact HB.out | apply below_alloc | apply pw_below_drewN | apply below_drew1) | exact HB.out))) : w.heap.size ≤ gb101)); have n3_ := Aside0.mk ((by rw [hg]; exact (below_size (by repeat (first | (with_reducible first | exact HB.out | apply below_alloc | apply pw_below_drewN | apply below_drew1) | exact HB.out))) : w.heap.size ≤ gb101)); clear HB; have HB := n0_; have BK101 := n1_; have GW101 := n2_; have GE101 := n3_; clear n0_ n1_ n2_ n3_; clear hb hbox hg))
  (try simp only [Act.put, List.setIfInBounds_toArray, List.set_cons_zero, List.set_cons_succ])
  go_cut [13] (fun v13 wc => ∃ (kq : Nat) (x13_1 : Bool), v13 = .bool x13_1 ∧ Aside0 (wagtaillaw14_Plan_Light.j0 kq x13_1 a0_0 a0_1 a0_2 l0_3 l0_4 = some r) ∧ Aside0 (kq ≤ k) ∧ Aside0 (wc.heap[gb101]? = some (.cells #[.int .i64 a0_0, .int .i64 a0_1, .int .i64 a0_2, (.slice A0_3 l0_3.length c0_3), (.slice A0_4 l0_4.length c0_4)] 27 (0, 0))) ∧ Aside0 (Below w.heap.size w wc))
  case first =>
    have H := HC2.out
    clear HC2
    by_cases c4 : (l0_3.length : Int) > 60
    · rw [if_pos c4] at H
      have c4b0 : decide (60 < (l0_3.length : Int)) = true := decide_eq_true c4
      have c4b1 : decide (60 < l0_3.length) = true := decide_eq_true (by omega)
      clear c4
      (first | rw [c4b0] | (simp only [i64_w, i32_w]; rw [c4b0]) | skip)
      have H' := Aside0.mk H
      clear H
      have hcz5_0 : w3.cell? ⟨gb101, 0, none⟩ = some (.int .i64 a0_0) := (blk_cell BK101.out 0).trans rfl
      have hcz5_1 : w3.cell? ⟨gb101, 1, none⟩ = some (.int .i64 a0_1) := (blk_cell BK101.out 1).trans rfl
      have hcz5_2 : w3.cell? ⟨gb101, 2, none⟩ = some (.int .i64 a0_2) := (blk_cell BK101.out 2).trans rfl
      have hcz5_3 : w3.cell? ⟨gb101, 3, none⟩ = some (.slice A0_3 l0_3.length c0_3) := (blk_cell BK101.out 3).trans rfl
      have hcz5_4 : w3.cell? ⟨gb101, 4, none⟩ = some (.slice A0_4 l0_4.length c0_4) := (blk_cell BK101.out 4).trans rfl
      have hfz5_0 := blk_frozen BK101.out 0
      have hfz5_1 := blk_frozen BK101.out 1
      have hfz5_2 := blk_frozen BK101.out 2
      have hfz5_3 := blk_frozen BK101.out 3
      have hfz5_4 := blk_frozen BK101.out 4
      go_wp2
      go_meet
      case rel => exact ⟨_, (true), (by first | rfl | (simp; done) | (simp [*]; done)), H', ⟨by first | omega | exact Nat.le_refl _⟩, ⟨by (with_reducible repeat (first | refine blk_drewN ?_ _ | refine blk_drew ?_ | refine blk_alloc ?_ _)); exact BK101.out⟩, ⟨by repeat (first | (with_reducible first | exact HB.out | apply below_alloc | apply pw_below_drewN | apply below_drew1 | refine below_set ?_ GE101.out) | exact HB.out)⟩⟩
    · rw [if_neg c4] at H
      have c4b0 : decide (60 < (l0_3.length : Int)) = false := decide_eq_false c4
      have c4b1 : decide (60 < l0_3.length) = false := decide_eq_false (by omega)
      clear c4
      (first | rw [c4b0] | (simp only [i64_w, i32_w]; rw [c4b0]) | skip)
      have H' := Aside0.mk H
      clear H
      have hcz6_0 : w3.cell? ⟨gb101, 0, none⟩ = some (.int .i64 a0_0) := (blk_cell BK101.out 0).trans rfl
      have hcz6_1 : w3.cell? ⟨gb101, 1, none⟩ = some (.int .i64 a0_1) := (blk_cell BK101.out 1).trans rfl
      have hcz6_2 : w3.cell? ⟨gb101, 2, none⟩ = some (.int .i64 a0_2) := (blk_cell BK101.out 2).trans rfl
      have hcz6_3 : w3.cell? ⟨gb101, 3, none⟩ = some (.slice A0_3 l0_3.length c0_3) := (blk_cell BK101.out 3).trans rfl
      have hcz6_4 : w3.cell? ⟨gb101, 4, none⟩ = some (.slice A0_4 l0_4.length c0_4) := (blk_cell BK101.out 4).trans rfl
      have hfz6_0 := blk_frozen BK101.out 0
      have hfz6_1 := blk_frozen BK101.out 1
      have hfz6_2 := blk_frozen BK101.out 2
      have hfz6_3 := blk_frozen BK101.out 3
      have hfz6_4 := blk_frozen BK101.out 4
      go_wp2
      go_meet
      case rel => exact ⟨_, (decide ((l0_4.length : Int) > 40)), (by first | rfl | (simp; done) | (simp [*]; done)), H', ⟨by first | omega | exact Nat.le_refl _⟩, ⟨by (with_reducible repeat (first | refine blk_drewN ?_ _ | refine blk_drew ?_ | refine blk_alloc ?_ _)); exact BK101.out⟩, ⟨by repeat (first | (with_reducible first | exact HB.out | apply below_alloc | apply pw_below_drewN | apply below_drew1 | refine below_set ?_ GE101.out) | exact HB.out)⟩⟩
  case rest =>
    clear HC2
    try clear c1
    try clear p2
    try clear c4
    try clear c4b0
    try clear c4b1
    try clear hcz5_0
    try clear hcz5_1
    try clear hcz5_2
    try clear hcz5_3
    try clear hcz5_4
    try clear hcz6_0
    try clear hcz6_1
    try clear hcz6_2
    try clear hcz6_3
    try clear hcz6_4
    try clear hfz5_0
    try clear hfz5_1
    try clear hfz5_2
    try clear hfz5_3
    try clear hfz5_4
    try clear hfz6_0
    try clear hfz6_1
    try clear hfz6_2
    try clear hfz6_3
    try clear hfz6_4
    obtain ⟨kq, x13_1, rfl, HA, HJ1, BK101, HB⟩ := hcut
    cases kq with
    | zero => exact absurd HA.out (by simp [wagtaillaw14_Plan_Light.j0])
    | succ kj1 =>
      have H := HA.out
      clear HA
      simp only [wagtaillaw14_Plan_Light.j0] at H
      by_cases c7 : x13_1 = true
      · subst c7
        have H1 : (some false) = some r := by rw [if_pos rfl] at H; exact H
        clear H
        have H := H1
        clear H1
        obtain rfl := Option.some.inj H
        go_wp2
        go_ret
        exact ⟨by first | rfl | (simp [errW_none, errW_some] <;> rfl) | (simp [*, errW_none, errW_some] <;> rfl), by repeat (first | (with_reducible first | exact HB.out | apply below_alloc | apply pw_below_drewN | apply below_drew1 | refine below_set ?_ GE101.out) | exact HB.out)⟩
      · replace c7 := Bool.eq_false_iff.mpr c7
        subst c7
        have H1 : (wagtaillaw14_Plan_Light.l0 kj1 0 a0_0 a0_1 a0_2 l0_3 l0_4) = some r := by rw [if_neg (show ¬ (false = true) by decide)] at H; exact H
        clear H
        have H := H1
        clear H1
        have H' := Aside0.mk H
        clear H
        go_wp2
        go_loopg [3] kj1 (fun kq v3 w' => ∃ (x3_2 : Int), v3 = .int .i64 x3_2 ∧ Aside0 (wagtaillaw14_Plan_Light.l0 kq x3_2 a0_0 a0_1 a0_2 l0_3 l0_4 = some r) ∧ Aside0 (kq ≤ kj1) ∧ Aside0 (w'.heap[gb101]? = some (.cells #[.int .i64 a0_0, .int .i64 a0_1, .int .i64 a0_2, (.slice A0_3 l0_3.length c0_3), (.slice A0_4 l0_4.length c0_4)] 27 (0, 0))) ∧ Aside0 (Below w.heap.size w w'))
        case atStart => exact ⟨(0), (by first | rfl | (simp; done) | (simp [*]; done)), H', ⟨Nat.le_refl _⟩, ⟨by (with_reducible repeat (first | refine blk_drewN ?_ _ | refine blk_drew ?_ | refine blk_alloc ?_ _)); exact BK101.out⟩, ⟨by repeat (first | (with_reducible first | exact HB.out | apply below_alloc | apply pw_below_drewN | apply below_drew1 | refine below_set ?_ GE101.out) | exact HB.out)⟩⟩
        case round =>
          clear H'
          try clear c1
          try clear p2
          try clear c4
          try clear c4b0
          try clear c4b1
          try clear c7
          try clear hcz5_0
          try clear hcz5_1
          try clear hcz5_2
          try clear hcz5_3
          try clear hcz5_4
          try clear hcz6_0
          try clear hcz6_1
          try clear hcz6_2
          try clear hcz6_3
          try clear hcz6_4
          try clear hfz5_0
          try clear hfz5_1
          try clear hfz5_2
          try clear hfz5_3
          try clear hfz5_4
          try clear hfz6_0
          try clear hfz6_1
          try clear hfz6_2
          try clear hfz6_3
          try clear hfz6_4
          try clear p2
          obtain ⟨x3_2, rfl, HA, HK2, BK101, HB⟩ := hrel
          cases gk with
          | zero => exact absurd HA.out (by simp [wagtaillaw14_Plan_Light.l0])
          | succ k2 =>
            have H := HA.out
            clear HA
            simp only [wagtaillaw14_Plan_Light.l0] at H
            by_cases c8 : x3_2 < (l0_4.length : Int)
            · rw [if_pos c8] at H
              have c8b0 : decide (x3_2 < (l0_4.length : Int)) = true := decide_eq_true c8
              clear c8
              by_cases c9 : 0 ≤ x3_2
              · rw [if_pos c9] at H
                have c9b0 : decide (0 ≤ x3_2) = true := decide_eq_true c9
                clear c9
                by_cases c10 : (((rd_T65 l0_4 x3_2).f2).length : Int) > 300
                · rw [if_pos c10] at H
                  have c10b0 : decide (300 < (((rd_T65 l0_4 x3_2).f2).length : Int)) = true := decide_eq_true c10
                  have c10b1 : decide (300 < ((rd_T65 l0_4 x3_2).f2).length) = true := decide_eq_true (by omega)
                  clear c10
                  obtain rfl := Option.some.inj H
                  have hcz11_0 : wr.cell? ⟨gb101, 0, none⟩ = some (.int .i64 a0_0) := (blk_cell BK101.out 0).trans rfl
                  have hcz11_1 : wr.cell? ⟨gb101, 1, none⟩ = some (.int .i64 a0_1) := (blk_cell BK101.out 1).trans rfl
                  have hcz11_2 : wr.cell? ⟨gb101, 2, none⟩ = some (.int .i64 a0_2) := (blk_cell BK101.out 2).trans rfl
                  have hcz11_3 : wr.cell? ⟨gb101, 3, none⟩ = some (.slice A0_3 l0_3.length c0_3) := (blk_cell BK101.out 3).trans rfl
                  have hcz11_4 : wr.cell? ⟨gb101, 4, none⟩ = some (.slice A0_4 l0_4.length c0_4) := (blk_cell BK101.out 4).trans rfl
                  have hfz11_0 := blk_frozen BK101.out 0
                  have hfz11_1 := blk_frozen BK101.out 1
                  have hfz11_2 := blk_frozen BK101.out 2
                  have hfz11_3 := blk_frozen BK101.out 3
                  have hfz11_4 := blk_frozen BK101.out 4
                  have p102 : 0 ≤ (x3_2 : Int) := of_decide_eq_true (by first | (with_reducible assumption) | assumption)
                  have q102 : x3_2 < (l0_4.length : Int) := of_decide_eq_true (by first | (with_reducible assumption) | assumption)
                  obtain ⟨ad102, A102_2, c102_2, e102, hx102_0, hx102_1, hx102_2, hl102_2, hi102_2⟩ := at_T65 HR0_4.out x3_2 p102 q102
                  cases e102
                  replace hx102_0 := (HB.out.cell (World.block_lt_of_cell? w _ hx102_0)).trans hx102_0
                  replace hx102_1 := (HB.out.cell (World.block_lt_of_cell? w _ hx102_1)).trans hx102_1
                  replace hx102_2 := (HB.out.cell (World.block_lt_of_cell? w _ hx102_2)).trans hx102_2
                  have HR102_2 := Aside0.mk hi102_2
                  have HC102_2 := Aside0.mk hl102_2
                  clear hi102_2 hl102_2
                  replace p102 := eq_true p102
                  replace q102 := eq_true q102
                  go_wp2
                  go_ret
                  exact ⟨by first | rfl | (simp [errW_none, errW_some] <;> rfl) | (simp [*, errW_none, errW_some] <;> rfl), by repeat (first | (with_reducible first | exact HB.out | apply below_alloc | apply pw_below_drewN | apply below_drew1 | refine below_set ?_ GE101.out) | exact HB.out)⟩
                · rw [if_neg c10] at H
                  have c10b0 : decide (300 < (((rd_T65 l0_4 x3_2).f2).length : Int)) = false := decide_eq_false c10
                  have c10b1 : decide (300 < ((rd_T65 l0_4 x3_2).f2).length) = false := decide_eq_false (by omega)
                  clear c10
                  have H' := Aside0.mk H
                  clear H
                  have hcz12_0 : wr.cell? ⟨gb101, 0, none⟩ = some (.int .i64 a0_0) := (blk_cell BK101.out 0).trans rfl
                  have hcz12_1 : wr.cell? ⟨gb101, 1, none⟩ = some (.int .i64 a0_1) := (blk_cell BK101.out 1).trans rfl
                  have hcz12_2 : wr.cell? ⟨gb101, 2, none⟩ = some (.int .i64 a0_2) := (blk_cell BK101.out 2).trans rfl
                  have hcz12_3 : wr.cell? ⟨gb101, 3, none⟩ = some (.slice A0_3 l0_3.length c0_3) := (blk_cell BK101.out 3).trans rfl
                  have hcz12_4 : wr.cell? ⟨gb101, 4, none⟩ = some (.slice A0_4 l0_4.length c0_4) := (blk_cell BK101.out 4).trans rfl
                  have hfz12_0 := blk_frozen BK101.out 0
                  have hfz12_1 := blk_frozen BK101.out 1
                  have hfz12_2 := blk_frozen BK101.out 2
                  have hfz12_3 := blk_frozen BK101.out 3
                  have hfz12_4 := blk_frozen BK101.out 4
                  have p102 : 0 ≤ (x3_2 : Int) := of_decide_eq_true (by first | (with_reducible assumption) | assumption)
                  have q102 : x3_2 < (l0_4.length : Int) := of_decide_eq_true (by first | (with_reducible assumption) | assumption)
                  obtain ⟨ad102, A102_2, c102_2, e102, hx102_0, hx102_1, hx102_2, hl102_2, hi102_2⟩ := at_T65 HR0_4.out x3_2 p102 q102
                  cases e102
                  replace hx102_0 := (HB.out.cell (World.block_lt_of_cell? w _ hx102_0)).trans hx102_0
                  replace hx102_1 := (HB.out.cell (World.block_lt_of_cell? w _ hx102_1)).trans hx102_1
                  replace hx102_2 := (HB.out.cell (World.block_lt_of_cell? w _ hx102_2)).trans hx102_2
                  have HR102_2 := Aside0.mk hi102_2
                  have HC102_2 := Aside0.mk hl102_2
                  clear hi102_2 hl102_2
                  replace p102 := eq_true p102
                  replace q102 := eq_true q102
                  go_wp2
                  go_roundg k2
                  case measure => have := HJ1.out; have := HK2.out; omega
                  case rel => exact ⟨(wrap64 (x3_2 + 1)), (by first | rfl | (simp; done) | (simp [*]; done)), H', ⟨by have := HJ1.out; have := HK2.out; omega⟩, ⟨by (with_reducible repeat (first | refine blk_drewN ?_ _ | refine blk_drew ?_ | refine blk_alloc ?_ _)); exact BK101.out⟩, ⟨by repeat (first | (with_reducible first | exact HB.out | apply below_alloc | apply pw_below_drewN | apply below_drew1 | refine below_set ?_ GE101.out) | exact HB.out)⟩⟩
              · rw [if_neg c9] at H
                exact absurd H (by simp)
            · rw [if_neg c8] at H
              have c8b0 : decide (x3_2 < (l0_4.length : Int)) = false := decide_eq_false c8
              clear c8
              obtain rfl := Option.some.inj H
              have hcz13_0 : wr.cell? ⟨gb101, 0, none⟩ = some (.int .i64 a0_0) := (blk_cell BK101.out 0).trans rfl
              have hcz13_1 : wr.cell? ⟨gb101, 1, none⟩ = some (.int .i64 a0_1) := (blk_cell BK101.out 1).trans rfl
              have hcz13_2 : wr.cell? ⟨gb101, 2, none⟩ = some (.int .i64 a0_2) := (blk_cell BK101.out 2).trans rfl
              have hcz13_3 : wr.cell? ⟨gb101, 3, none⟩ = some (.slice A0_3 l0_3.length c0_3) := (blk_cell BK101.out 3).trans rfl
              have hcz13_4 : wr.cell? ⟨gb101, 4, none⟩ = some (.slice A0_4 l0_4.length c0_4) := (blk_cell BK101.out 4).trans rfl
              have hfz13_0 := blk_frozen BK101.out 0
              have hfz13_1 := blk_frozen BK101.out 1
              have hfz13_2 := blk_frozen BK101.out 2
              have hfz13_3 := blk_frozen BK101.out 3
              have hfz13_4 := blk_frozen BK101.out 4
              go_wp2
              go_ret
              exact ⟨by first | rfl | (simp [errW_none, errW_some] <;> rfl) | (simp [*, errW_none, errW_some] <;> rfl), by repeat (first | (with_reducible first | exact HB.out | apply below_alloc | apply pw_below_drewN | apply below_drew1 | refine below_set ?_ GE101.out) | exact HB.out)⟩
def wagtailref13_Right.f (a0_0 : Int) (a0_1 : Int) (a0_2 : Int) : Option (Bool) := if a0_0 ≥ 8 then (if a0_0 ≤ 34 then (if a0_1 ≥ 4 then (if a0_1 ≤ 32 then (if a0_2 ≥ 0 then (some (decide (a0_2 ≤ 8))) else (some false)) else (some false)) else (some false)) else (some false)) else (some false)
set_option maxHeartbeats 8000000 in
set_option maxRecDepth 100000 in
theorem wagtailref13_Right.calls (a0_0 : Int) (a0_1 : Int) (a0_2 : Int) (r : Bool) (w : World) (h : wagtailref13_Right.f a0_0 a0_1 a0_2 = some r) :
    Calls Try.prog 12 #[.agg #[.int .i64 a0_0, .int .i64 a0_1, .int .i64 a0_2]] w fun e w' => e = .returned (.bool r) ∧ Below w.heap.size w w' := by
  have hu23 := Try.underlying23
  have HB := Aside0.mk (Below.refl w.heap.size w)
  have H : (if a0_0 ≥ 8 then (if a0_0 ≤ 34 then (if a0_1 ≥ 4 then (if a0_1 ≤ 32 then (if a0_2 ≥ 0 then (some (decide (a0_2 ≤ 8))) else (some false)) else (some false)) else (some false)) else (some false)) else (some false)) = some r := h
  clear h
  by_cases c2 : a0_0 ≥ 8
  · rw [if_pos c2] at H
    have c2b0 : decide (8 ≤ a0_0) = true := decide_eq_true c2
    clear c2
    by_cases c3 : a0_0 ≤ 34
    · rw [if_pos c3] at H
      have c3b0 : decide (a0_0 ≤ 34) = true := decide_eq_true c3
      clear c3
      by_cases c4 : a0_1 ≥ 4
      · rw [if_pos c4] at H
        have c4b0 : decide (4 ≤ a0_1) = true := decide_eq_true c4
        clear c4
        by_cases c5 : a0_1 ≤ 32
        · rw [if_pos c5] at H
          have c5b0 : decide (a0_1 ≤ 32) = true := decide_eq_true c5
          clear c5
          by_cases c6 : a0_2 ≥ 0
          · rw [if_pos c6] at H
            have c6b0 : decide (0 ≤ a0_2) = true := decide_eq_true c6
            clear c6
            obtain rfl := Option.some.inj H
            go_enter Try.func12, Try.ntmps12
            go_wp2_with (first | ((with_reducible refine gate_dst (N := 1) rfl ?_); refine box_event ?hg (N := 1) ?hd (cs := #[.int .i64 a0_0, .int .i64 a0_1, .int .i64 a0_2]) (t := 23) ?hr ?_; (case hd => rfl); (case hg => rfl); (case hr => first | (go_simp; done) | (go_simp; rfl)); intro gb103 hg w7 hbox hb; have n0_ := Aside0.mk (below_step (by repeat (first | (with_reducible first | exact HB.out | apply below_alloc | apply pw_below_drewN | apply below_drew1) | exact HB.out)) hb); have n1_ := Aside0.mk (hbox); have n2_ := Aside0.mk ((by rw [hg]; exact (below_size (by repeat (first | (with_reducible first | exact HB.out | apply below_alloc | apply pw_below_drewN | apply below_drew1) | exact HB.out))) : w.heap.size ≤ gb103)); have n3_ := Aside0.mk ((by rw [hg]; exact (below_size (by repeat (first | (with_reducible first | exact HB.out | apply below_alloc | apply pw_below_drewN | apply below_drew1) | exact HB.out))) : w.heap.size ≤ gb103)); clear HB; have HB := n0_; have BK103 := n1_; have GW103 := n2_; have GE103 := n3_; clear n0_ n1_ n2_ n3_; clear hb hbox hg; have hcz8_0 : w7.cell? ⟨gb103, 0, none⟩ = some (.int .i64 a0_0) := (blk_cell BK103.out 0).trans rfl; have hcz8_1 : w7.cell? ⟨gb103, 1, none⟩ = some (.int .i64 a0_1) := (blk_cell BK103.out 1).trans rfl; have hcz8_2 : w7.cell? ⟨gb103, 2, none⟩ = some (.int .i64 a0_2) := (blk_cell BK103.out 2).trans rfl; have hfz8_0 := blk_frozen BK103.out 0; have hfz8_1 := blk_frozen BK103.out 1; have hfz8_2 := blk_frozen BK103.out 2))
            go_ret
            exact ⟨by first | rfl | (simp [errW_none, errW_some] <;> rfl) | (simp [*, errW_none, errW_some] <;> rfl), by repeat (first | (with_reducible first | exact HB.out | apply below_alloc | apply pw_below_drewN | apply below_drew1 | refine below_set ?_ GE103.out) | exact HB.out)⟩
          · rw [if_neg c6] at H
            have c6b0 : decide (0 ≤ a0_2) = false := decide_eq_false c6
            clear c6
            obtain rfl := Option.some.inj H
            go_enter Try.func12, Try.ntmps12
            go_wp2_with (first | ((with_reducible refine gate_dst (N := 1) rfl ?_); refine box_event ?hg (N := 1) ?hd (cs := #[.int .i64 a0_0, .int .i64 a0_1, .int .i64 a0_2]) (t := 23) ?hr ?_; (case hd => rfl); (case hg => rfl); (case hr => first | (go_simp; done) | (go_simp; rfl)); intro gb103 hg w9 hbox hb; have n0_ := Aside0.mk (below_step (by repeat (first | (with_reducible first | exact HB.out | apply below_alloc | apply pw_below_drewN | apply below_drew1) | exact HB.out)) hb); have n1_ := Aside0.mk (hbox); have n2_ := Aside0.mk ((by rw [hg]; exact (below_size (by repeat (first | (with_reducible first | exact HB.out | apply below_alloc | apply pw_below_drewN | apply below_drew1) | exact HB.out))) : w.heap.size ≤ gb103)); have n3_ := Aside0.mk ((by rw [hg]; exact (below_size (by repeat (first | (with_reducible first | exact HB.out | apply below_alloc | apply pw_below_drewN | apply below_drew1) | exact HB.out))) : w.heap.size ≤ gb103)); clear HB; have HB := n0_; have BK103 := n1_; have GW103 := n2_; have GE103 := n3_; clear n0_ n1_ n2_ n3_; clear hb hbox hg; have hcz10_0 : w9.cell? ⟨gb103, 0, none⟩ = some (.int .i64 a0_0) := (blk_cell BK103.out 0).trans rfl; have hcz10_1 : w9.cell? ⟨gb103, 1, none⟩ = some (.int .i64 a0_1) := (blk_cell BK103.out 1).trans rfl; have hcz10_2 : w9.cell? ⟨gb103, 2, none⟩ = some (.int .i64 a0_2) := (blk_cell BK103.out 2).trans rfl; have hfz10_0 := blk_frozen BK103.out 0; have hfz10_1 := blk_frozen BK103.out 1; have hfz10_2 := blk_frozen BK103.out 2))
            go_ret
            exact ⟨by first | rfl | (simp [errW_none, errW_some] <;> rfl) | (simp [*, errW_none, errW_some] <;> rfl), by repeat (first | (with_reducible first | exact HB.out | apply below_alloc | apply pw_below_drewN | apply below_drew1 | refine below_set ?_ GE103.out) | exact HB.out)⟩
        · rw [if_neg c5] at H
          have c5b0 : decide (a0_1 ≤ 32) = false := decide_eq_false c5
          clear c5
          obtain rfl := Option.some.inj H
          go_enter Try.func12, Try.ntmps12
          go_wp2_with (first | ((with_reducible refine gate_dst (N := 1) rfl ?_); refine box_event ?hg (N := 1) ?hd (cs := #[.int .i64 a0_0, .int .i64 a0_1, .int .i64 a0_2]) (t := 23) ?hr ?_; (case hd => rfl); (case hg => rfl); (case hr => first | (go_simp; done) | (go_simp; rfl)); intro gb103 hg w11 hbox hb; have n0_ := Aside0.mk (below_step (by repeat (first | (with_reducible first | exact HB.out | apply below_alloc | apply pw_below_drewN | apply below_drew1) | exact HB.out)) hb); have n1_ := Aside0.mk (hbox); have n2_ := Aside0.mk ((by rw [hg]; exact (below_size (by repeat (first | (with_reducible first | exact HB.out | apply below_alloc | apply pw_below_drewN | apply below_drew1) | exact HB.out))) : w.heap.size ≤ gb103)); have n3_ := Aside0.mk ((by rw [hg]; exact (below_size (by repeat (first | (with_reducible first | exact HB.out | apply below_alloc | apply pw_below_drewN | apply below_drew1) | exact HB.out))) : w.heap.size ≤ gb103)); clear HB; have HB := n0_; have BK103 := n1_; have GW103 := n2_; have GE103 := n3_; clear n0_ n1_ n2_ n3_; clear hb hbox hg; have hcz12_0 : w11.cell? ⟨gb103, 0, none⟩ = some (.int .i64 a0_0) := (blk_cell BK103.out 0).trans rfl; have hcz12_1 : w11.cell? ⟨gb103, 1, none⟩ = some (.int .i64 a0_1) := (blk_cell BK103.out 1).trans rfl; have hcz12_2 : w11.cell? ⟨gb103, 2, none⟩ = some (.int .i64 a0_2) := (blk_cell BK103.out 2).trans rfl; have hfz12_0 := blk_frozen BK103.out 0; have hfz12_1 := blk_frozen BK103.out 1; have hfz12_2 := blk_frozen BK103.out 2))
          go_ret
          exact ⟨by first | rfl | (simp [errW_none, errW_some] <;> rfl) | (simp [*, errW_none, errW_some] <;> rfl), by repeat (first | (with_reducible first | exact HB.out | apply below_alloc | apply pw_below_drewN | apply below_drew1 | refine below_set ?_ GE103.out) | exact HB.out)⟩
      · rw [if_neg c4] at H
        have c4b0 : decide (4 ≤ a0_1) = false := decide_eq_false c4
        clear c4
        obtain rfl := Option.some.inj H
        go_enter Try.func12, Try.ntmps12
        go_wp2_with (first | ((with_reducible refine gate_dst (N := 1) rfl ?_); refine box_event ?hg (N := 1) ?hd (cs := #[.int .i64 a0_0, .int .i64 a0_1, .int .i64 a0_2]) (t := 23) ?hr ?_; (case hd => rfl); (case hg => rfl); (case hr => first | (go_simp; done) | (go_simp; rfl)); intro gb103 hg w13 hbox hb; have n0_ := Aside0.mk (below_step (by repeat (first | (with_reducible first | exact HB.out | apply below_alloc | apply pw_below_drewN | apply below_drew1) | exact HB.out)) hb); have n1_ := Aside0.mk (hbox); have n2_ := Aside0.mk ((by rw [hg]; exact (below_size (by repeat (first | (with_reducible first | exact HB.out | apply below_alloc | apply pw_below_drewN | apply below_drew1) | exact HB.out))) : w.heap.size ≤ gb103)); have n3_ := Aside0.mk ((by rw [hg]; exact (below_size (by repeat (first | (with_reducible first | exact HB.out | apply below_alloc | apply pw_below_drewN | apply below_drew1) | exact HB.out))) : w.heap.size ≤ gb103)); clear HB; have HB := n0_; have BK103 := n1_; have GW103 := n2_; have GE103 := n3_; clear n0_ n1_ n2_ n3_; clear hb hbox hg; have hcz14_0 : w13.cell? ⟨gb103, 0, none⟩ = some (.int .i64 a0_0) := (blk_cell BK103.out 0).trans rfl; have hcz14_1 : w13.cell? ⟨gb103, 1, none⟩ = some (.int .i64 a0_1) := (blk_cell BK103.out 1).trans rfl; have hcz14_2 : w13.cell? ⟨gb103, 2, none⟩ = some (.int .i64 a0_2) := (blk_cell BK103.out 2).trans rfl; have hfz14_0 := blk_frozen BK103.out 0; have hfz14_1 := blk_frozen BK103.out 1; have hfz14_2 := blk_frozen BK103.out 2))
        go_ret
        exact ⟨by first | rfl | (simp [errW_none, errW_some] <;> rfl) | (simp [*, errW_none, errW_some] <;> rfl), by repeat (first | (with_reducible first | exact HB.out | apply below_alloc | apply pw_below_drewN | apply below_drew1 | refine below_set ?_ GE103.out) | exact HB.out)⟩
    · rw [if_neg c3] at H
      have c3b0 : decide (a0_0 ≤ 34) = false := decide_eq_false c3
      clear c3
      obtain rfl := Option.some.inj H
      go_enter Try.func12, Try.ntmps12
      go_wp2_with (first | ((with_reducible refine gate_dst (N := 1) rfl ?_); refine box_event ?hg (N := 1) ?hd (cs := #[.int .i64 a0_0, .int .i64 a0_1, .int .i64 a0_2]) (t := 23) ?hr ?_; (case hd => rfl); (case hg => rfl); (case hr => first | (go_simp; done) | (go_simp; rfl)); intro gb103 hg w15 hbox hb; have n0_ := Aside0.mk (below_step (by repeat (first | (with_reducible first | exact HB.out | apply below_alloc | apply pw_below_drewN | apply below_drew1) | exact HB.out)) hb); have n1_ := Aside0.mk (hbox); have n2_ := Aside0.mk ((by rw [hg]; exact (below_size (by repeat (first | (with_reducible first | exact HB.out | apply below_alloc | apply pw_below_drewN | apply below_drew1) | exact HB.out))) : w.heap.size ≤ gb103)); have n3_ := Aside0.mk ((by rw [hg]; exact (below_size (by repeat (first | (with_reducible first | exact HB.out | apply below_alloc | apply pw_below_drewN | apply below_drew1) | exact HB.out))) : w.heap.size ≤ gb103)); clear HB; have HB := n0_; have BK103 := n1_; have GW103 := n2_; have GE103 := n3_; clear n0_ n1_ n2_ n3_; clear hb hbox hg; have hcz16_0 : w15.cell? ⟨gb103, 0, none⟩ = some (.int .i64 a0_0) := (blk_cell BK103.out 0).trans rfl; have hcz16_1 : w15.cell? ⟨gb103, 1, none⟩ = some (.int .i64 a0_1) := (blk_cell BK103.out 1).trans rfl; have hcz16_2 : w15.cell? ⟨gb103, 2, none⟩ = some (.int .i64 a0_2) := (blk_cell BK103.out 2).trans rfl; have hfz16_0 := blk_frozen BK103.out 0; have hfz16_1 := blk_frozen BK103.out 1; have hfz16_2 := blk_frozen BK103.out 2))
      go_ret
      exact ⟨by first | rfl | (simp [errW_none, errW_some] <;> rfl) | (simp [*, errW_none, errW_some] <;> rfl), by repeat (first | (with_reducible first | exact HB.out | apply below_alloc | apply pw_below_drewN | apply below_drew1 | refine below_set ?_ GE103.out) | exact HB.out)⟩
  · rw [if_neg c2] at H
    have c2b0 : decide (8 ≤ a0_0) = false := decide_eq_false c2
    clear c2
    obtain rfl := Option.some.inj H
    go_enter Try.func12, Try.ntmps12
    go_wp2_with (first | ((with_reducible refine gate_dst (N := 1) rfl ?_); refine box_event ?hg (N := 1) ?hd (cs := #[.int .i64 a0_0, .int .i64 a0_1, .int .i64 a0_2]) (t := 23) ?hr ?_; (case hd => rfl); (case hg => rfl); (case hr => first | (go_simp; done) | (go_simp; rfl)); intro gb103 hg w17 hbox hb; have n0_ := Aside0.mk (below_step (by repeat (first | (with_reducible first | exact HB.out | apply below_alloc | apply pw_below_drewN | apply below_drew1) | exact HB.out)) hb); have n1_ := Aside0.mk (hbox); have n2_ := Aside0.mk ((by rw [hg]; exact (below_size (by repeat (first | (with_reducible first | exact HB.out | apply below_alloc | apply pw_below_drewN | apply below_drew1) | exact HB.out))) : w.heap.size ≤ gb103)); have n3_ := Aside0.mk ((by rw [hg]; exact (below_size (by repeat (first | (with_reducible first | exact HB.out | apply below_alloc | apply pw_below_drewN | apply below_drew1) | exact HB.out))) : w.heap.size ≤ gb103)); clear HB; have HB := n0_; have BK103 := n1_; have GW103 := n2_; have GE103 := n3_; clear n0_ n1_ n2_ n3_; clear hb hbox hg; have hcz18_0 : w17.cell? ⟨gb103, 0, none⟩ = some (.int .i64 a0_0) := (blk_cell BK103.out 0).trans rfl; have hcz18_1 : w17.cell? ⟨gb103, 1, none⟩ = some (.int .i64 a0_1) := (blk_cell BK103.out 1).trans rfl; have hcz18_2 : w17.cell? ⟨gb103, 2, none⟩ = some (.int .i64 a0_2) := (blk_cell BK103.out 2).trans rfl; have hfz18_0 := blk_frozen BK103.out 0; have hfz18_1 := blk_frozen BK103.out 1; have hfz18_2 := blk_frozen BK103.out 2))
    go_ret
    exact ⟨by first | rfl | (simp [errW_none, errW_some] <;> rfl) | (simp [*, errW_none, errW_some] <;> rfl), by repeat (first | (with_reducible first | exact HB.out | apply below_alloc | apply pw_below_drewN | apply below_drew1 | refine below_set ?_ GE103.out) | exact HB.out)⟩
end Go.Proofs.Ytnchdmidaigheaa.Hp
namespace Go.Proofs.Ytnchdmidaigheaa.ND
set_option linter.unusedVariables false
set_option linter.unusedSimpArgs false
open Go.RowKit Go.Proofs.Ytnchdmidaigheaa.Hp Go.Proofs.YtnchdmidaigheaaW.PrintWords Go.Proofs.YtnchdmidaigheaaW.PrintLast Go.Proofs.YtnchdmidaigheaaW.PrintMore
def lightP (bad : List Int) (fs : List Flt) : Bool := (decide (bad.length ≤ 60) && decide (fs.length ≤ 40)) && fs.all fun f => decide (f.f2.length ≤ 300)
theorem light_loop (B P C : Int) (bad : List Int) (fs : List Flt) (hl : fs.length ≤ 40) : ∀ (d i : Nat), i + d = fs.length → Ev (fun k => wagtaillaw14_Plan_Light.l0 k (i : Int) B P C bad fs) ((fs.drop i).all fun f => decide (f.f2.length ≤ 300))
  | 0, i, hd => by
    refine Ev.step (f := fun k => some true) (fun k => ?_) ?_
    · simp only [wagtaillaw14_Plan_Light.l0]
      rw [if_neg (by omega)]
    · rw [List.drop_of_length_le (by omega)]
      exact Ev.now _
  | d + 1, i, hd => by
    have hi : i < fs.length := by omega
    have e2 : wrap64 ((i : Int) + 1) = ((i + 1 : Nat) : Int) := by unfold wrap64; omega
    have hr : rd_T65 fs (i : Int) = fs[i] := by unfold rd_T65; rw [Int.toNat_natCast, List.getD_eq_getElem?_getD, List.getElem?_eq_getElem hi]; rfl
    refine Ev.step (f := fun k => if ((fs[i].f2).length : Int) > 300 then some false else wagtaillaw14_Plan_Light.l0 k ((i + 1 : Nat) : Int) B P C bad fs) (fun k => ?_) ?_
    · simp only [wagtaillaw14_Plan_Light.l0]
      rw [if_pos (by omega), if_pos (by omega), hr, e2]
    · rw [List.drop_eq_getElem_cons hi, List.all_cons]
      by_cases h : ((fs[i].f2).length : Int) > 300
      · refine Ev.congr (fun k => if_pos h) ?_
        rw [decide_eq_false (show ¬ (fs[i].f2).length ≤ 300 by omega), Bool.false_and]
        exact Ev.now _
      · refine Ev.congr (fun k => if_neg h) ?_
        rw [decide_eq_true (show (fs[i].f2).length ≤ 300 by omega), Bool.true_and]
        exact light_loop B P C bad fs hl d (i + 1) (by omega)
theorem light_ev (B P C : Int) (bad : List Int) (fs : List Flt) : Ev (fun k => wagtaillaw14_Plan_Light.f k B P C bad fs) (lightP bad fs) := by
  unfold lightP
  by_cases h1 : bad.length ≤ 60
  · by_cases h2 : fs.length ≤ 40
    · refine Ev.congr (f := fun k => wagtaillaw14_Plan_Light.j0 k false B P C bad fs) (fun k => ?_) ?_
      · unfold wagtaillaw14_Plan_Light.f
        rw [if_neg (by omega), decide_eq_false (by omega)]
      · rw [decide_eq_true h1, decide_eq_true h2, Bool.true_and, Bool.true_and]
        have := light_loop B P C bad fs h2 fs.length 0 (by omega)
        rw [List.drop_zero] at this
        exact Ev.step (fun k => by simp only [wagtaillaw14_Plan_Light.j0]; rw [if_neg (by decide)]; rfl) this
    · refine Ev.congr (f := fun k => wagtaillaw14_Plan_Light.j0 k true B P C bad fs) (fun k => ?_) ?_
      · unfold wagtaillaw14_Plan_Light.f
        rw [if_neg (by omega), decide_eq_true (by omega)]
      · rw [decide_eq_false h2, Bool.and_false, Bool.false_and]
        exact Ev.step (f := fun k => some false) (fun k => by simp only [wagtaillaw14_Plan_Light.j0]; rw [if_pos (by decide)]) (Ev.now _)
  · refine Ev.congr (f := fun k => wagtaillaw14_Plan_Light.j0 k true B P C bad fs) (fun k => ?_) ?_
    · unfold wagtaillaw14_Plan_Light.f
      rw [if_pos (by omega)]
    · rw [decide_eq_false h1, Bool.false_and, Bool.false_and]
      exact Ev.step (f := fun k => some false) (fun k => by simp only [wagtaillaw14_Plan_Light.j0]; rw [if_pos (by decide)]) (Ev.now _)
theorem light_calls {W : World} (B P C : Int) {bad : List Int} {fs : List Flt} {Ab Af : Option Addr} {cb cf : Nat} (hb : Kd.C (Kd.int .i64) W Ab bad.length bad) (hcb : bad.length ≤ cb) (hf : Kd.C k65 W Af fs.length fs) (hcf : fs.length ≤ cf) :
    Calls Try.prog 11 #[.agg #[.int .i64 B, .int .i64 P, .int .i64 C, .slice Ab bad.length cb, .slice Af fs.length cf]] W fun e w' => e = .returned (.bool (lightP bad fs)) ∧ Below W.heap.size W w' := by
  obtain ⟨K, hK⟩ := light_ev B P C bad fs
  exact wagtaillaw14_Plan_Light.calls K B P C Ab cb bad Af cf fs _ W hb hcb hf hcf (hK K (Nat.le_refl _))
theorem right_calls (B P C : Int) (W : World) : Calls Try.prog 12 #[.agg #[.int .i64 B, .int .i64 P, .int .i64 C]] W fun e w' => e = .returned (.bool (rightG B P C)) ∧ Below W.heap.size W w' :=
  wagtailref13_Right.calls B P C _ W (by
    unfold wagtailref13_Right.f rightG within
    by_cases h1 : B ≥ 8
    · by_cases h2 : B ≤ 34
      · by_cases h3 : P ≥ 4
        · by_cases h4 : P ≤ 32
          · by_cases h5 : C ≥ 0
            · rw [if_pos h1, if_pos h2, if_pos h3, if_pos h4, if_pos h5]
              congr 1
              have h1' : (8 : Int) ≤ B := h1
              have h3' : (4 : Int) ≤ P := h3
              have h5' : (0 : Int) ≤ C := h5
              simp [h1', h2, h3', h4, h5']
            · rw [if_pos h1, if_pos h2, if_pos h3, if_pos h4, if_neg h5]
              have h5' : ¬ (0 : Int) ≤ C := h5
              simp [h5']
          · rw [if_pos h1, if_pos h2, if_pos h3, if_neg h4]
            simp [h4]
        · rw [if_pos h1, if_pos h2, if_neg h3]
          have h3' : ¬ (4 : Int) ≤ P := h3
          simp [h3']
      · rw [if_pos h1, if_neg h2]
        simp [h2]
    · rw [if_neg h1]
      have h1' : ¬ (8 : Int) ≤ B := h1
      simp [h1'])
def fullL (s : List Int) : List Int := (List.range 256).map fun (i : Nat) => if s.length = 0 then (i : Int) else s.getD (i % s.length) 0
theorem fullL_len (s : List Int) : (fullL s).length = 256 := by unfold fullL; rw [List.length_map, List.length_range]
theorem fullL_ok {s : List Int} (hs : isBytes s) : isBytes (fullL s) ∧ (fullL s).length = 256 := by
  refine ⟨fun x hx => ?_, fullL_len s⟩
  unfold fullL at hx
  obtain ⟨i, hi, rfl⟩ := List.mem_map.1 hx
  have := List.mem_range.1 hi
  split
  · omega
  · exact rd_range s hs ((i % s.length : Nat) : Int)
theorem full_loop (s : List Int) (hs : s.length ≤ 100000) : ∀ (d i : Nat), i + d = 256 → Ev (fun k => wagtaillaw14_full.l0 k s ((fullL s).take i) (i : Int)) (fullL s)
  | 0, i, hd => by
    refine Ev.step (f := fun _ => some (fullL s)) (fun k => ?_) (Ev.now _)
    simp only [wagtaillaw14_full.l0]
    rw [if_neg (by omega), List.take_of_length_le (by rw [fullL_len]; omega)]
  | d + 1, i, hd => by
    have hi : i < 256 := by omega
    have e2 : wrap64 ((i : Int) + 1) = ((i + 1 : Nat) : Int) := by unfold wrap64; omega
    have hlen : ((fullL s).take i).length < 140737488355328 := by rw [List.length_take, fullL_len]; omega
    have hat : (fullL s)[i]? = some (if s.length = 0 then (i : Int) else s.getD (i % s.length) 0) := by
      unfold fullL
      rw [List.getElem?_map, List.getElem?_range hi]
      rfl
    refine Ev.step (fun k => ?_) (full_loop s hs d (i + 1) (by omega))
    rw [List.take_add_one, hat]
    simp only [wagtaillaw14_full.l0]
    rw [if_pos (by omega), e2]
    by_cases h0 : s.length = 0
    · rw [if_neg (by omega), if_pos hlen, if_pos h0, show ((i : Int) % 256) = (i : Int) by omega]
      rfl
    · have hm : Int.tmod (i : Int) (s.length : Int) = ((i % s.length : Nat) : Int) := by rw [Int.tmod_eq_emod_of_nonneg (by omega)]; rfl
      have hlt : i % s.length < s.length := Nat.mod_lt _ (by omega)
      rw [if_pos (by omega), if_neg (by omega), hm, if_pos (by omega), if_pos (by omega), if_pos hlen, if_neg h0]
      rfl
theorem full_calls {W : World} {A : Option Addr} {c : Nat} {s : List Int} (hC : Kd.C (Kd.int .u8) W A s.length s) (hc : s.length ≤ c) (hs : s.length ≤ 100000) :
    Calls Try.prog 18 #[.slice A s.length c] W fun e w' => ∃ A c, e = .returned (.slice A 256 c) ∧ 256 ≤ c ∧ Kd.F (Kd.int .u8) w' (fun k => W.heap.size ≤ k) A 256 (fullL s) ∧ Below W.heap.size W w' := by
  obtain ⟨K, hK⟩ := full_loop s hs 256 0 (by omega)
  refine (wagtaillaw14_full.calls K A c s _ W hC hc (hK K (Nat.le_refl _))).mono ?_
  rintro e w' ⟨v, rfl, hR, hb⟩
  obtain ⟨A', c', rfl, hc', _⟩ := Kd.R_reads hR
  have hF := Kd.R_F (Kd.R_mono (Kd.R_bound hR) (fun k hk => hk.2.1))
  rw [fullL_len] at hc' hF ⊢
  exact ⟨A', c', rfl, hc', hF, hb⟩
def Two (W w : World) (L : Lay) (X : XLay) (D E : Dv) : Prop := ∃ ok okx, DV w ok L D ∧ XV w okx X E ∧ (∀ k, L.all ok k → k < w.heap.size → ¬ X.S k) ∧ (∀ k, okx k ∨ X.S k → k < w.heap.size → ¬ L.S k) ∧ Below W.heap.size W w ∧ ∀ k, L.S k ∨ X.S k → W.heap.size ≤ k
section
variable {W w w' : World} {L : Lay} {X : XLay} {D D' E E' : Dv} {ok' okx' : Nat → Prop}
theorem Two.lt (h : Two W w L X D E) : ∀ k, L.S k ∨ X.S k → k < w.heap.size := by
  obtain ⟨ok, okx, h1, h2, _⟩ := h
  exact fun k hk => hk.elim (h1.lt k) (h2.lt k)
theorem Two.below (h : Two W w L X D E) (hb : Below w.heap.size w w') : Two W w' L X D E := by
  have hlt := h.lt
  obtain ⟨ok, okx, h1, h2, h3, h4, h5, h6⟩ := h
  exact ⟨ok, okx, h1.below hb, h2.below hb, fun k hk _ hX => h3 k hk (hlt k (.inr hX)) hX, fun k hk _ hL => h4 k hk (hlt k (.inl hL)) hL, below_then h5 h5.size hb, h6⟩
theorem Two.left (h : Two W w L X D E) : ∃ ok, DV w ok L D := by obtain ⟨ok, okx, h1, _⟩ := h; exact ⟨ok, h1⟩
theorem Two.right (h : Two W w L X D E) : ∃ ok, XV w ok X E := by obtain ⟨ok, okx, _, h2, _⟩ := h; exact ⟨okx, h2⟩
theorem two_prog (h : Two W w L X D E) {okl : Nat → Prop} (b p : Int) (l : List Int) (A : Option Addr) (c : Nat) (hc : l.length ≤ c) (hl : isBytes l) (gl : Kd.F (Kd.int .u8) w okl A l.length l) (hno : ∀ k, okl k → k < w.heap.size → ¬ L.S k) :
    Calls Try.prog 17 #[.pointer (some ⟨L.g, 0, none⟩), .agg #[.int .i64 b, .int .i64 p], .slice A l.length c] w fun e w' => e = .returned (.int .i64 (D.prog b p l).1) ∧ Two W w' L X (D.prog b p l).2 E ∧ Turn w w' L.S := by
  have hlt := h.lt
  obtain ⟨ok, okx, h1, h2, h3, h4, h5, h6⟩ := h
  refine (program_calls h1 b p l A c hc hl gl hno).mono ?_
  rintro e w' ⟨rfl, hD, hT⟩
  refine ⟨rfl, ⟨newer w ok, okx, hD, h2.turn hT h4, fun k hk _ hX => ?_, fun k hk _ hL => h4 k hk (hlt k (.inl hL)) hL, hT.to_below h5 h5.size (fun k hk => h6 k (.inl hk)), h6⟩, hT⟩
  have hX' := hlt k (.inr hX)
  rcases hk with (hk | hk) | hk
  · exact h3 k (.inl hk) hX' hX
  · omega
  · exact h3 k (.inr hk) hX' hX
theorem two_erase (h : Two W w L X D E) (b : Int) :
    Calls Try.prog 16 #[.pointer (some ⟨L.g, 0, none⟩), .int .i64 b] w fun e w' => e = .returned (.int .i64 (D.erase b).1) ∧ Two W w' L X (D.erase b).2 E ∧ Turn w w' L.S := by
  have hlt := h.lt
  obtain ⟨ok, okx, h1, h2, h3, h4, h5, h6⟩ := h
  refine (erase_calls h1 b).mono ?_
  rintro e w' ⟨rfl, hD, hT⟩
  refine ⟨rfl, ⟨newer w ok, okx, hD, h2.turn hT h4, fun k hk _ hX => ?_, fun k hk _ hL => h4 k hk (hlt k (.inl hL)) hL, hT.to_below h5 h5.size (fun k hk => h6 k (.inl hk)), h6⟩, hT⟩
  have hX' := hlt k (.inr hX)
  rcases hk with (hk | hk) | hk
  · exact h3 k (.inl hk) hX' hX
  · omega
  · exact h3 k (.inr hk) hX' hX
theorem Two.turnR (h : Two W w L X D E) (hX : ∀ ok, XV w ok X E → XV w' ok X E') (hT : Turn w w' X.S) : Two W w' L X D E' := by
  have hlt := h.lt
  obtain ⟨ok, okx, h1, h2, h3, h4, h5, h6⟩ := h
  exact ⟨ok, okx, h1.turn hT h3, hX okx h2, fun k hk _ hX => h3 k hk (hlt k (.inr hX)) hX, fun k hk _ hL => h4 k hk (hlt k (.inl hL)) hL, hT.to_below h5 h5.size (fun k hk => h6 k (.inr hk)), h6⟩
end
end Go.Proofs.Ytnchdmidaigheaa.ND
namespace Go.Proofs.Ytnchdmidaigheaa.ND
set_option linter.unusedVariables false
set_option linter.unusedSimpArgs false
open Go.RowKit Go.Proofs.Ytnchdmidaigheaa.Hp Go.Proofs.YtnchdmidaigheaaW.PrintWords Go.Proofs.YtnchdmidaigheaaW.PrintLast Go.Proofs.YtnchdmidaigheaaW.PrintMore
theorem lit1_int {W : World} {g T : Nat} {k : IntKind} {x : Int} (h : W.heap[g]? = some (.cells #[.int k x] T (0, 0))) : Kd.C (Kd.int k) W (some ⟨g, 0, none⟩) 1 [x] :=
  ⟨rfl, by decide, fun _ => ⟨_, rfl, fun j p hp => by
    have hj : j = 0 := by have := (List.getElem?_eq_some_iff.1 hp).1; simp at this; exact this
    subst hj
    obtain rfl : x = p := by simpa using hp
    exact ⟨[.int k x], rfl, rfl, fun i u hu => by
      have hi : i = 0 := by have := (List.getElem?_eq_some_iff.1 hu).1; simp at this; exact this
      subst hi
      rw [add_plain]
      exact (blk_cell h 0).trans hu⟩⟩⟩
theorem lit1_fault {W : World} {g T : Nat} {x : Flt} {A : Option Addr} {c : Nat} (h : W.heap[g]? = some (.cells #[.int .i64 x.f0, .int .i64 x.f1, .slice A x.f2.length c] T (0, 0))) (hc : x.f2.length ≤ c) (hm : Kd.C (Kd.int .u8) W A x.f2.length x.f2) : Kd.C k65 W (some ⟨g, 0, none⟩) 1 [x] :=
  ⟨rfl, by decide, fun _ => ⟨_, rfl, fun j p hp => by
    have hj : j = 0 := by have := (List.getElem?_eq_some_iff.1 hp).1; simp at this; exact this
    subst hj
    obtain rfl : x = p := by simpa using hp
    exact ⟨_, rfl, k65_mk W x hc hm, fun i u hu => by
      have hi : i < 3 := (List.getElem?_eq_some_iff.1 hu).1
      rw [add_plain, blk_cell h, ← hu]
      rw [show 0 * k65.sz + i = i by rw [Nat.zero_mul, Nat.zero_add]]
      rw [← List.getElem?_toArray]⟩⟩⟩
def Held (W w : World) (L : Lay) (D : Dv) : Prop := (∃ ok, DV w ok L D) ∧ Below W.heap.size W w ∧ ∀ k, L.S k → W.heap.size ≤ k
theorem Held.below {W w w' : World} {L : Lay} {D : Dv} (h : Held W w L D) (hb : Below w.heap.size w w') : Held W w' L D := by
  obtain ⟨⟨ok, hD⟩, h2, h3⟩ := h
  exact ⟨⟨ok, hD.below hb⟩, below_then h2 h2.size hb, h3⟩
theorem Held.turn {W w w' : World} {L : Lay} {D D' : Dv} {ok' : Nat → Prop} (h : Held W w L D) (hD : DV w' ok' L D') (hT : Turn w w' L.S) : Held W w' L D' :=
  ⟨⟨ok', hD⟩, hT.to_below h.2.1 h.2.1.size h.2.2, h.2.2⟩
theorem Held.lt {W w : World} {L : Lay} {D : Dv} (h : Held W w L D) : ∀ k, L.S k → k < w.heap.size := by obtain ⟨⟨ok, hD⟩, _, _⟩ := h; exact hD.lt
theorem held_new {W w w' : World} {B P C : Int} {bad : List Int} {fs : List Flt} {e : Ending} (h : NewTo w B P C bad fs e w') (h0 : Below W.heap.size W w) (hg : rightG B P C = true) : ∃ L : Lay, e = .returned (.tuple #[.pointer (some ⟨L.g, 0, none⟩), .int .i64 0]) ∧ Held W w' L (newDv B P C bad fs) := by
  obtain ⟨L, e1, hD, hL⟩ := h.2.1 hg
  exact ⟨L, e1, ⟨_, hD⟩, below_then h0 h0.size h.1, fun k hk => Nat.le_trans h0.size (hL k (.inl hk))⟩
theorem held_prog {W w : World} {L : Lay} {D : Dv} {okl : Nat → Prop} (h : Held W w L D) (b p : Int) (l : List Int) (A : Option Addr) (c : Nat) (hc : l.length ≤ c) (hl : isBytes l) (gl : Kd.F (Kd.int .u8) w okl A l.length l) (hno : ∀ k, okl k → k < w.heap.size → ¬ L.S k) :
    Calls Try.prog 17 #[.pointer (some ⟨L.g, 0, none⟩), .agg #[.int .i64 b, .int .i64 p], .slice A l.length c] w fun e w' => e = .returned (.int .i64 (D.prog b p l).1) ∧ Held W w' L (D.prog b p l).2 ∧ Turn w w' L.S := by
  obtain ⟨ok, hD⟩ := h.1
  refine (program_calls hD b p l A c hc hl gl hno).mono ?_
  rintro e w' ⟨rfl, h1, h2⟩
  exact ⟨rfl, h.turn h1 h2, h2⟩
theorem held_erase {W w : World} {L : Lay} {D : Dv} (h : Held W w L D) (b : Int) :
    Calls Try.prog 16 #[.pointer (some ⟨L.g, 0, none⟩), .int .i64 b] w fun e w' => e = .returned (.int .i64 (D.erase b).1) ∧ Held W w' L (D.erase b).2 ∧ Turn w w' L.S := by
  obtain ⟨ok, hD⟩ := h.1
  refine (erase_calls hD b).mono ?_
  rintro e w' ⟨rfl, h1, h2⟩
  exact ⟨rfl, h.turn h1 h2, h2⟩
theorem held_power {W w : World} {L : Lay} {D : Dv} (h : Held W w L D) :
    Calls Try.prog 19 #[.pointer (some ⟨L.g, 0, none⟩)] w fun e w' => e = .returned (.tuple #[]) ∧ Held W w' L D.power ∧ Turn w w' L.S := by
  obtain ⟨ok, hD⟩ := h.1
  refine (power_calls hD).mono ?_
  rintro e w' ⟨rfl, h1, h2⟩
  exact ⟨rfl, h.turn h1 h2, h2⟩
theorem Held.dv {W w : World} {L : Lay} {D : Dv} (h : Held W w L D) : ∃ ok, DV w ok L D := h.1
def zs : List Int := List.replicate 256 0
def aF : Flt := ⟨1, 2, [15]⟩
def a0 : Dv := newDv 8 4 0 [3] [aF]
def a1 : Dv := (a0.prog 2 1 zs).2
def a2 : Dv := (a1.prog 2 0 zs).2
def a3 : Dv := (a2.prog 2 1 zs).2
def a4 : Dv := a3.power
theorem aw1 : (a0.prog 2 1 zs).1 = 11 := by decide +kernel
theorem aw2 : (a1.prog 2 0 zs).1 = 0 := by decide +kernel
theorem aw3 : (a2.prog 2 1 zs).1 = 9 := by decide +kernel
theorem aw4 : a3.down = true := by decide +kernel
theorem aw5 : (a4.read 2 1).2 = 0 := by decide +kernel
theorem aw6 : ((a4.read 2 1).1)[0]? = some 240 := by decide +kernel
theorem aw7 : (a4.there 3 && a4.mark 3) = true := by decide +kernel
theorem aw8 : a4.nextOf 2 = 2 := by decide +kernel
theorem aw9 : a4.ops = 2 := by decide +kernel
theorem aw10 : (a4.erase 3).1 = 12 := by decide +kernel
set_option maxHeartbeats 2000000 in
set_option maxRecDepth 100000 in
theorem awake_calls (W : World) : Calls Try.prog 13 #[] W fun e w' => e = .returned (.bool true) ∧ Below W.heap.size W w' := by
  have hz1 := heap_alloc_new W (.cells #[.int .i64 3] 3)
  have hb1 := below_alloc (Below.refl W.heap.size W) (.cells #[.int .i64 3] 3)
  generalize hW1 : W.alloc (.cells #[.int .i64 3] 3) = W1 at hz1 hb1
  have hz2 := heap_alloc_new W1 (.cells #[.int .u8 15] 5)
  have hb2 := below_alloc hb1 (.cells #[.int .u8 15] 5)
  have hz1' := blk_alloc hz1 (.cells #[.int .u8 15] 5)
  generalize hW2 : W1.alloc (.cells #[.int .u8 15] 5) = W2 at hz2 hb2 hz1'
  have hz3 := heap_alloc_new W2 (.cells #[.int .i64 1, .int .i64 2, .slice (some ⟨W1.heap.size, 0, none⟩) 1 1] 65)
  have hb3 := below_alloc hb2 (.cells #[.int .i64 1, .int .i64 2, .slice (some ⟨W1.heap.size, 0, none⟩) 1 1] 65)
  have hz1'' := blk_alloc hz1' (.cells #[.int .i64 1, .int .i64 2, .slice (some ⟨W1.heap.size, 0, none⟩) 1 1] 65)
  have hz2' := blk_alloc hz2 (.cells #[.int .i64 1, .int .i64 2, .slice (some ⟨W1.heap.size, 0, none⟩) 1 1] 65)
  have hs1 : W1.heap.size = W.heap.size + 1 := by rw [← hW1]; simp
  have hs2 : W2.heap.size = W.heap.size + 1 + 1 := by rw [← hW2]; simp [hs1]
  have HNW := Aside0.mk (new_calls 8 4 0 [3] [aF] (some ⟨W.heap.size, 0, none⟩) (some ⟨W2.heap.size, 0, none⟩) 1 1 (lit1_int hz1'') (lit1_fault (x := aF) hz3 (Nat.le_refl _) (lit1_int hz2')) (by decide) (by decide) (fun f hf => by
    rw [List.mem_singleton.1 hf]; decide))
  rw [hs2] at HNW
  have HB3 := Aside0.mk hb3
  subst hW2
  subst hW1
  rw [hs1] at HNW HB3
  clear hz1 hb1 hz2 hb2 hz1' hz3 hb3 hz1'' hz2' hs1 hs2
  go_enter Try.func13, Try.ntmps13
  go_upto_region 2 with (go_at_call 14; refine HNW.out.mono ?_; rintro e w3 hnw; obtain ⟨L, rfl, hD⟩ := held_new hnw HB3.out (by decide); have HD := Aside0.mk hD; clear hnw hD)
  replace HD : Aside0 (Held W w3 L a0) := ⟨HD.out⟩
  clear HNW HB3
  go_upto_region 5 with (at_make; refine Kd.R_make (Kd.int .u8) (w0 := w3) w3.heap.size 5 rfl rfl 38 _ _ rfl 256 rfl rfl Try.underlying38 (.int .u8 0) 1 (by kernel_rfl) rfl (by decide) (by decide) 0 (ok := fun k => w3.heap.size ≤ k) (okp := fun _ => False) rfl (fun k hk => hk.elim) (Nat.le_refl _) (by decide) (by decide) (Below.refl _ _) (Nat.le_refl _) ?_; intro v1 w4 hR4 hb4 hg4 hat4; have HR4 := Aside0.mk (And.intro hR4 hb4); clear hR4 hb4 hg4 hat4)
  have H4 := Aside0.mk (HD.out.below HR4.out.2)
  obtain ⟨z, hz⟩ : ∃ z, z = zs := ⟨_, rfl⟩
  have hR : Kd.R (Kd.int .u8) 5 w4 w3.heap.size (fun k => w3.heap.size ≤ k) v1 z := by rw [hz]; exact HR4.out.1
  obtain ⟨A, c, rfl, hc, _⟩ := Kd.R_reads hR
  have HZ : Aside0 (z.length ≤ c ∧ isBytes z ∧ z = zs) := ⟨hc, by rw [hz]; exact fun x hx => by obtain ⟨_, rfl⟩ := List.mem_replicate.1 hx; omega, hz⟩
  have F4 := Aside0.mk (Kd.R_F hR)
  have HNO : Aside0 (∀ k, w3.heap.size ≤ k → ¬ L.S k) := ⟨fun k hk hS => by have := HD.out.lt k hS; omega⟩
  have HP := Aside0.mk (held_prog H4.out 2 1 z A c HZ.out.1 HZ.out.2.1 F4.out (fun k hk _ => HNO.out k hk))
  clear hz hR hc HR4 HD
  go_upto_region 6 with (go_at_call 17; refine HP.out.mono ?_; rintro e w5 ⟨rfl, hD, hT⟩; have H5 := Aside0.mk hD; have F5 := Aside0.mk (F_turn F4.out hT (fun k hk _ => HNO.out k hk)); clear hD hT)
  clear HP H4 F4
  replace H5 : Aside0 (Held W w5 L a1) := ⟨by have := H5.out; rwa [HZ.out.2.2] at this⟩
  have HP := Aside0.mk (held_prog H5.out 2 0 z A c HZ.out.1 HZ.out.2.1 F5.out (fun k hk _ => HNO.out k hk))
  go_upto_region 7 with (go_at_call 17; refine HP.out.mono ?_; rintro e w6 ⟨rfl, hD, hT⟩; have H6 := Aside0.mk hD; have F6 := Aside0.mk (F_turn F5.out hT (fun k hk _ => HNO.out k hk)); clear hD hT)
  clear HP H5 F5
  replace H6 : Aside0 (Held W w6 L a2) := ⟨by have := H6.out; rwa [HZ.out.2.2] at this⟩
  have HP := Aside0.mk (held_prog H6.out 2 1 z A c HZ.out.1 HZ.out.2.1 F6.out (fun k hk _ => HNO.out k hk))
  go_upto_region 8 with (go_at_call 17; refine HP.out.mono ?_; rintro e w7 ⟨rfl, hD, hT⟩; have H7 := Aside0.mk hD; clear hD hT)
  clear HP H6 F6
  replace H7 : Aside0 (Held W w7 L a3) := ⟨by have := H7.out; rwa [HZ.out.2.2] at this⟩
  rw [show (a0.prog 2 1 z).1 = 11 by rw [HZ.out.2.2]; exact aw1, show (a1.prog 2 0 z).1 = 0 by rw [HZ.out.2.2]; exact aw2, show (a2.prog 2 1 z).1 = 9 by rw [HZ.out.2.2]; exact aw3]
  obtain ⟨ok7, hD7⟩ := H7.out.dv
  have HDN := Aside0.mk (down_calls hD7)
  rw [aw4] at HDN
  clear hD7
  go_upto_region 9 with (go_at_call 29; refine HDN.out.mono ?_; rintro e w8 ⟨rfl, hb⟩; have H8 := Aside0.mk (H7.out.below hb); clear hb)
  have HPW := Aside0.mk (held_power H8.out)
  go_upto_region 10 with (go_at_call 19; refine HPW.out.mono ?_; rintro e w9 ⟨rfl, hD, hT⟩; have H9 : Aside0 (Held W w9 L a4) := ⟨hD⟩; clear hD hT)
  obtain ⟨ok9, hD9⟩ := H9.out.dv
  have HRD := Aside0.mk (read_calls hD9 2 1)
  obtain ⟨rd, hrd⟩ : ∃ r, r = a4.read 2 1 := ⟨_, rfl⟩
  rw [← hrd] at HRD
  have HR6 : Aside0 (rd.2 = 0 ∧ rd.1[0]? = some 240) := ⟨by rw [hrd]; exact aw5, by rw [hrd]; exact aw6⟩
  clear hD9 hrd H7 H8 HDN HPW
  go_upto_region 11 with (go_at_call 21; refine HRD.out.mono ?_; rintro e w10 ⟨A6, c6, rfl, hc6, hF6, hb⟩; have H10 := Aside0.mk (H9.out.below hb); have F6 := Aside0.mk (Kd.F_now hF6); clear hc6 hF6 hb)
  obtain ⟨ok10, hD10⟩ := H10.out.dv
  have HM := Aside0.mk (marked_calls hD10 3)
  rw [aw7] at HM
  obtain ⟨l6, hl6⟩ : ∃ l, l = rd.1 := ⟨_, rfl⟩
  rw [← hl6] at F6 HR6 ⊢
  rw [HR6.out.1]
  have hlt : 0 < l6.length := (List.getElem?_eq_some_iff.1 HR6.out.2).1
  obtain ⟨ad, cs, rfl, hcl, hK, hcc⟩ := Kd.C_get F6.out 0 0 (by omega) (by omega)
  have x0 : w10.cell? ad = some (.int .u8 240) := by
    have hk : cs = [.int .u8 (l6.getD (0 : Int).toNat 0)] := hK
    have h6 : l6.getD (0 : Int).toNat 0 = 240 := by show l6.getD 0 0 = 240; rw [List.getD_eq_getElem?_getD, HR6.out.2]; rfl
    rw [h6] at hk
    subst hk
    have h7 : w10.cell? (ad.add 0) = some (.int .u8 240) := hcc 0 _ rfl
    have e7 : ad.add 0 = ad := by obtain ⟨b, o, y⟩ := ad; unfold Addr.add; split <;> simp_all
    rwa [e7] at h7
  have q1 := eq_true (show (0 : Int) < (l6.length : Int) by omega)
  have q2 := eq_true hlt
  have HX := Aside0.mk (fun w (h : Held W w L a4) => h.dv)
  clear hl6 hlt hcl hK hcc hD10 F6 HR6 H9 HRD HZ HNO
  go_wp2_with (first | (go_at_call 30; refine HM.out.mono ?_; rintro e w11 ⟨rfl, hb⟩; have H11 := Aside0.mk (H10.out.below hb); clear hb; obtain ⟨ok11, hD11⟩ := H11.out.dv; have HN := Aside0.mk (next_calls hD11 2); rw [aw8] at HN; clear hD11 x0 q1 q2) | (go_at_call 15; refine HN.out.mono ?_; rintro e w12 ⟨rfl, hb⟩; have H12 := Aside0.mk (H11.out.below hb); clear hb; obtain ⟨ok12, hD12⟩ := H12.out.dv; have HO := Aside0.mk (ops_calls hD12); rw [aw9] at HO; clear hD12) | (go_at_call 32; refine HO.out.mono ?_; rintro e w13 ⟨rfl, hb⟩; have H13 := Aside0.mk (H12.out.below hb); clear hb; have HE := Aside0.mk (held_erase H13.out 3); rw [aw10] at HE) | (go_at_call 16; refine HE.out.mono ?_; rintro e w14 ⟨rfl, hD, hT⟩; have H14 := Aside0.mk hD.2.1; clear hD hT))
  go_ret
  exact ⟨rfl, H14.out⟩
end Go.Proofs.Ytnchdmidaigheaa.ND
namespace Go.Proofs.Ytnchdmidaigheaa.ND
set_option linter.unusedVariables false
set_option linter.unusedSimpArgs false
open Go.RowKit Go.Proofs.Ytnchdmidaigheaa.Hp Go.Proofs.YtnchdmidaigheaaW.PrintWords Go.Proofs.YtnchdmidaigheaaW.PrintLast Go.Proofs.YtnchdmidaigheaaW.PrintMore
theorem two_xprog {W w : World} {L : Lay} {X : XLay} {D E : Dv} (h : Two W w L X D E) {okl : Nat → Prop} (b p : Int) (l : List Int) (A : Option Addr) (c : Nat) (hc : l.length ≤ c) (hl : isBytes l) (gl : Kd.F (Kd.int .u8) w okl A l.length l) (hno : ∀ k, okl k → k < w.heap.size → ¬ X.S k) :
    Calls Try.prog 25 #[.pointer (some ⟨X.g, 0, none⟩), .agg #[.int .i64 b, .int .i64 p], .slice A l.length c] w fun e w' => e = .returned (.int .i64 (E.prog b p l).1) ∧ Two W w' L X D (E.prog b p l).2 ∧ Turn w w' X.S := by
  obtain ⟨okx, h2⟩ := h.right
  have hlt := h.lt
  obtain ⟨ok, okx, h1, h2, h3, h4, h5, h6⟩ := h
  refine (xprogram_calls h2 b p l A c hc hl gl hno).mono ?_
  rintro e w' ⟨rfl, hX, hT⟩
  exact ⟨rfl, ⟨ok, okx, h1.turn hT h3, hX, fun k hk _ hx => h3 k hk (hlt k (.inr hx)) hx, fun k hk _ hL => h4 k hk (hlt k (.inl hL)) hL, hT.to_below h5 h5.size (fun k hk => h6 k (.inr hk)), h6⟩, hT⟩
theorem two_xerase {W w : World} {L : Lay} {X : XLay} {D E : Dv} (h : Two W w L X D E) (b : Int) :
    Calls Try.prog 26 #[.pointer (some ⟨X.g, 0, none⟩), .int .i64 b] w fun e w' => e = .returned (.int .i64 (E.erase b).1) ∧ Two W w' L X D (E.erase b).2 ∧ Turn w w' X.S := by
  have hlt := h.lt
  obtain ⟨ok, okx, h1, h2, h3, h4, h5, h6⟩ := h
  refine (xerase_calls h2 b).mono ?_
  rintro e w' ⟨rfl, hX, hT⟩
  exact ⟨rfl, ⟨ok, okx, h1.turn hT h3, hX, fun k hk _ hx => h3 k hk (hlt k (.inr hx)) hx, fun k hk _ hL => h4 k hk (hlt k (.inl hL)) hL, hT.to_below h5 h5.size (fun k hk => h6 k (.inr hk)), h6⟩, hT⟩
theorem two_power {W w : World} {L : Lay} {X : XLay} {D E : Dv} (h : Two W w L X D E) :
    Calls Try.prog 19 #[.pointer (some ⟨L.g, 0, none⟩)] w fun e w' => e = .returned (.tuple #[]) ∧ Two W w' L X D.power E ∧ Turn w w' L.S := by
  have hlt := h.lt
  obtain ⟨ok, okx, h1, h2, h3, h4, h5, h6⟩ := h
  refine (power_calls h1).mono ?_
  rintro e w' ⟨rfl, hD, hT⟩
  exact ⟨rfl, ⟨ok, okx, hD, h2.turn hT h4, fun k hk _ hx => h3 k hk (hlt k (.inr hx)) hx, fun k hk _ hL => h4 k hk (hlt k (.inl hL)) hL, hT.to_below h5 h5.size (fun k hk => h6 k (.inl hk)), h6⟩, hT⟩
theorem two_new {W w0 w1 w2 : World} {L : Lay} {X : XLay} {D : Dv} {okb : Nat → Prop} (h0 : Below W.heap.size W w0) (hD : DV w1 (fun k => w0.heap.size ≤ k ∧ ¬ L.S k) L D) (hb1 : Below w0.heap.size w0 w1) (hL : ∀ k, L.S k ∨ k = L.gm → w0.heap.size ≤ k)
    (hb2 : Below w1.heap.size w1 w2) (hX : XV w2 (fun k => okb k ∧ k < w1.heap.size) X D) (hXS : ∀ k, X.S k → w1.heap.size ≤ k) (hob : ∀ k, okb k → k < W.heap.size) : Two W w2 L X D D := by
  have hlL := hD.lt
  refine ⟨_, _, hD.bound.below hb2, hX, fun k hk _ hx => ?_, fun k hk _ hl => ?_, below_then (below_then h0 h0.size hb1) (below_then h0 h0.size hb1).size hb2, fun k hk => ?_⟩
  · have h1 := hXS k hx
    rcases hk with hk | hk | hk
    · have := hk.2; omega
    · have := hlL k hk; omega
    · have := hD.mb.lt; rw [hk] at h1; omega
  · rcases hk with hk | hk
    · have h1 := hob k hk.1; have h2 := hL k (.inl hl); have := h0.size; omega
    · have h1 := hXS k hk; have := hlL k hl; omega
  · rcases hk with hk | hk
    · exact Nat.le_trans h0.size (hL k (.inl hk))
    · exact Nat.le_trans (Nat.le_trans h0.size hb1.size) (hXS k hk)
theorem prog_B (D : Dv) (b p : Int) (l : List Int) : (D.prog b p l).2.B = D.B := by unfold Dv.prog; split; rfl; split; rfl; split; rfl; split <;> rfl
theorem erase_B (D : Dv) (b : Int) : (D.erase b).2.B = D.B := by unfold Dv.erase; split; rfl; split; rfl; split <;> rfl
def dvI (x : Bool) (D D' : Dv) : Dv := if x then D' else D
theorem put2 {g N : Nat} {w0 W : World} {y0 y1 : Value} (a b : Int) (hz : W.heap[g]? = some (.cells #[y0, y1] 37 (0, 0))) (hN : N ≤ g) (hb2 : Below N w0 W) :
    Below N w0 ((W.setCell ⟨g, 0, none⟩ (.int .i64 a)).setCell ⟨g, 1, none⟩ (.int .i64 b)) ∧
    ((W.setCell ⟨g, 0, none⟩ (.int .i64 a)).setCell ⟨g, 1, none⟩ (.int .i64 b)).heap[g]? = some (.cells #[.int .i64 a, .int .i64 b] 37 (0, 0)) := by
  have h0 := blk_put hz 0 (.int .i64 a) (cs' := #[.int .i64 a, y1]) rfl
  have h1 := blk_put h0 1 (.int .i64 b) (cs' := #[.int .i64 a, .int .i64 b]) rfl
  exact ⟨(hb2.setCell (p := ⟨g, 0, none⟩) hN _).setCell (p := ⟨g, 1, none⟩) hN _, h1⟩
def does6.T6 : Bool × List (List Nat × List Nat) := (true, [([], []), ([0], [0]), ([1], [1]), ([2], [2]), ([3, 2], [2, 3]), ([2, 4], [2, 4]), ([5, 2], [5]), ([6], [6]), ([7, 6, 6], [6, 7]), ([6], [6]), ([9, 6], [6, 9]), ([8, 10, 6], [6, 8, 10]), ([6, 11], [6, 11])])
def does6.B6 : List Nat := [0, 1, 3, 7, 15, 31, 63, 127, 255, 127, 639, 2047, 4095]
theorem does6.tab6 : rtab .any (opsOf Try.f4 6) = does6.T6 := by kernel_rfl
theorem does6.bits6 : waitsOk does6.T6.2 does6.B6 = true := by kernel_rfl
def does17.T17 : Bool × List (List Nat × List Nat) := (true, [([], []), ([0], [0]), ([], []), ([2], [2]), ([3], [3]), ([4], [4]), ([], []), ([6], [6]), ([5, 7], [5, 7]), ([8], [8]), ([1, 9], [1, 9]), ([10, 0, 1, 2, 3, 4, 5, 6, 7, 8, 9, 10], [10])])
def does17.B17 : List Nat := [0, 1, 0, 4, 12, 28, 0, 64, 252, 508, 1023, 2047]
theorem does17.tab17 : rtab .any (opsOf Try.f4 17) = does17.T17 := by kernel_rfl
theorem does17.bits17 : waitsOk does17.T17.2 does17.B17 = true := by kernel_rfl
def does25.T25 : Bool × List (List Nat × List Nat) := (true, [([], []), ([], []), ([], []), ([2], [2]), ([3], [3]), ([0, 1, 4, 4], [0, 1, 4]), ([], []), ([], []), ([], []), ([8], [8]), ([9, 5], [9]), ([6, 7, 10, 10], [6, 7, 10]), ([5, 11], [5, 11]), ([12, 11, 0, 1, 2, 3, 4, 5, 6, 7, 8, 9, 10, 11, 12], [12])])
def does25.B25 : List Nat := [0, 0, 0, 4, 12, 31, 0, 0, 0, 256, 831, 2047, 4095, 8191]
theorem does25.tab25 : rtab .any (opsOf Try.f4 25) = does25.T25 := by kernel_rfl
theorem does25.bits25 : waitsOk does25.T25.2 does25.B25 = true := by kernel_rfl
def does27.T27 : Bool × List (List Nat × List Nat) := (true, [([], []), ([], []), ([1], [1]), ([0, 2], [0, 2]), ([], []), ([], []), ([5], [5]), ([4, 6, 3], [4, 6]), ([3, 7], [3, 7]), ([8, 7, 0, 1, 2, 3, 4, 5, 6, 7, 8], [8])])
def does27.B27 : List Nat := [0, 0, 2, 7, 0, 0, 32, 127, 255, 511]
theorem does27.tab27 : rtab .any (opsOf Try.f4 27) = does27.T27 := by kernel_rfl
theorem does27.bits27 : waitsOk does27.T27.2 does27.B27 = true := by kernel_rfl
set_option maxHeartbeats 4000000 in
set_option maxRecDepth 100000 in
theorem does_calls {W : World} (B P C : Int) (bad : List Int) (fs : List Flt) (l : List S40) (Ab Af Al : Option Addr) (cb cf cl : Nat) (hb : Kd.C (Kd.int .i64) W Ab bad.length bad) (hcb : bad.length ≤ cb) (hf : Kd.C k65 W Af fs.length fs) (hcf : fs.length ≤ cf) (hl : Kd.C k40 W Al l.length l)
    (hfm : ∀ f ∈ fs, isBytes f.f2) (hlm : ∀ x ∈ l, isBytes x.f2) (hll : l.length ≤ 9223372036854775807) :
    Calls Try.prog 4 #[.agg #[.int .i64 B, .int .i64 P, .int .i64 C, .slice Ab bad.length cb, .slice Af fs.length cf], .slice Al l.length cl] W fun e w' => e = .returned (.bool true) ∧ Below W.heap.size W w' := by
  have HIN := Aside0.mk (And.intro hb (And.intro hcb (And.intro hf (And.intro hcf (And.intro hl (And.intro hfm (And.intro hlm hll)))))))
  have HAW := Aside0.mk awake_calls
  have hz2 := heap_alloc_new W (.cells #[.int .i64 B, .int .i64 P, .int .i64 C, .slice Ab bad.length cb, .slice Af fs.length cf] 27)
  have hb2 := below_alloc (Below.refl W.heap.size W) (.cells #[.int .i64 B, .int .i64 P, .int .i64 C, .slice Ab bad.length cb, .slice Af fs.length cf] 27)
  obtain ⟨g2, hg2⟩ : ∃ g, g = W.heap.size := ⟨_, rfl⟩
  clear hb hcb hf hcf hl hfm hlm hll
  go_enter Try.func4, Try.ntmps4
  go_upto_region 1 with fail
  generalize W.alloc (.cells #[.int .i64 B, .int .i64 P, .int .i64 C, .slice Ab bad.length cb, .slice Af fs.length cf] 27) = W2 at hz2 hb2 ⊢
  rw [← hg2] at hz2 ⊢
  have HG2 := Aside0.mk hg2
  have HZ2 := Aside0.mk hz2
  have HZ2' := Aside0.mk hz2
  have HB2 := Aside0.mk hb2
  have HLI := Aside0.mk (light_calls (W := W2) B P C (Kd.C_below HIN.out.1 hb2) HIN.out.2.1 (Kd.C_below HIN.out.2.2.1 hb2) HIN.out.2.2.2.1)
  have z0 := blk_cell hz2 0
  have z1 := blk_cell hz2 1
  have z2 := blk_cell hz2 2
  have z3 := blk_cell hz2 3
  have z4 := blk_cell hz2 4
  clear hg2 hz2 hb2
  cases hlp : lightP bad fs with
  | false =>
    rw [hlp] at HLI
    clear hlp
    go_wp2_with (first | (go_at_call 11; refine HLI.out.mono ?_; rintro e w3 ⟨rfl, hb⟩; have HB3 := Aside0.mk (below_then HB2.out HB2.out.size hb); clear hb) | (go_at_call 13; refine (HAW.out _).mono ?_; rintro e w4 ⟨rfl, hb⟩; have HB4 := Aside0.mk (below_then HB3.out HB3.out.size hb); clear hb))
    go_ret
    exact ⟨rfl, HB4.out⟩
  | true =>
    have HLP : Aside0 (bad.length ≤ 60 ∧ fs.length ≤ 40 ∧ ∀ f ∈ fs, isBytes f.f2 ∧ f.f2.length ≤ 1000) := by
      unfold lightP at hlp
      simp only [Bool.and_eq_true, decide_eq_true_eq, List.all_eq_true] at hlp
      exact ⟨hlp.1.1, hlp.1.2, fun f hf => ⟨HIN.out.2.2.2.2.2.1 f hf, by have := hlp.2 f hf; omega⟩⟩
    rw [hlp] at HLI
    clear hlp
    go_upto_region 3 with (first | (go_at_call 11; refine HLI.out.mono ?_; rintro e w3 ⟨rfl, hb⟩; have HB23 := Aside0.mk hb; have HB3 := Aside0.mk (below_then HB2.out HB2.out.size hb); have HZ3 := Aside0.mk (blk_below HZ2.out hb); clear hb z0 z1 z2 z3 z4) | (go_at_call 13; refine (HAW.out _).mono ?_; rintro e w4 ⟨rfl, hb⟩; have HB24 := Aside0.mk (below_then HB23.out HB23.out.size hb); have HB4 := Aside0.mk (below_then HB3.out HB3.out.size hb); have HZ4 := Aside0.mk (blk_below HZ3.out hb); clear hb))
    have z0 := blk_cell HZ4.out 0
    have z1 := blk_cell HZ4.out 1
    have z2 := blk_cell HZ4.out 2
    have z3 := blk_cell HZ4.out 3
    have z4 := blk_cell HZ4.out 4
    have HNW := Aside0.mk (new_calls (W := w4) B P C bad fs Ab Af cb cf (Kd.C_below HIN.out.1 HB4.out) (Kd.C_below HIN.out.2.2.1 HB4.out) (by have := HLP.out.1; omega) (by have := HLP.out.2.1; omega) HLP.out.2.2)
    clear HLI HZ2 HB3 HZ3 HB23
    cases hr : rightG B P C with
    | false =>
      have HRG := Aside0.mk hr
      clear hr
      go_upto_region 5 with (first | (go_at_call 14; refine HNW.out.mono ?_; rintro e w5 hnw; obtain rfl := hnw.2.2 HRG.out; have HB5 := Aside0.mk (below_then HB4.out HB4.out.size hnw.1); have HZ5 := Aside0.mk (blk_below HZ4.out hnw.1); clear hnw z0 z1 z2 z3 z4; have z0 := blk_cell HZ5.out 0; have z1 := blk_cell HZ5.out 1; have z2 := blk_cell HZ5.out 2) | (go_at_call 12; refine (right_calls B P C _).mono ?_; rw [HRG.out]; rintro e w6 ⟨rfl, hb⟩; have HB6 := Aside0.mk (below_then HB5.out HB5.out.size hb); clear hb))
      go_wp2_with fail
      go_ret
      exact ⟨rfl, HB6.out⟩
    | true =>
      have HRG := Aside0.mk hr
      clear hr
      go_upto_region 6 with (first | (go_at_call 14; refine HNW.out.mono ?_; rintro e w5 hnw; obtain ⟨L, rfl, hD, hL⟩ := hnw.2.1 HRG.out; have HD5 := Aside0.mk hD; have HL5 := Aside0.mk hL; have HBN := Aside0.mk hnw.1; have HB5 := Aside0.mk (below_then HB4.out HB4.out.size hnw.1); have HZ5 := Aside0.mk (blk_below HZ4.out hnw.1); clear hnw hD hL z0 z1 z2 z3 z4; have z0 := blk_cell HZ5.out 0; have z1 := blk_cell HZ5.out 1; have z2 := blk_cell HZ5.out 2) | (go_at_call 12; refine (right_calls B P C _).mono ?_; rw [HRG.out]; rintro e w6 ⟨rfl, hb⟩; have HB6 := Aside0.mk (below_then HB5.out HB5.out.size hb); have HZ6 := Aside0.mk (blk_below HZ5.out hb); have HBN6 := Aside0.mk (below_then HBN.out HBN.out.size hb); have HD6 := Aside0.mk (HD5.out.below hb); clear hb z0 z1 z2))
      have HSI := Aside0.mk (fun W' (hW : Below w6.heap.size w6 W') => sides_calls (HD6.out.below hW))
      have B0 := Aside0.mk (below_drew1 (Below.refl w6.heap.size w6))
      clear HNW HB4 HZ4 HB5 HZ5 HBN HD5
      refine start_ (n := 13) (S := fun w' => True) (ds := []) #[false, false, false, false, false, false, false, false, false, false, false, false, false] (by kernel_rfl) rfl rfl trivial (fun hHeld => ?_)
      refine with_tabW does6.tab6 does6.bits6 (fun HT_ HW_ => ?_)
      generalize w6.drew = wq at B0 hHeld ⊢
      refine inv_at [0, 1, 2, 3, 4, 5, 6, 7, 8, 9, 10, 11, 12] (fun a0_ b a w' => a = putSel a0_ b [(0, 44, .int .i64 0), (1, 45, .bool false), (2, 46, .bool false), (3, 47, .pointer (some ⟨L.g, 0, none⟩)), (4, 48, .bool false), (5, 49, .bool false), (6, 50, .bool false), (7, 51, .pointer (some ⟨L.g, 0, none⟩)), (8, 52, .agg #[.int .i64 B, .int .i64 P, .int .i64 C]), (9, 53, .pointer (some ⟨g2, 0, none⟩)), (10, 54, .agg #[.int .i64 B, .int .i64 P, .int .i64 C]), (11, 55, .bool false), (12, 56, .bool false)] ∧ (Below w6.heap.size w6 w')) HT_.out HW_.out (by kernel_rfl) (by kernel_rfl) ?_ ?_ ?_
      · exact ⟨by simp only [putSel, Bool.false_eq_true, if_false], B0.out⟩
      · skip
        clear B0
        refine steps_cons ?_ ?_
        · rintro b a w' ⟨ha, Q_B0⟩ hb_ hon hoff
          refine ⟨_, rfl, fun K hK => ?_⟩
          have e6 : a.tmps[6]? = some (.int .i64 0) := by rw [ha]; exact (putSel_off rfl).trans rfl
          replace ha := Aside0.mk ha
          have B0 := Aside0.mk Q_B0
          refine value_ (w1 := w') (v := .int .i64 0) (by rfl) rfl ?_ ?_
          · go_simp
            (try simp only [i64_w])
            try rfl
          refine hK.out _ _ ⟨(by rw [ha.out]; exact putSel_upk 0 hb_ rfl rfl rfl), Q_B0⟩
        refine steps_cons ?_ ?_
        · rintro b a w' ⟨ha, Q_B0⟩ hb_ hon hoff
          refine ⟨_, rfl, fun K hK => ?_⟩
          have e44 : a.tmps[44]? = some (.int .i64 0) := by rw [ha]; exact putSel_on (e := (0, 44, .int .i64 0)) 0 rfl rfl (hon 0 (by kernel_rfl)) rfl
          replace ha := Aside0.mk ha
          have B0 := Aside0.mk Q_B0
          refine value_ (w1 := w') (v := .bool false) (by rfl) rfl ?_ ?_
          · go_simp
            (try simp only [i64_w])
            try rfl
          refine hK.out _ _ ⟨(by rw [ha.out]; exact putSel_upk 1 hb_ rfl rfl rfl), Q_B0⟩
        refine steps_cons ?_ ?_
        · rintro b a w' ⟨ha, Q_B0⟩ hb_ hon hoff
          refine ⟨_, rfl, fun K hK => ?_⟩
          have e45 : a.tmps[45]? = some (.bool false) := by rw [ha]; exact putSel_on (e := (1, 45, .bool false)) 1 rfl rfl (hon 1 (by kernel_rfl)) rfl
          replace ha := Aside0.mk ha
          have B0 := Aside0.mk Q_B0
          refine value_ (w1 := w') (v := .bool false) (by rfl) rfl ?_ ?_
          · go_simp
            (try simp only [i64_w])
            try rfl
          refine hK.out _ _ ⟨(by rw [ha.out]; exact putSel_upk 2 hb_ rfl rfl rfl), Q_B0⟩
        refine steps_cons ?_ ?_
        · rintro b a w' ⟨ha, Q_B0⟩ hb_ hon hoff
          refine ⟨_, rfl, fun K hK => ?_⟩
          have e5 : a.tmps[5]? = some (.pointer (some ⟨L.g, 0, none⟩)) := by rw [ha]; exact (putSel_off rfl).trans rfl
          have e46 : a.tmps[46]? = some (.bool false) := by rw [ha]; exact putSel_on (e := (2, 46, .bool false)) 2 rfl rfl (hon 2 (by kernel_rfl)) rfl
          replace ha := Aside0.mk ha
          have B0 := Aside0.mk Q_B0
          refine value_ (w1 := w') (v := .pointer (some ⟨L.g, 0, none⟩)) (wanted_on rfl rfl rfl (e46.trans (by first | rfl | (simp [*]; done)))) rfl ?_ ?_
          · go_simp
            (try simp only [i64_w])
            try rfl
          refine hK.out _ _ ⟨(by rw [ha.out]; exact putSel_upk 3 hb_ rfl rfl rfl), Q_B0⟩
        refine steps_cons ?_ ?_
        · rintro b a w' ⟨ha, Q_B0⟩ hb_ hon hoff
          refine ⟨_, rfl, fun K hK => ?_⟩
          have e47 : a.tmps[47]? = some (.pointer (some ⟨L.g, 0, none⟩)) := by rw [ha]; exact putSel_on (e := (3, 47, .pointer (some ⟨L.g, 0, none⟩))) 3 rfl rfl (hon 3 (by kernel_rfl)) rfl
          have e46 : a.tmps[46]? = some (.bool false) := by rw [ha]; exact putSel_on (e := (2, 46, .bool false)) 2 rfl rfl (hon 2 (by kernel_rfl)) rfl
          replace ha := Aside0.mk ha
          have B0 := Aside0.mk Q_B0
          refine value_ (w1 := w') (v := .bool false) (wanted_on rfl rfl rfl (e46.trans (by first | rfl | (simp [*]; done)))) rfl ?_ ?_
          · go_simp
            (try simp only [i64_w])
            try rfl
          refine hK.out _ _ ⟨(by rw [ha.out]; exact putSel_upk 4 hb_ rfl rfl rfl), Q_B0⟩
        refine steps_cons ?_ ?_
        · rintro b a w' ⟨ha, Q_B0⟩ hb_ hon hoff
          refine ⟨_, rfl, fun K hK => ?_⟩
          have e46 : a.tmps[46]? = some (.bool false) := by rw [ha]; exact putSel_on (e := (2, 46, .bool false)) 2 rfl rfl (hon 2 (by kernel_rfl)) rfl
          have e48 : a.tmps[48]? = some (.bool false) := by rw [ha]; exact putSel_on (e := (4, 48, .bool false)) 4 rfl rfl (hon 4 (by kernel_rfl)) rfl
          replace ha := Aside0.mk ha
          have B0 := Aside0.mk Q_B0
          refine value_ (w1 := w') (v := .bool false) (by rfl) rfl ?_ ?_
          · go_simp
            (try simp only [i64_w])
            try rfl
          refine hK.out _ _ ⟨(by rw [ha.out]; exact putSel_upk 5 hb_ rfl rfl rfl), Q_B0⟩
        refine steps_cons ?_ ?_
        · rintro b a w' ⟨ha, Q_B0⟩ hb_ hon hoff
          refine ⟨_, rfl, fun K hK => ?_⟩
          have e49 : a.tmps[49]? = some (.bool false) := by rw [ha]; exact putSel_on (e := (5, 49, .bool false)) 5 rfl rfl (hon 5 (by kernel_rfl)) rfl
          replace ha := Aside0.mk ha
          have B0 := Aside0.mk Q_B0
          refine value_ (w1 := w') (v := .bool false) (by rfl) rfl ?_ ?_
          · go_simp
            (try simp only [i64_w])
            try rfl
          refine hK.out _ _ ⟨(by rw [ha.out]; exact putSel_upk 6 hb_ rfl rfl rfl), Q_B0⟩
        refine steps_cons ?_ ?_
        · rintro b a w' ⟨ha, Q_B0⟩ hb_ hon hoff
          refine ⟨_, rfl, fun K hK => ?_⟩
          have e5 : a.tmps[5]? = some (.pointer (some ⟨L.g, 0, none⟩)) := by rw [ha]; exact (putSel_off rfl).trans rfl
          have e50 : a.tmps[50]? = some (.bool false) := by rw [ha]; exact putSel_on (e := (6, 50, .bool false)) 6 rfl rfl (hon 6 (by kernel_rfl)) rfl
          replace ha := Aside0.mk ha
          have B0 := Aside0.mk Q_B0
          refine value_ (w1 := w') (v := .pointer (some ⟨L.g, 0, none⟩)) (wanted_on rfl rfl rfl (e50.trans (by first | rfl | (simp [*]; done)))) rfl ?_ ?_
          · go_simp
            (try simp only [i64_w])
            try rfl
          refine hK.out _ _ ⟨(by rw [ha.out]; exact putSel_upk 7 hb_ rfl rfl rfl), Q_B0⟩
        refine steps_cons ?_ ?_
        · rintro b a w' ⟨ha, Q_B0⟩ hb_ hon hoff
          refine ⟨_, rfl, fun K hK => ?_⟩
          have e51 : a.tmps[51]? = some (.pointer (some ⟨L.g, 0, none⟩)) := by rw [ha]; exact putSel_on (e := (7, 51, .pointer (some ⟨L.g, 0, none⟩))) 7 rfl rfl (hon 7 (by kernel_rfl)) rfl
          have e50 : a.tmps[50]? = some (.bool false) := by rw [ha]; exact putSel_on (e := (6, 50, .bool false)) 6 rfl rfl (hon 6 (by kernel_rfl)) rfl
          replace ha := Aside0.mk ha
          have B0 := Aside0.mk Q_B0
          refine goes_ Try.func23 (by kernel_rfl) rfl #[.pointer (some ⟨L.g, 0, none⟩)] (wanted_on rfl rfl rfl (e50.trans rfl)) rfl rfl (by first | (simp only [List.map_toArray, List.map_cons, List.map_nil, Act.eval, Array.getD_eq_getD_getElem?, Option.getD_some, e51, e50]; done) | (simp only [List.map_toArray, List.map_cons, List.map_nil, Act.eval, Array.getD_eq_getD_getElem?, Option.getD_some, e51, e50]; rfl)) ?_
          with_reducible refine (HSI.out _ B0.out).mono ?_
          rintro e w2 ⟨rfl, hb⟩
          refine ⟨_, rfl, ?_⟩
          refine hK.out _ _ ⟨(by rw [ha.out]; exact putSel_upk 8 hb_ rfl rfl rfl), below_then B0.out B0.out.size hb⟩
        refine steps_cons ?_ ?_
        · rintro b a w' ⟨ha, Q_B0⟩ hb_ hon hoff
          refine ⟨_, rfl, fun K hK => ?_⟩
          have e2 : a.tmps[2]? = some (.pointer (some ⟨g2, 0, none⟩)) := by rw [ha]; exact (putSel_off rfl).trans rfl
          have e50 : a.tmps[50]? = some (.bool false) := by rw [ha]; exact putSel_on (e := (6, 50, .bool false)) 6 rfl rfl (hon 6 (by kernel_rfl)) rfl
          replace ha := Aside0.mk ha
          have B0 := Aside0.mk Q_B0
          refine value_ (w1 := w') (v := .pointer (some ⟨g2, 0, none⟩)) (wanted_on rfl rfl rfl (e50.trans (by first | rfl | (simp [*]; done)))) rfl ?_ ?_
          · go_simp
            (try simp only [i64_w])
            try rfl
          refine hK.out _ _ ⟨(by rw [ha.out]; exact putSel_upk 9 hb_ rfl rfl rfl), Q_B0⟩
        refine steps_cons ?_ ?_
        · rintro b a w' ⟨ha, Q_B0⟩ hb_ hon hoff
          refine ⟨_, rfl, fun K hK => ?_⟩
          have e53 : a.tmps[53]? = some (.pointer (some ⟨g2, 0, none⟩)) := by rw [ha]; exact putSel_on (e := (9, 53, .pointer (some ⟨g2, 0, none⟩))) 9 rfl rfl (hon 9 (by kernel_rfl)) rfl
          have e50 : a.tmps[50]? = some (.bool false) := by rw [ha]; exact putSel_on (e := (6, 50, .bool false)) 6 rfl rfl (hon 6 (by kernel_rfl)) rfl
          replace ha := Aside0.mk ha
          have B0 := Aside0.mk Q_B0
          have c0_ := blk_cell (blk_below HZ6.out B0.out) 0
          have c1_ := blk_cell (blk_below HZ6.out B0.out) 1
          have c2_ := blk_cell (blk_below HZ6.out B0.out) 2
          refine value_ (w1 := w') (v := .agg #[.int .i64 B, .int .i64 P, .int .i64 C]) (wanted_on rfl rfl rfl (e50.trans (by first | rfl | (simp [*]; done)))) rfl ?_ ?_
          · go_simp
            (try simp only [i64_w])
            try rfl
          refine hK.out _ _ ⟨(by rw [ha.out]; exact putSel_upk 10 hb_ rfl rfl rfl), Q_B0⟩
        refine steps_cons ?_ ?_
        · rintro b a w' ⟨ha, Q_B0⟩ hb_ hon hoff
          refine ⟨_, rfl, fun K hK => ?_⟩
          have e52 : a.tmps[52]? = some (.agg #[.int .i64 B, .int .i64 P, .int .i64 C]) := by rw [ha]; exact putSel_on (e := (8, 52, .agg #[.int .i64 B, .int .i64 P, .int .i64 C])) 8 rfl rfl (hon 8 (by kernel_rfl)) rfl
          have e54 : a.tmps[54]? = some (.agg #[.int .i64 B, .int .i64 P, .int .i64 C]) := by rw [ha]; exact putSel_on (e := (10, 54, .agg #[.int .i64 B, .int .i64 P, .int .i64 C])) 10 rfl rfl (hon 10 (by kernel_rfl)) rfl
          have e50 : a.tmps[50]? = some (.bool false) := by rw [ha]; exact putSel_on (e := (6, 50, .bool false)) 6 rfl rfl (hon 6 (by kernel_rfl)) rfl
          replace ha := Aside0.mk ha
          have B0 := Aside0.mk Q_B0
          refine value_ (w1 := w') (v := .bool false) (wanted_on rfl rfl rfl (e50.trans (by first | rfl | (simp [*]; done)))) rfl ?_ ?_
          · go_simp
            (try simp only [i64_w])
            try rfl
          refine hK.out _ _ ⟨(by rw [ha.out]; exact putSel_upk 11 hb_ rfl rfl rfl), Q_B0⟩
        refine steps_cons ?_ ?_
        · rintro b a w' ⟨ha, Q_B0⟩ hb_ hon hoff
          refine ⟨_, rfl, fun K hK => ?_⟩
          have e50 : a.tmps[50]? = some (.bool false) := by rw [ha]; exact putSel_on (e := (6, 50, .bool false)) 6 rfl rfl (hon 6 (by kernel_rfl)) rfl
          have e55 : a.tmps[55]? = some (.bool false) := by rw [ha]; exact putSel_on (e := (11, 55, .bool false)) 11 rfl rfl (hon 11 (by kernel_rfl)) rfl
          replace ha := Aside0.mk ha
          have B0 := Aside0.mk Q_B0
          refine value_ (w1 := w') (v := .bool false) (by rfl) rfl ?_ ?_
          · go_simp
            (try simp only [i64_w])
            try rfl
          refine hK.out _ _ ⟨(by rw [ha.out]; exact putSel_upk 12 hb_ rfl rfl rfl), Q_B0⟩
        exact steps_nil
      rintro b a w7 hall ⟨ha, Q_B0⟩
      clear B0
      have hb0_ := hall 0 (by kernel_rfl)
      have hb1_ := hall 1 (by kernel_rfl)
      have hb2_ := hall 2 (by kernel_rfl)
      have hb3_ := hall 3 (by kernel_rfl)
      have hb4_ := hall 4 (by kernel_rfl)
      have hb5_ := hall 5 (by kernel_rfl)
      have hb6_ := hall 6 (by kernel_rfl)
      have hb7_ := hall 7 (by kernel_rfl)
      have hb8_ := hall 8 (by kernel_rfl)
      have hb9_ := hall 9 (by kernel_rfl)
      have hb10_ := hall 10 (by kernel_rfl)
      have hb11_ := hall 11 (by kernel_rfl)
      have hb12_ := hall 12 (by kernel_rfl)
      subst ha
      simp only [putSel, hb0_, hb1_, hb2_, hb3_, hb4_, hb5_, hb6_, hb7_, hb8_, hb9_, hb10_, hb11_, hb12_, if_true, Act.put, List.setIfInBounds_toArray, List.set_cons_zero, List.set_cons_succ]
      have B0 := Aside0.mk Q_B0
      clear Q_B0
      clear hall hb0_ hb1_ hb2_ hb3_ hb4_ hb5_ hb6_ hb7_ hb8_ hb9_ hb10_ hb11_ hb12_
      have HB7 := Aside0.mk (below_then HB6.out HB6.out.size B0.out)
      have HZ7 := Aside0.mk (blk_below HZ6.out B0.out)
      have HBN7 := Aside0.mk (below_then HBN6.out HBN6.out.size B0.out)
      have HD7 := Aside0.mk (HD6.out.below B0.out)
      have HXN := Aside0.mk (xnew_calls (W := w7) (okb := fun k => k < W.heap.size) B P C bad fs Ab Af cb cf HRG.out (Kd.F_below (Kd.F_mono (Kd.F_below (Kd.C_F (Kd.heap_int _) HIN.out.1) HB7.out) (fun k hk => hk)) (Below.refl _ _)) (Kd.F_mono (Kd.F_below (Kd.C_F (Kd.heap_iso _ (Kd.heap_pair (Kd.heap_int _) (Kd.heap_pair (Kd.heap_int _) (Kd.heap_slice _ (Kd.heap_int _))))) HIN.out.2.2.1) HB7.out) (fun k hk => hk)) HIN.out.2.1 HIN.out.2.2.2.1 (by have := HLP.out.1; omega) (by have := HLP.out.2.1; omega) HLP.out.2.2)
      have z0 := blk_cell HZ7.out 0
      have z1 := blk_cell HZ7.out 1
      have z2 := blk_cell HZ7.out 2
      have z3 := blk_cell HZ7.out 3
      have z4 := blk_cell HZ7.out 4
      clear HB6 HZ6 HBN6 HD6 HSI B0
      go_upto_region 9 with (go_at_call 24; refine HXN.out.mono ?_; rintro e w8 ⟨hb, X, rfl, hX, hXS⟩; have HT8 := Aside0.mk (two_new HB24.out HD7.out HBN7.out HL5.out hb hX hXS (fun k hk => Nat.lt_of_lt_of_le hk HB2.out.size)); have HZ8 := Aside0.mk (blk_below HZ7.out hb); clear hb hX hXS z0 z1 z2 z3 z4)
      have HG2L : Aside0 (g2 < W2.heap.size) := ⟨blk_lt HZ2'.out⟩
      clear HXN HB7 HZ7 HBN7 HD7 HL5 HB24
      go_wp2_with fail
      go_loopg [8] 41 (fun kq v8 w' => ∃ (i : Nat) (D : Dv), v8 = .int .i64 (i : Int) ∧ Aside0 (i ≤ 40 ∧ kq + i = 41) ∧ Aside0 (Two W2 w' L X D D ∧ D.B = B) ∧ Aside0 (w'.heap[g2]? = some (.cells #[.int .i64 B, .int .i64 P, .int .i64 C, .slice Ab bad.length cb, .slice Af fs.length cf] 27 (0, 0))))
      case atStart => exact ⟨0, _, rfl, ⟨by decide, rfl⟩, ⟨HT8.out, rfl⟩, HZ8⟩
      case round =>
        obtain ⟨i, D, rfl, HI, HTW, HZ⟩ := hrel
        clear HT8 HZ8
        have HBW : Aside0 (Below W.heap.size W wr) := ⟨by obtain ⟨_, _, _, _, _, _, h5, _⟩ := HTW.out.1; exact below_then HB2.out HB2.out.size h5⟩
        by_cases hi : i < l.length
        case neg =>
          have t1 : decide ((i : Int) < (l.length : Int)) = false := decide_eq_false (by omega)
          have t2 : decide (i < l.length) = false := decide_eq_false hi
          clear hi
          go_wp2_with fail
          go_ret
          exact ⟨rfl, HBW.out⟩
        case pos =>
          have t1 : decide ((i : Int) < (l.length : Int)) = true := decide_eq_true (by omega)
          have t2 : decide (i < l.length) = true := decide_eq_true hi
          by_cases h40 : i < 40
          case neg =>
            have t3 : decide ((i : Int) < 40) = false := decide_eq_false (by omega)
            have t4 : decide (i < 40) = false := decide_eq_false h40
            clear hi h40
            go_wp2_with fail
            go_ret
            exact ⟨rfl, HBW.out⟩
          case pos =>
            have t3 : decide ((i : Int) < 40) = true := decide_eq_true (by omega)
            have t4 : decide (i < 40) = true := decide_eq_true h40
            have hBW := HBW.out
            obtain ⟨ad, A3, c3, hA, hx0, hx1, hx2, hx3, l3, g3⟩ := at_T40 HIN.out.2.2.2.2.1 (i : Int) (by omega) (by omega)
            replace hx0 := (hBW.cell (World.block_lt_of_cell? W _ hx0)).trans hx0
            replace hx1 := (hBW.cell (World.block_lt_of_cell? W _ hx1)).trans hx1
            replace hx2 := (hBW.cell (World.block_lt_of_cell? W _ hx2)).trans hx2
            replace hx3 := (hBW.cell (World.block_lt_of_cell? W _ hx3)).trans hx3
            obtain ⟨x, hx⟩ : ∃ x, x = rd_T40 l (i : Int) := ⟨_, rfl⟩
            rw [← hx] at hx0 hx1 hx2 hx3 l3 g3
            rw [Int.toNat_natCast] at hx0 hx1 hx2 hx3
            have hxe : l[i]? = some x := by
              rw [hx]
              unfold rd_T40
              rw [Int.toNat_natCast, List.getD_eq_getElem?_getD, List.getElem?_eq_getElem hi]
              rfl
            have HXB : Aside0 (isBytes x.f2) := ⟨HIN.out.2.2.2.2.2.2.1 x (List.mem_of_getElem? hxe)⟩
            have HAA := Aside0.mk hA
            have p1 := eq_true (show (0 : Int) ≤ (i : Int) by omega)
            have q1 := eq_true (show (i : Int) < (l.length : Int) by omega)
            have HI40 := Aside0.mk h40
            have HX3 := Aside0.mk (And.intro l3 g3)
            have HLTW := Aside0.mk HTW.out.1.lt
            rw [hA]
            have hz9 := heap_alloc_new wr (.cells #[.int .i64 x.f0, .int .i64 x.f1.f0, .int .i64 x.f1.f1, .slice A3 x.f2.length c3] 40)
            have hb9 := below_alloc (Below.refl wr.heap.size wr) (.cells #[.int .i64 x.f0, .int .i64 x.f1.f0, .int .i64 x.f1.f1, .slice A3 x.f2.length c3] 40)
            obtain ⟨g9, hg9⟩ : ∃ g, g = wr.heap.size := ⟨_, rfl⟩
            clear hA hx hxe l3 g3 hi h40 hBW
            go_upto_region 13 with fail
            rw [show (some ad : Option Addr) = Al from HAA.out.symm]
            have HG9 := Aside0.mk hg9
            generalize wr.alloc (.cells #[.int .i64 x.f0, .int .i64 x.f1.f0, .int .i64 x.f1.f1, .slice A3 x.f2.length c3] 40) = W12 at hz9 hb9 ⊢
            rw [← hg9] at hz9 ⊢
            have HT12 := Aside0.mk (HTW.out.1.below hb9)
            have HDB := Aside0.mk HTW.out.2
            have HZ12 := Aside0.mk (blk_below HZ.out hb9)
            have HB12 := Aside0.mk (below_then HBW.out HBW.out.size hb9)
            have GX12 := Aside0.mk (Kd.F_below (Kd.F_below (Kd.C_F (Kd.heap_int _) HX3.out.2) HBW.out) hb9)
            have Z9 := Aside0.mk hz9
            have y3 := blk_cell hz9 3
            have hW12 : wr.heap.size < W12.heap.size := by rw [← hg9]; exact blk_lt hz9
            have HSW := Aside0.mk hW12
            clear hg9 hz9 hb9 hx0 hx1 hx2 hx3 p1 q1 t1 t2 t3 t4 hW12 HTW HZ HBW
            by_cases hlen : (x.f2.length : Int) > 300
            case pos =>
              have t5 : decide ((x.f2.length : Int) > 300) = true := decide_eq_true hlen
              have t6 : decide (300 < x.f2.length) = true := decide_eq_true (by omega)
              clear hlen
              go_wp2_with fail
              go_ret
              exact ⟨rfl, HB12.out⟩
            case neg =>
              have t5 : decide ((x.f2.length : Int) > 300) = false := decide_eq_false hlen
              have t6 : decide (300 < x.f2.length) = false := decide_eq_false (by omega)
              have HLN := Aside0.mk (show x.f2.length ≤ 300 by omega)
              have y1 := blk_cell Z9.out 1
              have y2 := blk_cell Z9.out 2
              have hz10 := heap_alloc_new W12 (.cells #[.int .i64 x.f1.f0, .int .i64 x.f1.f1] 37)
              have hb10 := below_alloc (Below.refl W12.heap.size W12) (.cells #[.int .i64 x.f1.f0, .int .i64 x.f1.f1] 37)
              obtain ⟨g10, hg10⟩ : ∃ g, g = W12.heap.size := ⟨_, rfl⟩
              clear hlen
              go_upto_region 16 with fail
              have HG10 := Aside0.mk hg10
              generalize W12.alloc (.cells #[.int .i64 x.f1.f0, .int .i64 x.f1.f1] 37) = W15 at hz10 hb10 ⊢
              rw [← hg10] at hz10 ⊢
              have HT15 := Aside0.mk (HT12.out.below hb10)
              have HZ15 := Aside0.mk (blk_below HZ12.out hb10)
              have HB15 := Aside0.mk (below_then HB12.out HB12.out.size hb10)
              have GX15 := Aside0.mk (Kd.F_below GX12.out hb10)
              have Z9_15 := Aside0.mk (blk_below Z9.out hb10)
              have Z10 := Aside0.mk hz10
              have y0 := blk_cell hz10 0
              have y4 := blk_cell hz10 1
              have z0 := blk_cell HZ15.out 0
              have hlt := HT12.out.lt
              have HNS : Aside0 ((¬ L.S g9 ∧ ¬ X.S g9) ∧ (¬ L.S g10 ∧ ¬ X.S g10) ∧ (¬ L.S g2 ∧ ¬ X.S g2)) := by
                obtain ⟨_, _, _, _, _, _, _, h6⟩ := HT12.out
                have hs := HSW.out
                have hg := HG9.out
                have hltw : ∀ k, L.S k ∨ X.S k → k < wr.heap.size := HLTW.out
                refine ⟨⟨fun h => by have := hltw _ (.inl h); omega, fun h => by have := hltw _ (.inr h); omega⟩, ⟨fun h => by have := hltw _ (.inl h); have := HG10.out; omega, fun h => by have := hltw _ (.inr h); have := HG10.out; omega⟩, fun h => by have := h6 _ (.inl h); have := HG2L.out; omega, fun h => by have := h6 _ (.inr h); have := HG2L.out; omega⟩
              have HB1215 := Aside0.mk hb10
              clear hg10 hz10 hb10 hlt t5 t6 y1 y2 y3
              obtain ⟨nq, hnq⟩ : ∃ q : Bool, q = (decide (x.f1.f1 < 0) && (decide (0 ≤ x.f1.f0) && decide (x.f1.f0 < B))) := ⟨_, rfl⟩
              have HNQ := Aside0.mk hnq
              clear hnq
              go_cut [99] (fun v99 wx => v99 = .bool nq ∧ W15 = wx)
              case first =>
                by_cases q1 : x.f1.f1 < 0
                case neg =>
                  have t1 : decide (x.f1.f1 < 0) = false := decide_eq_false q1
                  clear q1
                  go_wp2_with fail
                  go_meet
                  exact ⟨by rw [HNQ.out, t1]; rfl, rfl⟩
                case pos =>
                  have t1 : decide (x.f1.f1 < 0) = true := decide_eq_true q1
                  by_cases q2 : 0 ≤ x.f1.f0
                  case neg =>
                    have t2 : decide (0 ≤ x.f1.f0) = false := decide_eq_false q2
                    have t2' : decide (x.f1.f0 ≥ 0) = false := decide_eq_false q2
                    clear q1 q2
                    go_wp2_with fail
                    go_meet
                    exact ⟨by rw [HNQ.out, t1, t2]; rfl, rfl⟩
                  case pos =>
                    have t2 : decide (0 ≤ x.f1.f0) = true := decide_eq_true q2
                    have t2' : decide (x.f1.f0 ≥ 0) = true := decide_eq_true q2
                    by_cases q3 : x.f1.f0 < B
                    case neg =>
                      have t3 : decide (x.f1.f0 < B) = false := decide_eq_false q3
                      clear q1 q2 q3
                      go_wp2_with fail
                      go_meet
                      exact ⟨by rw [HNQ.out, t1, t2, t3]; rfl, rfl⟩
                    case pos =>
                      have t3 : decide (x.f1.f0 < B) = true := decide_eq_true q3
                      clear q1 q2 q3
                      go_wp2_with fail
                      go_meet
                      exact ⟨by rw [HNQ.out, t1, t2, t3]; rfl, rfl⟩
              case rest =>
              obtain ⟨rfl, rfl⟩ := hcut
              go_upto_if 99 with fail
              go_cut [99] (fun v99 wx => ∃ bk pgx : Int, Aside0 (Below W12.heap.size W12 wx) ∧ Aside0 (wx.heap[g10]? = some (.cells #[.int .i64 bk, .int .i64 pgx] 37 (0, 0))))
              case first =>
                cases nq with
                | false =>
                  go_wp2_with fail
                  go_meet
                  exact ⟨_, _, HB1215, Z10⟩
                | true =>
                  have hq := HNQ.out.symm
                  simp only [Bool.and_eq_true, decide_eq_true_eq] at hq
                  obtain ⟨_, q2, q3⟩ := hq
                  go_upto_region 17 with fail
                  obtain ⟨okx, hX⟩ := HT15.out.right
                  have HX15 := Aside0.mk hX
                  obtain ⟨n, hn⟩ : ∃ n : Nat, (n : Int) = x.f1.f0 := ⟨x.f1.f0.toNat, by omega⟩
                  have hnl : n < D.next.length := by have := HX15.out.ok.nl; have := HDB.out; omega
                  obtain ⟨nx, hnx⟩ : ∃ v, v = D.next.getD n 0 := ⟨_, rfl⟩
                  have HNC : Aside0 ((D.next.map (Value.int .i64))[n]? = some (.int .i64 nx)) := ⟨by rw [hnx]; exact ints_at hnl⟩
                  have HQ2 := Aside0.mk (And.intro (eq_true (show (0 : Int) ≤ (n : Int) by omega)) (eq_true (show (n : Int) < ((D.next.length : Nat) : Int) by omega)))
                  rw [← hn] at Z10
                  have B0 := Aside0.mk (below_drew1 (Below.refl W15.heap.size W15))
                  clear q2 q3 hX hn hnl hnx y0 y4 z0
                  refine start_ (n := 12) (S := fun w' => True) (ds := []) #[false, false, false, false, false, false, false, false, false, false, false, false] (by kernel_rfl) rfl rfl trivial (fun hHeld => ?_)
                  refine with_tabW does17.tab17 does17.bits17 (fun HT_ HW_ => ?_)
                  generalize W15.drew = wq at B0 hHeld ⊢
                  refine inv_at [0, 1, 2, 3, 4, 5, 6, 7, 8, 9, 10, 11] (fun a0_ b a w' => a = putSel a0_ b [(0, 100, .pointer (some ⟨g10, 0, none⟩)), (1, 101, .int .i64 (n : Int)), (2, 102, .pointer (some ⟨X.g, 0, none⟩)), (3, 103, .pointer (some ⟨X.g, 0, none⟩)), (4, 104, .pointer (some ⟨X.g, 5, none⟩)), (5, 105, .slice (some ⟨X.gn, 0, none⟩) D.next.length X.cn), (6, 106, .pointer (some ⟨g10, 0, none⟩)), (7, 107, .int .i64 (n : Int)), (8, 108, .pointer (some ⟨X.gn, n, none⟩)), (9, 109, .int .i64 nx), (10, 110, .agg #[.int .i64 (n : Int), .int .i64 nx])] ∧ (b 11 = false → Below W15.heap.size W15 w') ∧ (b 11 = true → Below W12.heap.size W12 w' ∧ w'.heap[g10]? = some (.cells #[.int .i64 (n : Int), .int .i64 nx] 37 (0, 0)))) HT_.out HW_.out (by kernel_rfl) (by kernel_rfl) ?_ ?_ ?_
                  · exact ⟨by simp only [putSel, Bool.false_eq_true, if_false], fun _ => B0.out, fun h_ => absurd h_ (by decide)⟩
                  · skip
                    clear B0
                    refine steps_cons ?_ ?_
                    · rintro b a w' ⟨ha, Q_B0, Q_FIN⟩ hb_ hon hoff
                      refine ⟨_, rfl, fun K hK => ?_⟩
                      have e10 : a.tmps[10]? = some (.pointer (some ⟨g10, 0, none⟩)) := by rw [ha]; exact (putSel_off rfl).trans rfl
                      replace ha := Aside0.mk ha
                      have B0 := Aside0.mk (Q_B0 (hoff 11 (by kernel_rfl)))
                      refine value_ (w1 := w') (v := .pointer (some ⟨g10, 0, none⟩)) (by rfl) rfl ?_ ?_
                      · go_simp
                        (try simp only [i64_w])
                        try rfl
                      refine hK.out _ _ ⟨(by rw [ha.out]; exact putSel_upk 0 hb_ rfl rfl rfl), Q_B0, fun h0_ => absurd ((hoff 11 (by kernel_rfl)).symm.trans h0_) (by decide)⟩
                    refine steps_cons ?_ ?_
                    · rintro b a w' ⟨ha, Q_B0, Q_FIN⟩ hb_ hon hoff
                      refine ⟨_, rfl, fun K hK => ?_⟩
                      have e100 : a.tmps[100]? = some (.pointer (some ⟨g10, 0, none⟩)) := by rw [ha]; exact putSel_on (e := (0, 100, .pointer (some ⟨g10, 0, none⟩))) 0 rfl rfl (hon 0 (by kernel_rfl)) rfl
                      replace ha := Aside0.mk ha
                      have B0 := Aside0.mk (Q_B0 (hoff 11 (by kernel_rfl)))
                      have c_ := blk_cell (blk_below Z10.out B0.out) 0
                      refine value_ (w1 := w') (v := .int .i64 (n : Int)) (by rfl) rfl ?_ ?_
                      · go_simp
                        (try simp only [i64_w])
                        try rfl
                      refine hK.out _ _ ⟨(by rw [ha.out]; exact putSel_upk 1 hb_ rfl rfl rfl), Q_B0, fun h0_ => absurd ((hoff 11 (by kernel_rfl)).symm.trans h0_) (by decide)⟩
                    refine steps_cons ?_ ?_
                    · rintro b a w' ⟨ha, Q_B0, Q_FIN⟩ hb_ hon hoff
                      refine ⟨_, rfl, fun K hK => ?_⟩
                      have e7 : a.tmps[7]? = some (.pointer (some ⟨X.g, 0, none⟩)) := by rw [ha]; exact (putSel_off rfl).trans rfl
                      replace ha := Aside0.mk ha
                      have B0 := Aside0.mk (Q_B0 (hoff 11 (by kernel_rfl)))
                      refine value_ (w1 := w') (v := .pointer (some ⟨X.g, 0, none⟩)) (by rfl) rfl ?_ ?_
                      · go_simp
                        (try simp only [i64_w])
                        try rfl
                      refine hK.out _ _ ⟨(by rw [ha.out]; exact putSel_upk 2 hb_ rfl rfl rfl), Q_B0, fun h0_ => absurd ((hoff 11 (by kernel_rfl)).symm.trans h0_) (by decide)⟩
                    refine steps_cons ?_ ?_
                    · rintro b a w' ⟨ha, Q_B0, Q_FIN⟩ hb_ hon hoff
                      refine ⟨_, rfl, fun K hK => ?_⟩
                      have e102 : a.tmps[102]? = some (.pointer (some ⟨X.g, 0, none⟩)) := by rw [ha]; exact putSel_on (e := (2, 102, .pointer (some ⟨X.g, 0, none⟩))) 2 rfl rfl (hon 2 (by kernel_rfl)) rfl
                      replace ha := Aside0.mk ha
                      have B0 := Aside0.mk (Q_B0 (hoff 11 (by kernel_rfl)))
                      refine value_ (w1 := w') (v := .pointer (some ⟨X.g, 0, none⟩)) (by rfl) rfl ?_ ?_
                      · go_simp
                        (try simp only [i64_w])
                        try rfl
                      refine hK.out _ _ ⟨(by rw [ha.out]; exact putSel_upk 3 hb_ rfl rfl rfl), Q_B0, fun h0_ => absurd ((hoff 11 (by kernel_rfl)).symm.trans h0_) (by decide)⟩
                    refine steps_cons ?_ ?_
                    · rintro b a w' ⟨ha, Q_B0, Q_FIN⟩ hb_ hon hoff
                      refine ⟨_, rfl, fun K hK => ?_⟩
                      have e103 : a.tmps[103]? = some (.pointer (some ⟨X.g, 0, none⟩)) := by rw [ha]; exact putSel_on (e := (3, 103, .pointer (some ⟨X.g, 0, none⟩))) 3 rfl rfl (hon 3 (by kernel_rfl)) rfl
                      replace ha := Aside0.mk ha
                      have B0 := Aside0.mk (Q_B0 (hoff 11 (by kernel_rfl)))
                      refine value_ (w1 := w') (v := .pointer (some ⟨X.g, 5, none⟩)) (by rfl) rfl ?_ ?_
                      · go_simp
                        (try simp only [i64_w])
                        try rfl
                      refine hK.out _ _ ⟨(by rw [ha.out]; exact putSel_upk 4 hb_ rfl rfl rfl), Q_B0, fun h0_ => absurd ((hoff 11 (by kernel_rfl)).symm.trans h0_) (by decide)⟩
                    refine steps_cons ?_ ?_
                    · rintro b a w' ⟨ha, Q_B0, Q_FIN⟩ hb_ hon hoff
                      refine ⟨_, rfl, fun K hK => ?_⟩
                      have e104 : a.tmps[104]? = some (.pointer (some ⟨X.g, 5, none⟩)) := by rw [ha]; exact putSel_on (e := (4, 104, .pointer (some ⟨X.g, 5, none⟩))) 4 rfl rfl (hon 4 (by kernel_rfl)) rfl
                      replace ha := Aside0.mk ha
                      have B0 := Aside0.mk (Q_B0 (hoff 11 (by kernel_rfl)))
                      have c_ := (xtop_cells (HX15.out.below B0.out)).2.2.2.2.2.1
                      refine value_ (w1 := w') (v := .slice (some ⟨X.gn, 0, none⟩) D.next.length X.cn) (by rfl) rfl ?_ ?_
                      · go_simp
                        (try simp only [i64_w])
                        try rfl
                      refine hK.out _ _ ⟨(by rw [ha.out]; exact putSel_upk 5 hb_ rfl rfl rfl), Q_B0, fun h0_ => absurd ((hoff 11 (by kernel_rfl)).symm.trans h0_) (by decide)⟩
                    refine steps_cons ?_ ?_
                    · rintro b a w' ⟨ha, Q_B0, Q_FIN⟩ hb_ hon hoff
                      refine ⟨_, rfl, fun K hK => ?_⟩
                      have e10 : a.tmps[10]? = some (.pointer (some ⟨g10, 0, none⟩)) := by rw [ha]; exact (putSel_off rfl).trans rfl
                      replace ha := Aside0.mk ha
                      have B0 := Aside0.mk (Q_B0 (hoff 11 (by kernel_rfl)))
                      refine value_ (w1 := w') (v := .pointer (some ⟨g10, 0, none⟩)) (by rfl) rfl ?_ ?_
                      · go_simp
                        (try simp only [i64_w])
                        try rfl
                      refine hK.out _ _ ⟨(by rw [ha.out]; exact putSel_upk 6 hb_ rfl rfl rfl), Q_B0, fun h0_ => absurd ((hoff 11 (by kernel_rfl)).symm.trans h0_) (by decide)⟩
                    refine steps_cons ?_ ?_
                    · rintro b a w' ⟨ha, Q_B0, Q_FIN⟩ hb_ hon hoff
                      refine ⟨_, rfl, fun K hK => ?_⟩
                      have e106 : a.tmps[106]? = some (.pointer (some ⟨g10, 0, none⟩)) := by rw [ha]; exact putSel_on (e := (6, 106, .pointer (some ⟨g10, 0, none⟩))) 6 rfl rfl (hon 6 (by kernel_rfl)) rfl
                      replace ha := Aside0.mk ha
                      have B0 := Aside0.mk (Q_B0 (hoff 11 (by kernel_rfl)))
                      have c_ := blk_cell (blk_below Z10.out B0.out) 0
                      refine value_ (w1 := w') (v := .int .i64 (n : Int)) (by rfl) rfl ?_ ?_
                      · go_simp
                        (try simp only [i64_w])
                        try rfl
                      refine hK.out _ _ ⟨(by rw [ha.out]; exact putSel_upk 7 hb_ rfl rfl rfl), Q_B0, fun h0_ => absurd ((hoff 11 (by kernel_rfl)).symm.trans h0_) (by decide)⟩
                    refine steps_cons ?_ ?_
                    · rintro b a w' ⟨ha, Q_B0, Q_FIN⟩ hb_ hon hoff
                      refine ⟨_, rfl, fun K hK => ?_⟩
                      have e105 : a.tmps[105]? = some (.slice (some ⟨X.gn, 0, none⟩) D.next.length X.cn) := by rw [ha]; exact putSel_on (e := (5, 105, .slice (some ⟨X.gn, 0, none⟩) D.next.length X.cn)) 5 rfl rfl (hon 5 (by kernel_rfl)) rfl
                      have e107 : a.tmps[107]? = some (.int .i64 (n : Int)) := by rw [ha]; exact putSel_on (e := (7, 107, .int .i64 (n : Int))) 7 rfl rfl (hon 7 (by kernel_rfl)) rfl
                      replace ha := Aside0.mk ha
                      have B0 := Aside0.mk (Q_B0 (hoff 11 (by kernel_rfl)))
                      have p_ := HQ2.out.1
                      have q_ := HQ2.out.2
                      refine value_ (w1 := w') (v := .pointer (some ⟨X.gn, n, none⟩)) (by rfl) rfl ?_ ?_
                      · go_simp
                        (try simp only [i64_w])
                        try rfl
                      refine hK.out _ _ ⟨(by rw [ha.out]; exact putSel_upk 8 hb_ rfl rfl rfl), Q_B0, fun h0_ => absurd ((hoff 11 (by kernel_rfl)).symm.trans h0_) (by decide)⟩
                    refine steps_cons ?_ ?_
                    · rintro b a w' ⟨ha, Q_B0, Q_FIN⟩ hb_ hon hoff
                      refine ⟨_, rfl, fun K hK => ?_⟩
                      have e108 : a.tmps[108]? = some (.pointer (some ⟨X.gn, n, none⟩)) := by rw [ha]; exact putSel_on (e := (8, 108, .pointer (some ⟨X.gn, n, none⟩))) 8 rfl rfl (hon 8 (by kernel_rfl)) rfl
                      replace ha := Aside0.mk ha
                      have B0 := Aside0.mk (Q_B0 (hoff 11 (by kernel_rfl)))
                      have c_ := (HX15.out.below B0.out).nx.cell HNC.out
                      refine value_ (w1 := w') (v := .int .i64 nx) (by rfl) rfl ?_ ?_
                      · go_simp
                        (try simp only [i64_w])
                        try rfl
                      refine hK.out _ _ ⟨(by rw [ha.out]; exact putSel_upk 9 hb_ rfl rfl rfl), Q_B0, fun h0_ => absurd ((hoff 11 (by kernel_rfl)).symm.trans h0_) (by decide)⟩
                    refine steps_cons ?_ ?_
                    · rintro b a w' ⟨ha, Q_B0, Q_FIN⟩ hb_ hon hoff
                      refine ⟨_, rfl, fun K hK => ?_⟩
                      have e101 : a.tmps[101]? = some (.int .i64 (n : Int)) := by rw [ha]; exact putSel_on (e := (1, 101, .int .i64 (n : Int))) 1 rfl rfl (hon 1 (by kernel_rfl)) rfl
                      have e109 : a.tmps[109]? = some (.int .i64 nx) := by rw [ha]; exact putSel_on (e := (9, 109, .int .i64 nx)) 9 rfl rfl (hon 9 (by kernel_rfl)) rfl
                      replace ha := Aside0.mk ha
                      have B0 := Aside0.mk (Q_B0 (hoff 11 (by kernel_rfl)))
                      refine value_ (w1 := w') (v := .agg #[.int .i64 (n : Int), .int .i64 nx]) (by rfl) rfl ?_ ?_
                      · go_simp
                        (try simp only [i64_w])
                        try rfl
                      refine hK.out _ _ ⟨(by rw [ha.out]; exact putSel_upk 10 hb_ rfl rfl rfl), Q_B0, fun h0_ => absurd ((hoff 11 (by kernel_rfl)).symm.trans h0_) (by decide)⟩
                    refine steps_cons ?_ ?_
                    · rintro b a w' ⟨ha, Q_B0, Q_FIN⟩ hb_ hon hoff
                      refine ⟨_, rfl, fun K hK => ?_⟩
                      have e10 : a.tmps[10]? = some (.pointer (some ⟨g10, 0, none⟩)) := by rw [ha]; exact (putSel_off rfl).trans rfl
                      have e110 : a.tmps[110]? = some (.agg #[.int .i64 (n : Int), .int .i64 nx]) := by rw [ha]; exact putSel_on (e := (10, 110, .agg #[.int .i64 (n : Int), .int .i64 nx])) 10 rfl rfl (hon 10 (by kernel_rfl)) rfl
                      replace ha := Aside0.mk ha
                      have B0 := Aside0.mk (Q_B0 hb_)
                      have c0_ := blk_cell (blk_below Z10.out B0.out) 0
                      have c1_ := blk_cell (blk_below Z10.out B0.out) 1
                      have f0_ := blk_frozen (blk_below Z10.out B0.out) 0
                      have f1_ := blk_frozen (blk_below Z10.out B0.out) 1
                      refine skip_ (w1 := ?_) (by rfl) rfl ?_ ?_
                      rotate_left
                      · go_simp
                        rfl
                      refine hK.out _ _ ⟨(by rw [ha.out]; exact putSel_none (v := undef) rfl), fun h0_ => absurd ((up_self b 11).symm.trans h0_) (by decide), fun _ => put2 (n : Int) nx (blk_below Z10.out B0.out) (Nat.le_of_eq HG10.out.symm) (below_then HB1215.out HB1215.out.size B0.out)⟩
                    exact steps_nil
                  rintro b a W17 hall ⟨ha, Q_B0, Q_FIN⟩
                  clear B0
                  have hb0_ := hall 0 (by kernel_rfl)
                  have hb1_ := hall 1 (by kernel_rfl)
                  have hb2_ := hall 2 (by kernel_rfl)
                  have hb3_ := hall 3 (by kernel_rfl)
                  have hb4_ := hall 4 (by kernel_rfl)
                  have hb5_ := hall 5 (by kernel_rfl)
                  have hb6_ := hall 6 (by kernel_rfl)
                  have hb7_ := hall 7 (by kernel_rfl)
                  have hb8_ := hall 8 (by kernel_rfl)
                  have hb9_ := hall 9 (by kernel_rfl)
                  have hb10_ := hall 10 (by kernel_rfl)
                  have hb11_ := hall 11 (by kernel_rfl)
                  subst ha
                  simp only [putSel, hb0_, hb1_, hb2_, hb3_, hb4_, hb5_, hb6_, hb7_, hb8_, hb9_, hb10_, hb11_, if_true, Act.put, List.setIfInBounds_toArray, List.set_cons_zero, List.set_cons_succ]
                  clear Q_B0
                  have FIN := Aside0.mk (Q_FIN hb11_)
                  clear Q_FIN
                  clear hall hb0_ hb1_ hb2_ hb3_ hb4_ hb5_ hb6_ hb7_ hb8_ hb9_ hb10_ hb11_
                  go_wp2_with fail
                  go_meet
                  exact ⟨_, _, ⟨FIN.out.1⟩, ⟨FIN.out.2⟩⟩
              case rest =>
              obtain ⟨bk, pgx, HBP, HZP⟩ := hcut
              obtain ⟨W17, hw17⟩ : ∃ w : World, w = wc := ⟨_, rfl⟩
              subst hw17
              have HT17 := Aside0.mk (HT12.out.below HBP.out)
              have HB17 := Aside0.mk (below_then HB12.out HB12.out.size HBP.out)
              have HZ17 := Aside0.mk (blk_below HZ12.out HBP.out)
              have Z9_17 := Aside0.mk (blk_below Z9.out HBP.out)
              have GX17 := Aside0.mk (Kd.F_below (Kd.C_F (Kd.heap_int _) HX3.out.2) HB17.out)
              have c0 := blk_cell Z9_17.out 0
              have HLS : Aside0 (∀ k, L.S k ∨ X.S k → W.heap.size ≤ k ∧ k < W17.heap.size) := ⟨fun k hk => by
                have h1 := HT17.out.lt k hk
                obtain ⟨_, _, _, _, _, _, _, h6⟩ := HT17.out
                have h2 := h6 k hk
                have h3 := HB2.out.size
                exact ⟨by omega, h1⟩⟩
              clear HT12 HB12 HZ12 GX12 Z9 HT15 HZ15 HB15 GX15 Z9_15 Z10 HB1215 HBP HNQ y0 y4 z0
              go_upto_block 2 with fail
              go_cut [11] (fun v11 wx => v11 = .bool true ∧ ∃ D' : Dv, Aside0 (Two W2 wx L X D' D' ∧ D'.B = B) ∧ Aside0 (wx.heap[g2]? = some (.cells #[.int .i64 B, .int .i64 P, .int .i64 C, .slice Ab bad.length cb, .slice Af fs.length cf] 27 (0, 0))))
              case first =>
                obtain ⟨kq, hkq⟩ : ∃ q : Bool, q = (decide (x.f0 = 1) || decide (x.f0 = 2)) := ⟨_, rfl⟩
                have HKQ := Aside0.mk hkq
                clear hkq
                go_upto_region 23 with fail
                go_cut [134] (fun v134 wx => v134 = .bool (decide (x.f0 = 1)) ∧ W17 = wx)
                case first =>
                  go_wp2_with fail
                  go_meet
                  exact ⟨rfl, rfl⟩
                case rest =>
                obtain ⟨rfl, rfl⟩ := hcut
                go_upto_if 134 with fail
                go_cut [134] (fun v134 wx => v134 = .bool kq ∧ W17 = wx)
                case first =>
                  by_cases k1 : x.f0 = 1
                  case pos =>
                    go_wp2_with fail
                    go_meet
                    exact ⟨by rw [HKQ.out, decide_eq_true k1]; rfl, rfl⟩
                  case neg =>
                    by_cases k2 : x.f0 = 2
                    case pos =>
                      go_wp2_with fail
                      go_meet
                      exact ⟨by rw [HKQ.out, decide_eq_true k2, Bool.or_true], rfl⟩
                    case neg =>
                      have t2 : (x.f0 == 2) = false := by simp [k2]
                      go_wp2_with fail
                      go_meet
                      exact ⟨by rw [HKQ.out, decide_eq_false k1, decide_eq_false k2]; rfl, rfl⟩
                case rest =>
                obtain ⟨rfl, rfl⟩ := hcut
                clear HKQ
                cases kq with
                | true =>
                  go_upto_region 25 with fail
                  obtain ⟨r1, hr1⟩ : ∃ v, v = (D.prog bk pgx (fullL x.f2)).1 := ⟨_, rfl⟩
                  obtain ⟨D1, hD1⟩ : ∃ v, v = (D.prog bk pgx (fullL x.f2)).2 := ⟨_, rfl⟩
                  have HD1 : Aside0 (D1.B = B) := ⟨by rw [hD1, prog_B]; exact HDB.out⟩
                  have HFU := Aside0.mk (fun (w' : World) (h : Turn W17 w' (fun k => L.S k ∨ X.S k)) => full_calls (A := A3) (c := c3) (s := x.f2) (Kd.F_now (F_turn GX17.out h (fun k hk _ hs => by have := (HLS.out k hs).1; omega))) HX3.out.1 (by have := HLN.out; omega))
                  have HPL : Aside0 (∀ (w' : World) (E : Dv) (A : Option Addr) (c : Nat), Two W2 w' L X D E → 256 ≤ c → Kd.F (Kd.int .u8) w' (fun k => W17.heap.size ≤ k) A 256 (fullL x.f2) → Calls Try.prog 17 #[.pointer (some ⟨L.g, 0, none⟩), .agg #[.int .i64 bk, .int .i64 pgx], .slice A 256 c] w' fun e w2 => e = .returned (.int .i64 r1) ∧ Two W2 w2 L X D1 E ∧ Turn w' w2 L.S) := ⟨by
                    intro w' E A c h hc hF
                    have k := two_prog h (okl := fun k => W17.heap.size ≤ k) bk pgx (fullL x.f2) A c (by rw [fullL_len]; exact hc) (fullL_ok HXB.out).1 (by rw [fullL_len]; exact hF) (fun k hk _ hS => by have := (HLS.out k (.inl hS)).2; omega)
                    rw [fullL_len] at k
                    rw [hr1, hD1]
                    exact k⟩
                  have HPX : Aside0 (∀ (w' : World) (E : Dv) (A : Option Addr) (c : Nat), Two W2 w' L X E D → 256 ≤ c → Kd.F (Kd.int .u8) w' (fun k => W17.heap.size ≤ k) A 256 (fullL x.f2) → Calls Try.prog 25 #[.pointer (some ⟨X.g, 0, none⟩), .agg #[.int .i64 bk, .int .i64 pgx], .slice A 256 c] w' fun e w2 => e = .returned (.int .i64 r1) ∧ Two W2 w2 L X E D1 ∧ Turn w' w2 X.S) := ⟨by
                    intro w' E A c h hc hF
                    have k := two_xprog h (okl := fun k => W17.heap.size ≤ k) bk pgx (fullL x.f2) A c (by rw [fullL_len]; exact hc) (fullL_ok HXB.out).1 (by rw [fullL_len]; exact hF) (fun k hk _ hS => by have := (HLS.out k (.inr hS)).2; omega)
                    rw [fullL_len] at k
                    rw [hr1, hD1]
                    exact k⟩
                  have TN := Aside0.mk (Turn.of_below (below_drew1 (Below.refl W17.heap.size W17)) (fun k => L.S k ∨ X.S k))
                  have T := Aside0.mk (HT17.out.below (below_drew1 (Below.refl W17.heap.size W17)))
                  clear hr1 hD1 c0
                  have FA := True.intro
                  have FB := True.intro
                  refine start_ (n := 14) (S := fun w' => True) (ds := []) #[false, false, false, false, false, false, false, false, false, false, false, false, false, false] (by kernel_rfl) rfl rfl trivial (fun hHeld => ?_)
                  refine with_tabW does25.tab25 does25.bits25 (fun HT_ HW_ => ?_)
                  generalize W17.drew = wq at TN T hHeld ⊢
                  refine inv_at [0, 1, 2, 3, 4, 5, 6, 7, 8, 9, 10, 11, 12, 13] (fun a0_ b a w' => ∃ (Ad : Option Addr) (cd : Nat) (Ax : Option Addr) (cx : Nat) (m4_ : Value) (m10_ : Value), a = putSel a0_ b [(0, 137, .pointer (some ⟨L.g, 0, none⟩)), (1, 138, .agg #[.int .i64 bk, .int .i64 pgx]), (2, 139, .pointer (some ⟨g9, 3, none⟩)), (3, 140, .slice A3 x.f2.length c3), (4, 141, m4_), (5, 142, .int .i64 r1), (6, 143, .pointer (some ⟨X.g, 0, none⟩)), (7, 144, .agg #[.int .i64 bk, .int .i64 pgx]), (8, 145, .pointer (some ⟨g9, 3, none⟩)), (9, 146, .slice A3 x.f2.length c3), (10, 147, m10_), (11, 148, .int .i64 r1), (12, 149, .bool true), (13, 11, .bool true)] ∧ (Turn W17 w' (fun k => L.S k ∨ X.S k)) ∧ (Two W2 w' L X (dvI (b 5) D D1) (dvI (b 11) D D1)) ∧ (b 4 = true → 256 ≤ cd ∧ Kd.F (Kd.int .u8) w' (fun k => W17.heap.size ≤ k) Ad 256 (fullL x.f2)) ∧ (b 10 = true → 256 ≤ cx ∧ Kd.F (Kd.int .u8) w' (fun k => W17.heap.size ≤ k) Ax 256 (fullL x.f2)) ∧ (b 4 = true → (m4_ : Value) = .slice Ad 256 cd) ∧ (b 10 = true → (m10_ : Value) = .slice Ax 256 cx)) HT_.out HW_.out (by kernel_rfl) (by kernel_rfl) ?_ ?_ ?_
                  · exact ⟨none, 0, none, 0, .bool false, .bool false, by simp only [putSel, Bool.false_eq_true, if_false], TN.out, T.out, fun h_ => absurd h_ (by decide), fun h_ => absurd h_ (by decide), fun h_ => absurd h_ (by decide), fun h_ => absurd h_ (by decide)⟩
                  · skip
                    clear FA FB T TN
                    refine steps_cons ?_ ?_
                    · rintro b a w' ⟨Ad, cd, Ax, cx, m4_, m10_, ha, Q_TN, Q_T, Q_FA, Q_FB, Q_X4_, Q_X10_⟩ hb_ hon hoff
                      refine ⟨_, rfl, fun K hK => ?_⟩
                      have e5 : a.tmps[5]? = some (.pointer (some ⟨L.g, 0, none⟩)) := by rw [ha]; exact (putSel_off rfl).trans rfl
                      replace ha := Aside0.mk ha
                      have TN := Aside0.mk Q_TN
                      have T := Aside0.mk Q_T
                      have FA := Aside0.mk Q_FA
                      have FB := Aside0.mk Q_FB
                      refine value_ (w1 := w') (v := .pointer (some ⟨L.g, 0, none⟩)) (by rfl) rfl ?_ ?_
                      · go_simp
                        (try simp only [i64_w])
                        try rfl
                      refine hK.out _ _ ⟨Ad, cd, Ax, cx, m4_, m10_, (by rw [ha.out]; exact putSel_upk 0 hb_ rfl rfl rfl), Q_TN, Q_T, Q_FA, Q_FB, Q_X4_, fun h0_ => absurd ((hoff 10 (by kernel_rfl)).symm.trans h0_) (by decide)⟩
                    refine steps_cons ?_ ?_
                    · rintro b a w' ⟨Ad, cd, Ax, cx, m4_, m10_, ha, Q_TN, Q_T, Q_FA, Q_FB, Q_X4_, Q_X10_⟩ hb_ hon hoff
                      refine ⟨_, rfl, fun K hK => ?_⟩
                      have e10 : a.tmps[10]? = some (.pointer (some ⟨g10, 0, none⟩)) := by rw [ha]; exact (putSel_off rfl).trans rfl
                      replace ha := Aside0.mk ha
                      have TN := Aside0.mk Q_TN
                      have T := Aside0.mk Q_T
                      have FA := Aside0.mk Q_FA
                      have FB := Aside0.mk Q_FB
                      have c0_ := blk_cell (blk_turn HZP.out TN.out (fun h => h.elim HNS.out.2.1.1 HNS.out.2.1.2)) 0
                      have c1_ := blk_cell (blk_turn HZP.out TN.out (fun h => h.elim HNS.out.2.1.1 HNS.out.2.1.2)) 1
                      refine value_ (w1 := w') (v := .agg #[.int .i64 bk, .int .i64 pgx]) (by rfl) rfl ?_ ?_
                      · go_simp
                        (try simp only [i64_w])
                        try rfl
                      refine hK.out _ _ ⟨Ad, cd, Ax, cx, m4_, m10_, (by rw [ha.out]; exact putSel_upk 1 hb_ rfl rfl rfl), Q_TN, Q_T, Q_FA, Q_FB, Q_X4_, fun h0_ => absurd ((hoff 10 (by kernel_rfl)).symm.trans h0_) (by decide)⟩
                    refine steps_cons ?_ ?_
                    · rintro b a w' ⟨Ad, cd, Ax, cx, m4_, m10_, ha, Q_TN, Q_T, Q_FA, Q_FB, Q_X4_, Q_X10_⟩ hb_ hon hoff
                      refine ⟨_, rfl, fun K hK => ?_⟩
                      have e9 : a.tmps[9]? = some (.pointer (some ⟨g9, 0, none⟩)) := by rw [ha]; exact (putSel_off rfl).trans rfl
                      replace ha := Aside0.mk ha
                      have TN := Aside0.mk Q_TN
                      have T := Aside0.mk Q_T
                      have FA := Aside0.mk Q_FA
                      have FB := Aside0.mk Q_FB
                      refine value_ (w1 := w') (v := .pointer (some ⟨g9, 3, none⟩)) (by rfl) rfl ?_ ?_
                      · go_simp
                        (try simp only [i64_w])
                        try rfl
                      refine hK.out _ _ ⟨Ad, cd, Ax, cx, m4_, m10_, (by rw [ha.out]; exact putSel_upk 2 hb_ rfl rfl rfl), Q_TN, Q_T, Q_FA, Q_FB, fun h0_ => absurd ((hoff 4 (by kernel_rfl)).symm.trans h0_) (by decide), fun h0_ => absurd ((hoff 10 (by kernel_rfl)).symm.trans h0_) (by decide)⟩
                    refine steps_cons ?_ ?_
                    · rintro b a w' ⟨Ad, cd, Ax, cx, m4_, m10_, ha, Q_TN, Q_T, Q_FA, Q_FB, Q_X4_, Q_X10_⟩ hb_ hon hoff
                      refine ⟨_, rfl, fun K hK => ?_⟩
                      have e139 : a.tmps[139]? = some (.pointer (some ⟨g9, 3, none⟩)) := by rw [ha]; exact putSel_on (e := (2, 139, .pointer (some ⟨g9, 3, none⟩))) 2 rfl rfl (hon 2 (by kernel_rfl)) rfl
                      replace ha := Aside0.mk ha
                      have TN := Aside0.mk Q_TN
                      have T := Aside0.mk Q_T
                      have FA := Aside0.mk Q_FA
                      have FB := Aside0.mk Q_FB
                      have c3_ := blk_cell (blk_turn Z9_17.out TN.out (fun h => h.elim HNS.out.1.1 HNS.out.1.2)) 3
                      refine value_ (w1 := w') (v := .slice A3 x.f2.length c3) (by rfl) rfl ?_ ?_
                      · go_simp
                        (try simp only [i64_w])
                        try rfl
                      refine hK.out _ _ ⟨Ad, cd, Ax, cx, m4_, m10_, (by rw [ha.out]; exact putSel_upk 3 hb_ rfl rfl rfl), Q_TN, Q_T, Q_FA, Q_FB, fun h0_ => absurd ((hoff 4 (by kernel_rfl)).symm.trans h0_) (by decide), fun h0_ => absurd ((hoff 10 (by kernel_rfl)).symm.trans h0_) (by decide)⟩
                    refine steps_cons ?_ ?_
                    · rintro b a w' ⟨Ad, cd, Ax, cx, m4_, m10_, ha, Q_TN, Q_T, Q_FA, Q_FB, Q_X4_, Q_X10_⟩ hb_ hon hoff
                      refine ⟨_, rfl, fun K hK => ?_⟩
                      have e140 : a.tmps[140]? = some (.slice A3 x.f2.length c3) := by rw [ha]; exact putSel_on (e := (3, 140, .slice A3 x.f2.length c3)) 3 rfl rfl (hon 3 (by kernel_rfl)) rfl
                      replace ha := Aside0.mk ha
                      have TN := Aside0.mk Q_TN
                      have T := Aside0.mk Q_T
                      have FA := Aside0.mk Q_FA
                      have FB := Aside0.mk Q_FB
                      refine goes_ Try.func18 (by kernel_rfl) rfl #[.slice A3 x.f2.length c3] (by rfl) rfl rfl (by first | (simp only [List.map_toArray, List.map_cons, List.map_nil, Act.eval, Array.getD_eq_getD_getElem?, Option.getD_some, e140]; done) | (simp only [List.map_toArray, List.map_cons, List.map_nil, Act.eval, Array.getD_eq_getD_getElem?, Option.getD_some, e140]; rfl)) ?_
                      with_reducible refine (HFU.out _ TN.out).mono ?_
                      rintro e w2 ⟨A_, c_, rfl, hc_, hF_, hb⟩
                      refine ⟨_, rfl, ?_⟩
                      refine hK.out _ _ ⟨A_, c_, Ax, cx, (.slice A_ 256 c_), m10_, (by rw [ha.out]; exact putSel_upk 4 hb_ rfl rfl rfl), TN.out.below hb, T.out.below hb, fun _ => ⟨hc_, Kd.F_mono hF_ (fun k hk => Nat.le_trans TN.out.size hk)⟩, fun h_ => ⟨(FB.out h_).1, Kd.F_below (FB.out h_).2 hb⟩, fun _ => rfl, fun h0_ => absurd ((hoff 10 (by kernel_rfl)).symm.trans h0_) (by decide)⟩
                    refine steps_cons ?_ ?_
                    · rintro b a w' ⟨Ad, cd, Ax, cx, m4_, m10_, ha, Q_TN, Q_T, Q_FA, Q_FB, Q_X4_, Q_X10_⟩ hb_ hon hoff
                      refine ⟨_, rfl, fun K hK => ?_⟩
                      have e137 : a.tmps[137]? = some (.pointer (some ⟨L.g, 0, none⟩)) := by rw [ha]; exact putSel_on (e := (0, 137, .pointer (some ⟨L.g, 0, none⟩))) 0 rfl rfl (hon 0 (by kernel_rfl)) rfl
                      have e138 : a.tmps[138]? = some (.agg #[.int .i64 bk, .int .i64 pgx]) := by rw [ha]; exact putSel_on (e := (1, 138, .agg #[.int .i64 bk, .int .i64 pgx])) 1 rfl rfl (hon 1 (by kernel_rfl)) rfl
                      have e141 : a.tmps[141]? = some (m4_) := by rw [ha]; exact putSel_on (e := (4, 141, m4_)) 4 rfl rfl (hon 4 (by kernel_rfl)) rfl
                      rw [Q_X4_ (hon 4 (by kernel_rfl))] at e141
                      replace ha := Aside0.mk ha
                      have TN := Aside0.mk Q_TN
                      have T := Aside0.mk Q_T
                      have FA := Aside0.mk Q_FA
                      have FB := Aside0.mk Q_FB
                      have fa_ := FA.out (hon 4 (by kernel_rfl))
                      have T_ := T.out
                      rw [hb_] at T_
                      refine goes_ Try.func17 (by kernel_rfl) rfl #[.pointer (some ⟨L.g, 0, none⟩), .agg #[.int .i64 bk, .int .i64 pgx], .slice Ad 256 cd] (by rfl) rfl rfl (by first | (simp only [List.map_toArray, List.map_cons, List.map_nil, Act.eval, Array.getD_eq_getD_getElem?, Option.getD_some, e137, e138, e141]; done) | (simp only [List.map_toArray, List.map_cons, List.map_nil, Act.eval, Array.getD_eq_getD_getElem?, Option.getD_some, e137, e138, e141]; rfl)) ?_
                      with_reducible refine (HPL.out _ _ _ _ T_ fa_.1 fa_.2).mono ?_
                      rintro e w2 ⟨rfl, hT_, ht_⟩
                      refine ⟨_, rfl, ?_⟩
                      refine hK.out _ _ ⟨Ad, cd, Ax, cx, m4_, m10_, (by rw [ha.out]; exact putSel_upk 5 hb_ rfl rfl rfl), TN.out.trans ht_ (fun k hk => .inl (.inl hk)), hT_, fun h_ => ⟨(FA.out h_).1, F_turn (FA.out h_).2 ht_ (fun k hk _ hS => by have := (HLS.out k (.inl hS)).2; omega)⟩, fun h_ => ⟨(FB.out h_).1, F_turn (FB.out h_).2 ht_ (fun k hk _ hS => by have := (HLS.out k (.inl hS)).2; omega)⟩, Q_X4_, fun h0_ => absurd ((hoff 10 (by kernel_rfl)).symm.trans h0_) (by decide)⟩
                    refine steps_cons ?_ ?_
                    · rintro b a w' ⟨Ad, cd, Ax, cx, m4_, m10_, ha, Q_TN, Q_T, Q_FA, Q_FB, Q_X4_, Q_X10_⟩ hb_ hon hoff
                      refine ⟨_, rfl, fun K hK => ?_⟩
                      have e7 : a.tmps[7]? = some (.pointer (some ⟨X.g, 0, none⟩)) := by rw [ha]; exact (putSel_off rfl).trans rfl
                      replace ha := Aside0.mk ha
                      have TN := Aside0.mk Q_TN
                      have T := Aside0.mk Q_T
                      have FA := Aside0.mk Q_FA
                      have FB := Aside0.mk Q_FB
                      refine value_ (w1 := w') (v := .pointer (some ⟨X.g, 0, none⟩)) (by rfl) rfl ?_ ?_
                      · go_simp
                        (try simp only [i64_w])
                        try rfl
                      refine hK.out _ _ ⟨Ad, cd, Ax, cx, m4_, m10_, (by rw [ha.out]; exact putSel_upk 6 hb_ rfl rfl rfl), Q_TN, Q_T, Q_FA, Q_FB, Q_X4_, Q_X10_⟩
                    refine steps_cons ?_ ?_
                    · rintro b a w' ⟨Ad, cd, Ax, cx, m4_, m10_, ha, Q_TN, Q_T, Q_FA, Q_FB, Q_X4_, Q_X10_⟩ hb_ hon hoff
                      refine ⟨_, rfl, fun K hK => ?_⟩
                      have e10 : a.tmps[10]? = some (.pointer (some ⟨g10, 0, none⟩)) := by rw [ha]; exact (putSel_off rfl).trans rfl
                      replace ha := Aside0.mk ha
                      have TN := Aside0.mk Q_TN
                      have T := Aside0.mk Q_T
                      have FA := Aside0.mk Q_FA
                      have FB := Aside0.mk Q_FB
                      have c0_ := blk_cell (blk_turn HZP.out TN.out (fun h => h.elim HNS.out.2.1.1 HNS.out.2.1.2)) 0
                      have c1_ := blk_cell (blk_turn HZP.out TN.out (fun h => h.elim HNS.out.2.1.1 HNS.out.2.1.2)) 1
                      refine value_ (w1 := w') (v := .agg #[.int .i64 bk, .int .i64 pgx]) (by rfl) rfl ?_ ?_
                      · go_simp
                        (try simp only [i64_w])
                        try rfl
                      refine hK.out _ _ ⟨Ad, cd, Ax, cx, m4_, m10_, (by rw [ha.out]; exact putSel_upk 7 hb_ rfl rfl rfl), Q_TN, Q_T, Q_FA, Q_FB, Q_X4_, Q_X10_⟩
                    refine steps_cons ?_ ?_
                    · rintro b a w' ⟨Ad, cd, Ax, cx, m4_, m10_, ha, Q_TN, Q_T, Q_FA, Q_FB, Q_X4_, Q_X10_⟩ hb_ hon hoff
                      refine ⟨_, rfl, fun K hK => ?_⟩
                      have e9 : a.tmps[9]? = some (.pointer (some ⟨g9, 0, none⟩)) := by rw [ha]; exact (putSel_off rfl).trans rfl
                      replace ha := Aside0.mk ha
                      have TN := Aside0.mk Q_TN
                      have T := Aside0.mk Q_T
                      have FA := Aside0.mk Q_FA
                      have FB := Aside0.mk Q_FB
                      refine value_ (w1 := w') (v := .pointer (some ⟨g9, 3, none⟩)) (by rfl) rfl ?_ ?_
                      · go_simp
                        (try simp only [i64_w])
                        try rfl
                      refine hK.out _ _ ⟨Ad, cd, Ax, cx, m4_, m10_, (by rw [ha.out]; exact putSel_upk 8 hb_ rfl rfl rfl), Q_TN, Q_T, Q_FA, Q_FB, Q_X4_, fun h0_ => absurd ((hoff 10 (by kernel_rfl)).symm.trans h0_) (by decide)⟩
                    refine steps_cons ?_ ?_
                    · rintro b a w' ⟨Ad, cd, Ax, cx, m4_, m10_, ha, Q_TN, Q_T, Q_FA, Q_FB, Q_X4_, Q_X10_⟩ hb_ hon hoff
                      refine ⟨_, rfl, fun K hK => ?_⟩
                      have e145 : a.tmps[145]? = some (.pointer (some ⟨g9, 3, none⟩)) := by rw [ha]; exact putSel_on (e := (8, 145, .pointer (some ⟨g9, 3, none⟩))) 8 rfl rfl (hon 8 (by kernel_rfl)) rfl
                      replace ha := Aside0.mk ha
                      have TN := Aside0.mk Q_TN
                      have T := Aside0.mk Q_T
                      have FA := Aside0.mk Q_FA
                      have FB := Aside0.mk Q_FB
                      have c3_ := blk_cell (blk_turn Z9_17.out TN.out (fun h => h.elim HNS.out.1.1 HNS.out.1.2)) 3
                      refine value_ (w1 := w') (v := .slice A3 x.f2.length c3) (by rfl) rfl ?_ ?_
                      · go_simp
                        (try simp only [i64_w])
                        try rfl
                      refine hK.out _ _ ⟨Ad, cd, Ax, cx, m4_, m10_, (by rw [ha.out]; exact putSel_upk 9 hb_ rfl rfl rfl), Q_TN, Q_T, Q_FA, Q_FB, Q_X4_, fun h0_ => absurd ((hoff 10 (by kernel_rfl)).symm.trans h0_) (by decide)⟩
                    refine steps_cons ?_ ?_
                    · rintro b a w' ⟨Ad, cd, Ax, cx, m4_, m10_, ha, Q_TN, Q_T, Q_FA, Q_FB, Q_X4_, Q_X10_⟩ hb_ hon hoff
                      refine ⟨_, rfl, fun K hK => ?_⟩
                      have e146 : a.tmps[146]? = some (.slice A3 x.f2.length c3) := by rw [ha]; exact putSel_on (e := (9, 146, .slice A3 x.f2.length c3)) 9 rfl rfl (hon 9 (by kernel_rfl)) rfl
                      replace ha := Aside0.mk ha
                      have TN := Aside0.mk Q_TN
                      have T := Aside0.mk Q_T
                      have FA := Aside0.mk Q_FA
                      have FB := Aside0.mk Q_FB
                      refine goes_ Try.func18 (by kernel_rfl) rfl #[.slice A3 x.f2.length c3] (by rfl) rfl rfl (by first | (simp only [List.map_toArray, List.map_cons, List.map_nil, Act.eval, Array.getD_eq_getD_getElem?, Option.getD_some, e146]; done) | (simp only [List.map_toArray, List.map_cons, List.map_nil, Act.eval, Array.getD_eq_getD_getElem?, Option.getD_some, e146]; rfl)) ?_
                      with_reducible refine (HFU.out _ TN.out).mono ?_
                      rintro e w2 ⟨A_, c_, rfl, hc_, hF_, hb⟩
                      refine ⟨_, rfl, ?_⟩
                      refine hK.out _ _ ⟨Ad, cd, A_, c_, m4_, (.slice A_ 256 c_), (by rw [ha.out]; exact putSel_upk 10 hb_ rfl rfl rfl), TN.out.below hb, T.out.below hb, fun h_ => ⟨(FA.out h_).1, Kd.F_below (FA.out h_).2 hb⟩, fun _ => ⟨hc_, Kd.F_mono hF_ (fun k hk => Nat.le_trans TN.out.size hk)⟩, Q_X4_, fun _ => rfl⟩
                    refine steps_cons ?_ ?_
                    · rintro b a w' ⟨Ad, cd, Ax, cx, m4_, m10_, ha, Q_TN, Q_T, Q_FA, Q_FB, Q_X4_, Q_X10_⟩ hb_ hon hoff
                      refine ⟨_, rfl, fun K hK => ?_⟩
                      have e143 : a.tmps[143]? = some (.pointer (some ⟨X.g, 0, none⟩)) := by rw [ha]; exact putSel_on (e := (6, 143, .pointer (some ⟨X.g, 0, none⟩))) 6 rfl rfl (hon 6 (by kernel_rfl)) rfl
                      have e144 : a.tmps[144]? = some (.agg #[.int .i64 bk, .int .i64 pgx]) := by rw [ha]; exact putSel_on (e := (7, 144, .agg #[.int .i64 bk, .int .i64 pgx])) 7 rfl rfl (hon 7 (by kernel_rfl)) rfl
                      have e147 : a.tmps[147]? = some (m10_) := by rw [ha]; exact putSel_on (e := (10, 147, m10_)) 10 rfl rfl (hon 10 (by kernel_rfl)) rfl
                      rw [Q_X10_ (hon 10 (by kernel_rfl))] at e147
                      replace ha := Aside0.mk ha
                      have TN := Aside0.mk Q_TN
                      have T := Aside0.mk Q_T
                      have FA := Aside0.mk Q_FA
                      have FB := Aside0.mk Q_FB
                      have fa_ := FB.out (hon 10 (by kernel_rfl))
                      have T_ := T.out
                      rw [hb_] at T_
                      refine goes_ Try.func25 (by kernel_rfl) rfl #[.pointer (some ⟨X.g, 0, none⟩), .agg #[.int .i64 bk, .int .i64 pgx], .slice Ax 256 cx] (by rfl) rfl rfl (by first | (simp only [List.map_toArray, List.map_cons, List.map_nil, Act.eval, Array.getD_eq_getD_getElem?, Option.getD_some, e143, e144, e147]; done) | (simp only [List.map_toArray, List.map_cons, List.map_nil, Act.eval, Array.getD_eq_getD_getElem?, Option.getD_some, e143, e144, e147]; rfl)) ?_
                      with_reducible refine (HPX.out _ _ _ _ T_ fa_.1 fa_.2).mono ?_
                      rintro e w2 ⟨rfl, hT_, ht_⟩
                      refine ⟨_, rfl, ?_⟩
                      refine hK.out _ _ ⟨Ad, cd, Ax, cx, m4_, m10_, (by rw [ha.out]; exact putSel_upk 11 hb_ rfl rfl rfl), TN.out.trans ht_ (fun k hk => .inl (.inr hk)), hT_, fun h_ => ⟨(FA.out h_).1, F_turn (FA.out h_).2 ht_ (fun k hk _ hS => by have := (HLS.out k (.inr hS)).2; omega)⟩, fun h_ => ⟨(FB.out h_).1, F_turn (FB.out h_).2 ht_ (fun k hk _ hS => by have := (HLS.out k (.inr hS)).2; omega)⟩, Q_X4_, Q_X10_⟩
                    refine steps_cons ?_ ?_
                    · rintro b a w' ⟨Ad, cd, Ax, cx, m4_, m10_, ha, Q_TN, Q_T, Q_FA, Q_FB, Q_X4_, Q_X10_⟩ hb_ hon hoff
                      refine ⟨_, rfl, fun K hK => ?_⟩
                      have e142 : a.tmps[142]? = some (.int .i64 r1) := by rw [ha]; exact putSel_on (e := (5, 142, .int .i64 r1)) 5 rfl rfl (hon 5 (by kernel_rfl)) rfl
                      have e148 : a.tmps[148]? = some (.int .i64 r1) := by rw [ha]; exact putSel_on (e := (11, 148, .int .i64 r1)) 11 rfl rfl (hon 11 (by kernel_rfl)) rfl
                      replace ha := Aside0.mk ha
                      have TN := Aside0.mk Q_TN
                      have T := Aside0.mk Q_T
                      have FA := Aside0.mk Q_FA
                      have FB := Aside0.mk Q_FB
                      refine value_ (w1 := w') (v := .bool true) (by rfl) rfl ?_ ?_
                      · go_simp
                        (try simp only [i64_w])
                        try rfl
                      refine hK.out _ _ ⟨Ad, cd, Ax, cx, m4_, m10_, (by rw [ha.out]; exact putSel_upk 12 hb_ rfl rfl rfl), Q_TN, Q_T, Q_FA, Q_FB, Q_X4_, Q_X10_⟩
                    refine steps_cons ?_ ?_
                    · rintro b a w' ⟨Ad, cd, Ax, cx, m4_, m10_, ha, Q_TN, Q_T, Q_FA, Q_FB, Q_X4_, Q_X10_⟩ hb_ hon hoff
                      refine ⟨_, rfl, fun K hK => ?_⟩
                      have e149 : a.tmps[149]? = some (.bool true) := by rw [ha]; exact putSel_on (e := (12, 149, .bool true)) 12 rfl rfl (hon 12 (by kernel_rfl)) rfl
                      replace ha := Aside0.mk ha
                      have TN := Aside0.mk Q_TN
                      have T := Aside0.mk Q_T
                      have FA := Aside0.mk Q_FA
                      have FB := Aside0.mk Q_FB
                      refine value_ (w1 := w') (v := .bool true) (by rfl) rfl ?_ ?_
                      · go_simp
                        (try simp only [i64_w])
                        try rfl
                      refine hK.out _ _ ⟨Ad, cd, Ax, cx, m4_, m10_, (by rw [ha.out]; exact putSel_upk 13 hb_ rfl rfl rfl), Q_TN, Q_T, Q_FA, Q_FB, Q_X4_, Q_X10_⟩
                    exact steps_nil
                  rintro b a W25 hall ⟨Ad, cd, Ax, cx, m4_, m10_, ha, Q_TN, Q_T, Q_FA, Q_FB, Q_X4_, Q_X10_⟩
                  clear FA FB T TN
                  have hb0_ := hall 0 (by kernel_rfl)
                  have hb1_ := hall 1 (by kernel_rfl)
                  have hb2_ := hall 2 (by kernel_rfl)
                  have hb3_ := hall 3 (by kernel_rfl)
                  have hb4_ := hall 4 (by kernel_rfl)
                  have hb5_ := hall 5 (by kernel_rfl)
                  have hb6_ := hall 6 (by kernel_rfl)
                  have hb7_ := hall 7 (by kernel_rfl)
                  have hb8_ := hall 8 (by kernel_rfl)
                  have hb9_ := hall 9 (by kernel_rfl)
                  have hb10_ := hall 10 (by kernel_rfl)
                  have hb11_ := hall 11 (by kernel_rfl)
                  have hb12_ := hall 12 (by kernel_rfl)
                  have hb13_ := hall 13 (by kernel_rfl)
                  subst ha
                  obtain rfl := Q_X4_ hb4_
                  obtain rfl := Q_X10_ hb10_
                  simp only [putSel, hb0_, hb1_, hb2_, hb3_, hb4_, hb5_, hb6_, hb7_, hb8_, hb9_, hb10_, hb11_, hb12_, hb13_, if_true, Act.put, List.setIfInBounds_toArray, List.set_cons_zero, List.set_cons_succ]
                  have TN := Aside0.mk Q_TN
                  clear Q_TN
                  rw [hb5_, hb11_] at Q_T
                  have T := Aside0.mk (show Two W2 W25 L X D1 D1 from Q_T)
                  clear Q_T
                  have FA := Aside0.mk Q_FA
                  clear Q_FA
                  have FB := Aside0.mk Q_FB
                  clear Q_FB
                  clear hall hb0_ hb1_ hb2_ hb3_ hb4_ hb5_ hb6_ hb7_ hb8_ hb9_ hb10_ hb11_ hb12_ hb13_
                  go_wp2_with fail
                  go_meet
                  exact ⟨rfl, D1, ⟨T.out, HD1.out⟩, ⟨blk_turn HZ17.out TN.out (fun h => h.elim HNS.out.2.2.1 HNS.out.2.2.2)⟩⟩
                | false =>
                  by_cases k3 : x.f0 = 3
                  case pos =>
                    go_upto_region 27 with fail
                    obtain ⟨r1, hr1⟩ : ∃ v, v = (D.erase bk).1 := ⟨_, rfl⟩
                    obtain ⟨D1, hD1⟩ : ∃ v, v = (D.erase bk).2 := ⟨_, rfl⟩
                    have HD1 : Aside0 (D1.B = B) := ⟨by rw [hD1, erase_B]; exact HDB.out⟩
                    have HPL : Aside0 (∀ (w' : World) (E : Dv), Two W2 w' L X D E → Calls Try.prog 16 #[.pointer (some ⟨L.g, 0, none⟩), .int .i64 bk] w' fun e w2 => e = .returned (.int .i64 r1) ∧ Two W2 w2 L X D1 E ∧ Turn w' w2 L.S) := ⟨fun w' E h => by
                      rw [hr1, hD1]
                      exact two_erase h bk⟩
                    have HPX : Aside0 (∀ (w' : World) (E : Dv), Two W2 w' L X E D → Calls Try.prog 26 #[.pointer (some ⟨X.g, 0, none⟩), .int .i64 bk] w' fun e w2 => e = .returned (.int .i64 r1) ∧ Two W2 w2 L X E D1 ∧ Turn w' w2 X.S) := ⟨fun w' E h => by
                      rw [hr1, hD1]
                      exact two_xerase h bk⟩
                    have TN := Aside0.mk (Turn.of_below (below_drew1 (Below.refl W17.heap.size W17)) (fun k => L.S k ∨ X.S k))
                    have T := Aside0.mk (HT17.out.below (below_drew1 (Below.refl W17.heap.size W17)))
                    clear hr1 hD1 c0 k3
                    refine start_ (n := 10) (S := fun w' => True) (ds := []) #[false, false, false, false, false, false, false, false, false, false] (by kernel_rfl) rfl rfl trivial (fun hHeld => ?_)
                    refine with_tabW does27.tab27 does27.bits27 (fun HT_ HW_ => ?_)
                    generalize W17.drew = wq at TN T hHeld ⊢
                    refine inv_at [0, 1, 2, 3, 4, 5, 6, 7, 8, 9] (fun a0_ b a w' => a = putSel a0_ b [(0, 152, .pointer (some ⟨L.g, 0, none⟩)), (1, 153, .pointer (some ⟨g10, 0, none⟩)), (2, 154, .int .i64 bk), (3, 155, .int .i64 r1), (4, 156, .pointer (some ⟨X.g, 0, none⟩)), (5, 157, .pointer (some ⟨g10, 0, none⟩)), (6, 158, .int .i64 bk), (7, 159, .int .i64 r1), (8, 160, .bool true), (9, 11, .bool true)] ∧ (Turn W17 w' (fun k => L.S k ∨ X.S k)) ∧ (Two W2 w' L X (dvI (b 3) D D1) (dvI (b 7) D D1))) HT_.out HW_.out (by kernel_rfl) (by kernel_rfl) ?_ ?_ ?_
                    · exact ⟨by simp only [putSel, Bool.false_eq_true, if_false], TN.out, T.out⟩
                    · skip
                      clear T TN
                      refine steps_cons ?_ ?_
                      · rintro b a w' ⟨ha, Q_TN, Q_T⟩ hb_ hon hoff
                        refine ⟨_, rfl, fun K hK => ?_⟩
                        have e5 : a.tmps[5]? = some (.pointer (some ⟨L.g, 0, none⟩)) := by rw [ha]; exact (putSel_off rfl).trans rfl
                        replace ha := Aside0.mk ha
                        have TN := Aside0.mk Q_TN
                        have T := Aside0.mk Q_T
                        refine value_ (w1 := w') (v := .pointer (some ⟨L.g, 0, none⟩)) (by rfl) rfl ?_ ?_
                        · go_simp
                          (try simp only [i64_w])
                          try rfl
                        refine hK.out _ _ ⟨(by rw [ha.out]; exact putSel_upk 0 hb_ rfl rfl rfl), Q_TN, Q_T⟩
                      refine steps_cons ?_ ?_
                      · rintro b a w' ⟨ha, Q_TN, Q_T⟩ hb_ hon hoff
                        refine ⟨_, rfl, fun K hK => ?_⟩
                        have e10 : a.tmps[10]? = some (.pointer (some ⟨g10, 0, none⟩)) := by rw [ha]; exact (putSel_off rfl).trans rfl
                        replace ha := Aside0.mk ha
                        have TN := Aside0.mk Q_TN
                        have T := Aside0.mk Q_T
                        refine value_ (w1 := w') (v := .pointer (some ⟨g10, 0, none⟩)) (by rfl) rfl ?_ ?_
                        · go_simp
                          (try simp only [i64_w])
                          try rfl
                        refine hK.out _ _ ⟨(by rw [ha.out]; exact putSel_upk 1 hb_ rfl rfl rfl), Q_TN, Q_T⟩
                      refine steps_cons ?_ ?_
                      · rintro b a w' ⟨ha, Q_TN, Q_T⟩ hb_ hon hoff
                        refine ⟨_, rfl, fun K hK => ?_⟩
                        have e153 : a.tmps[153]? = some (.pointer (some ⟨g10, 0, none⟩)) := by rw [ha]; exact putSel_on (e := (1, 153, .pointer (some ⟨g10, 0, none⟩))) 1 rfl rfl (hon 1 (by kernel_rfl)) rfl
                        replace ha := Aside0.mk ha
                        have TN := Aside0.mk Q_TN
                        have T := Aside0.mk Q_T
                        have c0_ := blk_cell (blk_turn HZP.out TN.out (fun h => h.elim HNS.out.2.1.1 HNS.out.2.1.2)) 0
                        refine value_ (w1 := w') (v := .int .i64 bk) (by rfl) rfl ?_ ?_
                        · go_simp
                          (try simp only [i64_w])
                          try rfl
                        refine hK.out _ _ ⟨(by rw [ha.out]; exact putSel_upk 2 hb_ rfl rfl rfl), Q_TN, Q_T⟩
                      refine steps_cons ?_ ?_
                      · rintro b a w' ⟨ha, Q_TN, Q_T⟩ hb_ hon hoff
                        refine ⟨_, rfl, fun K hK => ?_⟩
                        have e152 : a.tmps[152]? = some (.pointer (some ⟨L.g, 0, none⟩)) := by rw [ha]; exact putSel_on (e := (0, 152, .pointer (some ⟨L.g, 0, none⟩))) 0 rfl rfl (hon 0 (by kernel_rfl)) rfl
                        have e154 : a.tmps[154]? = some (.int .i64 bk) := by rw [ha]; exact putSel_on (e := (2, 154, .int .i64 bk)) 2 rfl rfl (hon 2 (by kernel_rfl)) rfl
                        replace ha := Aside0.mk ha
                        have TN := Aside0.mk Q_TN
                        have T := Aside0.mk Q_T
                        have T_ := T.out
                        rw [hb_] at T_
                        refine goes_ Try.func16 (by kernel_rfl) rfl #[.pointer (some ⟨L.g, 0, none⟩), .int .i64 bk] (by rfl) rfl rfl (by first | (simp only [List.map_toArray, List.map_cons, List.map_nil, Act.eval, Array.getD_eq_getD_getElem?, Option.getD_some, e152, e154]; done) | (simp only [List.map_toArray, List.map_cons, List.map_nil, Act.eval, Array.getD_eq_getD_getElem?, Option.getD_some, e152, e154]; rfl)) ?_
                        with_reducible refine (HPL.out _ _ T_).mono ?_
                        rintro e w2 ⟨rfl, hT_, ht_⟩
                        refine ⟨_, rfl, ?_⟩
                        refine hK.out _ _ ⟨(by rw [ha.out]; exact putSel_upk 3 hb_ rfl rfl rfl), TN.out.trans ht_ (fun k hk => .inl (.inl hk)), hT_⟩
                      refine steps_cons ?_ ?_
                      · rintro b a w' ⟨ha, Q_TN, Q_T⟩ hb_ hon hoff
                        refine ⟨_, rfl, fun K hK => ?_⟩
                        have e7 : a.tmps[7]? = some (.pointer (some ⟨X.g, 0, none⟩)) := by rw [ha]; exact (putSel_off rfl).trans rfl
                        replace ha := Aside0.mk ha
                        have TN := Aside0.mk Q_TN
                        have T := Aside0.mk Q_T
                        refine value_ (w1 := w') (v := .pointer (some ⟨X.g, 0, none⟩)) (by rfl) rfl ?_ ?_
                        · go_simp
                          (try simp only [i64_w])
                          try rfl
                        refine hK.out _ _ ⟨(by rw [ha.out]; exact putSel_upk 4 hb_ rfl rfl rfl), Q_TN, Q_T⟩
                      refine steps_cons ?_ ?_
                      · rintro b a w' ⟨ha, Q_TN, Q_T⟩ hb_ hon hoff
                        refine ⟨_, rfl, fun K hK => ?_⟩
                        have e10 : a.tmps[10]? = some (.pointer (some ⟨g10, 0, none⟩)) := by rw [ha]; exact (putSel_off rfl).trans rfl
                        replace ha := Aside0.mk ha
                        have TN := Aside0.mk Q_TN
                        have T := Aside0.mk Q_T
                        refine value_ (w1 := w') (v := .pointer (some ⟨g10, 0, none⟩)) (by rfl) rfl ?_ ?_
                        · go_simp
                          (try simp only [i64_w])
                          try rfl
                        refine hK.out _ _ ⟨(by rw [ha.out]; exact putSel_upk 5 hb_ rfl rfl rfl), Q_TN, Q_T⟩
                      refine steps_cons ?_ ?_
                      · rintro b a w' ⟨ha, Q_TN, Q_T⟩ hb_ hon hoff
                        refine ⟨_, rfl, fun K hK => ?_⟩
                        have e157 : a.tmps[157]? = some (.pointer (some ⟨g10, 0, none⟩)) := by rw [ha]; exact putSel_on (e := (5, 157, .pointer (some ⟨g10, 0, none⟩))) 5 rfl rfl (hon 5 (by kernel_rfl)) rfl
                        replace ha := Aside0.mk ha
                        have TN := Aside0.mk Q_TN
                        have T := Aside0.mk Q_T
                        have c0_ := blk_cell (blk_turn HZP.out TN.out (fun h => h.elim HNS.out.2.1.1 HNS.out.2.1.2)) 0
                        refine value_ (w1 := w') (v := .int .i64 bk) (by rfl) rfl ?_ ?_
                        · go_simp
                          (try simp only [i64_w])
                          try rfl
                        refine hK.out _ _ ⟨(by rw [ha.out]; exact putSel_upk 6 hb_ rfl rfl rfl), Q_TN, Q_T⟩
                      refine steps_cons ?_ ?_
                      · rintro b a w' ⟨ha, Q_TN, Q_T⟩ hb_ hon hoff
                        refine ⟨_, rfl, fun K hK => ?_⟩
                        have e156 : a.tmps[156]? = some (.pointer (some ⟨X.g, 0, none⟩)) := by rw [ha]; exact putSel_on (e := (4, 156, .pointer (some ⟨X.g, 0, none⟩))) 4 rfl rfl (hon 4 (by kernel_rfl)) rfl
                        have e158 : a.tmps[158]? = some (.int .i64 bk) := by rw [ha]; exact putSel_on (e := (6, 158, .int .i64 bk)) 6 rfl rfl (hon 6 (by kernel_rfl)) rfl
                        replace ha := Aside0.mk ha
                        have TN := Aside0.mk Q_TN
                        have T := Aside0.mk Q_T
                        have T_ := T.out
                        rw [hb_] at T_
                        refine goes_ Try.func26 (by kernel_rfl) rfl #[.pointer (some ⟨X.g, 0, none⟩), .int .i64 bk] (by rfl) rfl rfl (by first | (simp only [List.map_toArray, List.map_cons, List.map_nil, Act.eval, Array.getD_eq_getD_getElem?, Option.getD_some, e156, e158]; done) | (simp only [List.map_toArray, List.map_cons, List.map_nil, Act.eval, Array.getD_eq_getD_getElem?, Option.getD_some, e156, e158]; rfl)) ?_
                        with_reducible refine (HPX.out _ _ T_).mono ?_
                        rintro e w2 ⟨rfl, hT_, ht_⟩
                        refine ⟨_, rfl, ?_⟩
                        refine hK.out _ _ ⟨(by rw [ha.out]; exact putSel_upk 7 hb_ rfl rfl rfl), TN.out.trans ht_ (fun k hk => .inl (.inr hk)), hT_⟩
                      refine steps_cons ?_ ?_
                      · rintro b a w' ⟨ha, Q_TN, Q_T⟩ hb_ hon hoff
                        refine ⟨_, rfl, fun K hK => ?_⟩
                        have e155 : a.tmps[155]? = some (.int .i64 r1) := by rw [ha]; exact putSel_on (e := (3, 155, .int .i64 r1)) 3 rfl rfl (hon 3 (by kernel_rfl)) rfl
                        have e159 : a.tmps[159]? = some (.int .i64 r1) := by rw [ha]; exact putSel_on (e := (7, 159, .int .i64 r1)) 7 rfl rfl (hon 7 (by kernel_rfl)) rfl
                        replace ha := Aside0.mk ha
                        have TN := Aside0.mk Q_TN
                        have T := Aside0.mk Q_T
                        refine value_ (w1 := w') (v := .bool true) (by rfl) rfl ?_ ?_
                        · go_simp
                          (try simp only [i64_w])
                          try rfl
                        refine hK.out _ _ ⟨(by rw [ha.out]; exact putSel_upk 8 hb_ rfl rfl rfl), Q_TN, Q_T⟩
                      refine steps_cons ?_ ?_
                      · rintro b a w' ⟨ha, Q_TN, Q_T⟩ hb_ hon hoff
                        refine ⟨_, rfl, fun K hK => ?_⟩
                        have e160 : a.tmps[160]? = some (.bool true) := by rw [ha]; exact putSel_on (e := (8, 160, .bool true)) 8 rfl rfl (hon 8 (by kernel_rfl)) rfl
                        replace ha := Aside0.mk ha
                        have TN := Aside0.mk Q_TN
                        have T := Aside0.mk Q_T
                        refine value_ (w1 := w') (v := .bool true) (by rfl) rfl ?_ ?_
                        · go_simp
                          (try simp only [i64_w])
                          try rfl
                        refine hK.out _ _ ⟨(by rw [ha.out]; exact putSel_upk 9 hb_ rfl rfl rfl), Q_TN, Q_T⟩
                      exact steps_nil
                    rintro b a W27 hall ⟨ha, Q_TN, Q_T⟩
                    clear T TN
                    have hb0_ := hall 0 (by kernel_rfl)
                    have hb1_ := hall 1 (by kernel_rfl)
                    have hb2_ := hall 2 (by kernel_rfl)
                    have hb3_ := hall 3 (by kernel_rfl)
                    have hb4_ := hall 4 (by kernel_rfl)
                    have hb5_ := hall 5 (by kernel_rfl)
                    have hb6_ := hall 6 (by kernel_rfl)
                    have hb7_ := hall 7 (by kernel_rfl)
                    have hb8_ := hall 8 (by kernel_rfl)
                    have hb9_ := hall 9 (by kernel_rfl)
                    subst ha
                    simp only [putSel, hb0_, hb1_, hb2_, hb3_, hb4_, hb5_, hb6_, hb7_, hb8_, hb9_, if_true, Act.put, List.setIfInBounds_toArray, List.set_cons_zero, List.set_cons_succ]
                    have TN := Aside0.mk Q_TN
                    clear Q_TN
                    rw [hb3_, hb7_] at Q_T
                    have T := Aside0.mk (show Two W2 W27 L X D1 D1 from Q_T)
                    clear Q_T
                    clear hall hb0_ hb1_ hb2_ hb3_ hb4_ hb5_ hb6_ hb7_ hb8_ hb9_
                    go_wp2_with fail
                    go_meet
                    exact ⟨rfl, D1, ⟨T.out, HD1.out⟩, ⟨blk_turn HZ17.out TN.out (fun h => h.elim HNS.out.2.2.1 HNS.out.2.2.2)⟩⟩
                  case neg =>
                    by_cases k4 : x.f0 = 4
                    case pos =>
                      have e4 : (x.f0 == 4) = true := by simp [k4]
                      clear k4
                      go_upto_region 30 with (go_at_call 19; refine (two_power HT17.out).mono ?_; rintro e w18 ⟨rfl, hT, hTn⟩; have HT18 := Aside0.mk hT; have HTN := Aside0.mk hTn; clear hT hTn)
                      obtain ⟨okx, hX⟩ := HT18.out.right
                      have HX18 := Aside0.mk hX
                      have HTX := Aside0.mk (HT18.out.turnR (E' := D.power) (fun ok h => XV.set_down h false) ((Turn.refl w18 X.S).setCell (p := ⟨X.g, 9, none⟩) (.inl (.inl rfl)) (.bool false)))
                      have hz := blk_turn HZ17.out HTN.out HNS.out.2.2.1
                      have HZX := Aside0.mk (blk_turn hz ((Turn.refl w18 X.S).setCell (p := ⟨X.g, 9, none⟩) (.inl (.inl rfl)) (.bool false)) HNS.out.2.2.2)
                      have c9 := (xtop_cells hX).2.2.2.2.2.2.2.2.2
                      have f9 := blk_frozen hX.top 9
                      clear hX hz c0
                      go_wp2_with fail
                      go_meet
                      exact ⟨rfl, D.power, ⟨HTX.out, HDB.out⟩, HZX⟩
                    case neg =>
                      obtain ⟨okl, hL⟩ := HT17.out.left
                      obtain ⟨okx, hX⟩ := HT17.out.right
                      have HL17 := Aside0.mk hL
                      have HX17 := Aside0.mk hX
                      obtain ⟨rd, hrd⟩ : ∃ r, r = D.read bk pgx := ⟨_, rfl⟩
                      have HRL := Aside0.mk (read_calls hL bk pgx)
                      have HRX := Aside0.mk (fun (w' : World) (hb : Below W17.heap.size W17 w') => xread_calls (hX.below hb) bk pgx)
                      rw [← hrd] at HRL HRX
                      obtain ⟨st, hst⟩ : ∃ s, s = strOfNums rd.1 := ⟨_, rfl⟩
                      rw [← hst] at HRX
                      have HSN : Aside0 (∀ W A c, Kd.C (Kd.int .u8) W A rd.1.length rd.1 → (convert 38 9 (.slice A rd.1.length c)).run Try.prog W = .ok (.string st) W) := ⟨fun W A c hC => by rw [hst]; exact Kd.C_string Try.underlying38 Try.underlying5 Try.underlying9 hC⟩
                      have c1 := blk_cell HZP.out 0
                      have c2 := blk_cell HZP.out 1
                      clear hL hX hrd hst
                      go_upto_region 22 with (first | (go_at_call 21; refine HRL.out.mono ?_; rintro e w18 ⟨A_, c_, rfl, hc, hF, hb⟩; have HB18 := Aside0.mk hb; have HF18 := Aside0.mk hF; have d1 := blk_cell (blk_below HZP.out hb) 0; have d2 := blk_cell (blk_below HZP.out hb) 1; clear hb hF hc c1 c2) | (go_at_call 27; refine (HRX.out _ HB18.out).mono ?_; rintro e w19 ⟨rfl, hb⟩; have HB19 := Aside0.mk (below_then HB18.out HB18.out.size hb); have HK := HSN.out _ _ c_ (Kd.F_now (Kd.F_below HF18.out hb)); clear hb d1 d2))
                      go_wp2_with fail
                      go_meet
                      exact ⟨rfl, D, ⟨HT17.out.below HB19.out, HDB.out⟩, ⟨blk_below HZ17.out HB19.out⟩⟩
              case rest =>
              obtain ⟨rfl, D', HTW', HZ'⟩ := hcut
              obtain ⟨okl, hL⟩ := HTW'.out.1.left
              obtain ⟨okx, hX⟩ := HTW'.out.1.right
              have HSA := Aside0.mk (same_calls hL hX)
              clear hL hX
              go_upto_region 11 with (go_at_call 28; refine HSA.out.mono ?_; rintro e w31 ⟨rfl, hb⟩; have HT31 := Aside0.mk (HTW'.out.1.below hb); have HZ31 := Aside0.mk (blk_below HZ'.out hb); clear hb)
              have hw1 : IntKind.i64.wrap ((i : Int) + 1) = (i : Int) + 1 := by rw [i64_w]; unfold wrap64; have := HI40.out; omega
              go_wp2_with fail
              go_roundg (gk - 1)
              case measure => have := HI.out; have := HI40.out; omega
              case rel => exact ⟨i + 1, D', by go_num, ⟨by have := HI40.out; omega, by have := HI.out; have := HI40.out; omega⟩, ⟨HT31.out, HTW'.out.2⟩, HZ31⟩
end Go.Proofs.Ytnchdmidaigheaa.ND
namespace Go.Proofs.Ytnchdmidaigheaa.Hp
open Go.RowKit Go.Proofs.YtnchdmidaigheaaW.PrintWords Go.Proofs.YtnchdmidaigheaaW.PrintLast Go.Proofs.YtnchdmidaigheaaW.PrintMore
attribute [local go_sem] max2_int min2_int max_two min_two max_three min_three max_four min_four   -- for this text's walks alone
set_option linter.unusedVariables false
set_option linter.unusedSimpArgs false
open Classical in
noncomputable def wagtaillaw14_NandDoes.f (p0 p1 p2 : Int) (bad : List Int) (fs : List S65) (l : List S40) : Option Bool := if l.length ≤ 9223372036854775807 ∧ (∀ f ∈ fs, isBytes f.f2) ∧ (∀ x ∈ l, isBytes x.f2) then some true else none
set_option maxHeartbeats 8000000 in
set_option maxRecDepth 100000 in
theorem wagtaillaw14_NandDoes.calls (a0_0 : Int) (a0_1 : Int) (a0_2 : Int) (A0_3 : Option Addr) (c0_3 : Nat) (l0_3 : List Int) (A0_4 : Option Addr) (c0_4 : Nat) (l0_4 : List (S65)) (A1 : Option Addr) (c1 : Nat) (l1 : List (S40)) (r : Bool) (w : World) (hr0_3 : Kd.C (Kd.int .i64) w A0_3 l0_3.length l0_3) (hc0_3 : l0_3.length ≤ c0_3) (hr0_4 : Kd.C k65 w A0_4 l0_4.length l0_4) (hc0_4 : l0_4.length ≤ c0_4) (hr1 : Kd.C k40 w A1 l1.length l1) (hc1 : l1.length ≤ c1) (h : wagtaillaw14_NandDoes.f a0_0 a0_1 a0_2 l0_3 l0_4 l1 = some r) :
    Calls Try.prog 4 #[.agg #[.int .i64 a0_0, .int .i64 a0_1, .int .i64 a0_2, .slice A0_3 l0_3.length c0_3, .slice A0_4 l0_4.length c0_4], .slice A1 l1.length c1] w fun e w' => e = .returned (.bool r) ∧ Below w.heap.size w w' := by
  unfold wagtaillaw14_NandDoes.f at h
  by_cases hc : l1.length ≤ 9223372036854775807 ∧ (∀ f ∈ l0_4, isBytes f.f2) ∧ (∀ x ∈ l1, isBytes x.f2)
  case neg => rw [if_neg hc] at h; cases h
  rw [if_pos hc] at h
  obtain rfl := Option.some.inj h
  exact ND.does_calls a0_0 a0_1 a0_2 l0_3 l0_4 l1 A0_3 A0_4 A1 c0_3 c0_4 c1 hr0_3 hc0_3 hr0_4 hc0_4 hr1 hc.2.1 hc.2.2 hc.1
end Go.Proofs.Ytnchdmidaigheaa.Hp
namespace Go.Proofs.Ytnchdmidaigheaa.Hp
open Go.RowKit Go.Proofs.YtnchdmidaigheaaW.PrintWords
def ok23 (x : S23) : Prop := ((Lit.int .i64 x.f0).wf = true) ∧ ((Lit.int .i64 x.f1).wf = true) ∧ ((Lit.int .i64 x.f2).wf = true)
theorem tk23 : Tk Try.prog k23 23 ok23 :=
  Tk.imp (Tk.iso (Tk.struct Try.underlying23 (by kernel_rfl) (Tks.cons (Tk.int Try.underlying3) rfl (by kernel_rfl) (Tks.cons (Tk.int Try.underlying3) rfl (by kernel_rfl) (Tks.last (Tk.int Try.underlying3) rfl (by kernel_rfl))))) (fun x : S23 => (x.f0, x.f1, x.f2)) (fun p => ⟨p.1, p.2.1, p.2.2⟩) (fun _ => rfl)) (fun x h => h)
def ok65 (x : S65) : Prop := ((Lit.int .i64 x.f0).wf = true) ∧ ((Lit.int .i64 x.f1).wf = true) ∧ (x.f2.length ≤ 9223372036854775807 ∧ ∀ x_ ∈ x.f2, (Lit.int .u8 x_).wf = true)
theorem tk65 : Tk Try.prog k65 65 ok65 :=
  Tk.imp (Tk.iso (Tk.struct Try.underlying65 (by kernel_rfl) (Tks.cons (Tk.int Try.underlying3) rfl (by kernel_rfl) (Tks.cons (Tk.int Try.underlying3) rfl (by kernel_rfl) (Tks.last (Tk.slice (Tk.int Try.underlying5) Try.underlying38 (by kernel_rfl)) rfl (by kernel_rfl))))) (fun x : S65 => (x.f0, x.f1, x.f2)) (fun p => ⟨p.1, p.2.1, p.2.2⟩) (fun _ => rfl)) (fun x h => h)
def ok27 (x : S27) : Prop := (ok23 x.f0) ∧ (x.f1.length ≤ 9223372036854775807 ∧ ∀ x_ ∈ x.f1, (Lit.int .i64 x_).wf = true) ∧ (x.f2.length ≤ 9223372036854775807 ∧ ∀ x_ ∈ x.f2, ok65 x_)
theorem tk27 : Tk Try.prog k27 27 ok27 :=
  Tk.imp (Tk.iso (Tk.struct Try.underlying27 (by kernel_rfl) (Tks.cons tk23 rfl (by kernel_rfl) (Tks.cons (Tk.slice (Tk.int Try.underlying3) Try.underlying24 (by kernel_rfl)) rfl (by kernel_rfl) (Tks.last (Tk.slice tk65 Try.underlying25 (by kernel_rfl)) rfl (by kernel_rfl))))) (fun x : S27 => (x.f0, x.f1, x.f2)) (fun p => ⟨p.1, p.2.1, p.2.2⟩) (fun _ => rfl)) (fun x h => h)
def ok37 (x : S37) : Prop := ((Lit.int .i64 x.f0).wf = true) ∧ ((Lit.int .i64 x.f1).wf = true)
theorem tk37 : Tk Try.prog k37 37 ok37 :=
  Tk.imp (Tk.iso (Tk.struct Try.underlying37 (by kernel_rfl) (Tks.cons (Tk.int Try.underlying3) rfl (by kernel_rfl) (Tks.last (Tk.int Try.underlying3) rfl (by kernel_rfl)))) (fun x : S37 => (x.f0, x.f1)) (fun p => ⟨p.1, p.2⟩) (fun _ => rfl)) (fun x h => h)
def ok40 (x : S40) : Prop := ((Lit.int .i64 x.f0).wf = true) ∧ (ok37 x.f1) ∧ (x.f2.length ≤ 9223372036854775807 ∧ ∀ x_ ∈ x.f2, (Lit.int .u8 x_).wf = true)
theorem tk40 : Tk Try.prog k40 40 ok40 :=
  Tk.imp (Tk.iso (Tk.struct Try.underlying40 (by kernel_rfl) (Tks.cons (Tk.int Try.underlying3) rfl (by kernel_rfl) (Tks.cons tk37 rfl (by kernel_rfl) (Tks.last (Tk.slice (Tk.int Try.underlying5) Try.underlying38 (by kernel_rfl)) rfl (by kernel_rfl))))) (fun x : S40 => (x.f0, x.f1, x.f2)) (fun p => ⟨p.1, p.2.1, p.2.2⟩) (fun _ => rfl)) (fun x h => h)
end Go.Proofs.Ytnchdmidaigheaa.Hp
namespace Go.Proofs.Ytnchdmidaigheaa.Hp
open Go.RowKit Go.Proofs.YtnchdmidaigheaaW.PrintWords
def wagtaillaw14_NandDoes.Pure : Prop := ∀ (x0 : S27) (l1 : List (S40)), (ok27 x0) → (l1.length ≤ 9223372036854775807 ∧ ∀ x_ ∈ l1, ok40 x_) → ∃ _k : Nat, wagtaillaw14_NandDoes.f x0.f0.f0 x0.f0.f1 x0.f0.f2 x0.f1 x0.f2 l1 = some true
end Go.Proofs.Ytnchdmidaigheaa.Hp
namespace Go.Proofs.Ytnchdmidaigheaa.Pure
set_option linter.unusedVariables false
open Go.RowKit Go.Proofs.Ytnchdmidaigheaa.Hp Go.Proofs.YtnchdmidaigheaaW.PrintWords Go.Proofs.YtnchdmidaigheaaW.PrintLast
theorem NandDoes : wagtaillaw14_NandDoes.Pure := by
  intro x l hx hl
  exact ⟨0, if_pos ⟨hl.1, fun f hf y hy => bounds_u8 ((hx.2.2.2 f hf).2.2.2 y hy), fun a ha y hy => bounds_u8 ((hl.2 a ha).2.2.2 y hy)⟩⟩
end Go.Proofs.Ytnchdmidaigheaa.Pure
namespace Go.Proofs.YtnchdmidaigheaaW.PrintWords
open Go.ChangeShapes Go.WideShapes
end Go.Proofs.YtnchdmidaigheaaW.PrintWords
namespace Go.Proofs.Ytnchdmidaigheaa.nandDoes
open Go.ChangeShapes Go.WideShapes Go.ChangeAt Go.RowKit Go.Proofs.YtnchdmidaigheaaW.PrintWords Go.Proofs.Ytnchdmidaigheaa.Hp
open Go.ChangeMaps (open_string shut_string)
set_option linter.unusedVariables false
set_option linter.unusedSimpArgs false
theorem own : ownKnob Try.prog.godebug = none := by kernel_rfl
theorem laidOut : laidOutB Try.prog = true := by kernel_rfl
set_option maxRecDepth 100000 in
theorem lifted (os : Os) (started : os.Started) (H : Type) (enc : TypeId × Value → H) :
    ReturnsInHanded {} Try.checked os 4 .any (Rows.nandDoesSpec.pre6 enc Try.prog Try.f4 Rows.nandDoesRow.domain false) (Rows.nandDoesSpec.post enc Try.prog Try.f4 false true false false) := by
  refine returnsInHanded_of_change_sized (C := Try.checked) own started (by kernel_rfl) Try.func4
    (ChangeSpec.witness6 (enc := enc) (C := Try.checked) false ⟨#[], #[.agg #[.int .i64 0, .int .i64 0, .int .i64 0, .slice none 0 0, .slice none 0 0], .slice none 0 0], []⟩ 8 (by kernel_rfl) (by kernel_rfl) (by kernel_rfl) (by kernel_rfl)) ?_
  intro W base args ds gs before hval0 hW hcnd hsz0 _
  have hsz : (DataW.weightsEach Try.prog (Try.f4.params.toList ++ Rows.nandDoesSpec.plain.varTypes Try.prog) (ds ++ gs)).all (· ≤ reachBytes) = true := hsz0
  have hval : ∀ (j : Nat) t v, Try.f4.params[j]? = some t → args[j]? = some v → Value.okWide Try.prog W .any base t v := hval0
  have hW' := hW
  obtain ⟨p, q, hA0, hV, rfl, hfz, hnd⟩ := hW
  have hA : DataW.TrodAll enc Try.prog W 0 (fun _ => true) true Try.f4.params.toList args.toList ds p := hA0
  rw [Try.params4] at hA hval hsz
  obtain ⟨v0, vs0, d0, ds0, p0, q0, hargs, rfl, rfl, h0, r0⟩ := trodAll_cons hA
  obtain ⟨v1, vs1, d1, ds1, p1, q1, rfl, rfl, rfl, h1, r1⟩ := trodAll_cons r0
  obtain ⟨rfl, rfl, rfl⟩ := trodAll_nil r1
  obtain rfl : args = #[v0, v1] := by cases args; simp_all
  obtain ⟨rfl, rfl⟩ := trodVars_none hV
  have k0 := h0
  have lt0 : ∀ x ∈ p0, x.block < W.heap.size := by obtain ⟨m, hm⟩ := k0; exact DataW.trod_lt m _ _ _ hm
  obtain ⟨cs0, rfl, _⟩ := okWide_struct Try.underlying27 (hval 0 27 v0 rfl rfl)
  obtain ⟨x0, z0, g0⟩ := (show ∃ y, k27.K W y cs0.toList ∧ ok27 y from by obtain ⟨fuel, hf⟩ := h0; exact tk27.go hf)
  obtain ⟨A3_0, c3_0, A4_0, c4_0, e0, y0_0, y0_1, y0_2, y0_3⟩ := k27_open z0
  obtain rfl : cs0 = #[.int .i64 x0.f0.f0, .int .i64 x0.f0.f1, .int .i64 x0.f0.f2, .slice A3_0 x0.f1.length c3_0, .slice A4_0 x0.f2.length c4_0] := by cases cs0; simpa using e0
  have k1 := h1
  have lt1 : ∀ x ∈ p1, x.block < W.heap.size := by obtain ⟨m, hm⟩ := k1; exact DataW.trod_lt m _ _ _ hm
  obtain ⟨a1, len1, cap1, rfl⟩ := okWide_slice Try.underlying28 (hval 1 28 v1 rfl rfl)
  obtain ⟨l1, ⟨A1, c1, e1, hc1, hr1⟩, g1⟩ := (show ∃ y, (Kd.slice 40 k40).K W y [.slice a1 len1 cap1] ∧ (y.length ≤ 9223372036854775807 ∧ ∀ x_ ∈ y, ok40 x_) from by obtain ⟨fuel, hf⟩ := h1; exact ((Tk.slice tk40 Try.underlying28 (by kernel_rfl))).go hf)
  injection e1 with e1
  injection e1 with ea1 el1 ec1
  subst ea1 el1 ec1
  clear hA0 hval0 hsz0 hsz
  obtain ⟨kk, hk⟩ := Pure.NandDoes x0 l1 g0 g1
  refine (wagtaillaw14_NandDoes.calls x0.f0.f0 x0.f0.f1 x0.f0.f2 A3_0 c3_0 x0.f1 A4_0 c4_0 x0.f2 a1 cap1 l1 true W y0_1 y0_0 y0_3 y0_2 hr1 hc1 hk).mono fun e W' ⟨he, bel0⟩ => ?_
  have bel : Below W.heap.size W W' := bel0
  subst he
  exact ⟨_, rfl, _, _, _, [], _, [], hW', trodAll_mk1 (shut_bool Try.underlying4 _), (trodAll_cons_mk (Below.trod laidOut (by kernel_rfl) (of_decide_eq_true (by kernel_rfl)) k0 bel lt0) (trodAll_cons_mk (Below.trod laidOut (by kernel_rfl) (of_decide_eq_true (by kernel_rfl)) k1 bel lt1) trodAll_mk0)), rfl, bel.frame _, fun h => by cases h⟩
theorem over : Rows.nandDoesRow.holds Try.pinned (OpenSpec.ofChange Rows.nandDoesSpec) :=
  OpenClaim.holds_of_wide 4 Try.f4 rfl rfl rfl rfl rfl rfl rfl ⟨rfl, rfl, rfl, rfl, rfl⟩ rfl rfl rfl rfl rfl (by kernel_rfl) Try.func4 (by kernel_rfl)
    (of_decide_eq_true (by kernel_rfl)) (by unfold Func.isWrapper; first | (rw [if_pos (by decide +kernel)]; kernel_rfl) | (rw [if_neg (by decide +kernel)]; exact ⟨rfl, rfl⟩))
    (fun os started H enc _ => lifted os started H enc)
theorem proved : Rows.NandDoesSaid := over
#print axioms proved
end Go.Proofs.Ytnchdmidaigheaa.nandDoes
namespace Go.Proofs.Ytnchdmidaigheaa
theorem nandDoes_holds : Rows.NandDoesSaid := nandDoes.proved
end Go.Proofs.Ytnchdmidaigheaa
