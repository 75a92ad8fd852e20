/- Parts of the proof of the statement DamageDoes, laid together (5 of 6). -/
import Derived.Deep.Upon
import Derived.Test.YtnchdmidaigheaaZDamageDoes3
namespace Go.Proofs.Ytnchdmidaigheaa.Hp
open Go.RowKit Go.Proofs.YtnchdmidaigheaaW.PrintWords Go.Proofs.YtnchdmidaigheaaW.PrintLast Go.Proofs.YtnchdmidaigheaaW.PrintMore
attribute [local go_sem] max2_int min2_int max_two min_two max_three min_three max_four min_four   -- for this text's walks alone
set_option linter.unusedVariables false
set_option linter.unusedSimpArgs false
theorem eqA37 (d : Nat) (w : World) (x0 y0 : Int) (x1 y1 : Int) :
    (Op.equalIn (d + 2) 37 (.agg #[.int .i64 x0, .int .i64 x1]) (.agg #[.int .i64 y0, .int .i64 y1])).run Try.prog w = .ok (x0 == y0 && (x1 == y1)) w := by
  refine eqA_of Try.underlying37 (by kernel_rfl) ?_
  refine eqf_cons (by rfl) (by go_simp; rfl) (by go_simp; rfl) (by go_simp) ?_
  exact eqf_last (by rfl) (by go_simp; rfl) (by go_simp; rfl) (by go_simp)
theorem eqA82 (d : Nat) (w : World) (x0 y0 : Int) (x1 y1 : Int) (x2 y2 : Int) (x3 y3 : Int) (x4 y4 : Int) (x5 y5 : Int) (x6 y6 : Int) :
    (Op.equalIn (d + 2) 82 (.agg #[.int .i64 x0, .int .i64 x1, .int .i64 x2, .int .u64 x3, .int .u64 x4, .int .i64 x5, .int .i64 x6]) (.agg #[.int .i64 y0, .int .i64 y1, .int .i64 y2, .int .u64 y3, .int .u64 y4, .int .i64 y5, .int .i64 y6])).run Try.prog w = .ok (x0 == y0 && (x1 == y1 && (x2 == y2 && (x3 == y3 && (x4 == y4 && (x5 == y5 && (x6 == y6))))))) w := by
  refine eqA_of Try.underlying82 (by kernel_rfl) ?_
  refine eqf_cons (by rfl) (by go_simp; rfl) (by go_simp; rfl) (by go_simp) ?_
  refine eqf_cons (by rfl) (by go_simp; rfl) (by go_simp; rfl) (by go_simp) ?_
  refine eqf_cons (by rfl) (by go_simp; rfl) (by go_simp; rfl) (by go_simp) ?_
  refine eqf_cons (by rfl) (by go_simp; rfl) (by go_simp; rfl) (by go_simp) ?_
  refine eqf_cons (by rfl) (by go_simp; rfl) (by go_simp; rfl) (by go_simp) ?_
  refine eqf_cons (by rfl) (by go_simp; rfl) (by go_simp; rfl) (by go_simp) ?_
  exact eqf_last (by rfl) (by go_simp; rfl) (by go_simp; rfl) (by go_simp)
theorem eqA94 (d : Nat) (w : World) (x0 y0 : Int) (x1 y1 : Int) (x2 y2 : Int) (x3 y3 : Int) (x4 y4 : Int) (x5 y5 : Int) (x6 y6 : Int) (x7 y7 : Int) (x8 y8 : Int) :
    (Op.equalIn (d + 3) 94 (.agg #[.int .i64 x0, .int .i64 x1, .int .i64 x2, .int .i64 x3, .int .i64 x4, .int .u64 x5, .int .u64 x6, .int .i64 x7, .int .i64 x8]) (.agg #[.int .i64 y0, .int .i64 y1, .int .i64 y2, .int .i64 y3, .int .i64 y4, .int .u64 y5, .int .u64 y6, .int .i64 y7, .int .i64 y8])).run Try.prog w = .ok ((x0 == y0 && (x1 == y1)) && ((x2 == y2 && (x3 == y3 && (x4 == y4 && (x5 == y5 && (x6 == y6 && (x7 == y7 && (x8 == y8))))))))) w := by
  refine eqA_of Try.underlying94 (by kernel_rfl) ?_
  refine eqf_cons (by rfl) (by go_simp) (by go_simp) (eqA37 (d + 0) w _ _ _ _) ?_
  exact eqf_last (by rfl) (by go_simp) (by go_simp) (eqA82 (d + 0) w _ _ _ _ _ _ _ _ _ _ _ _ _ _)
end Go.Proofs.Ytnchdmidaigheaa.Hp
namespace Go.Proofs.Ytnchdmidaigheaa.Hp
open Go.RowKit Go.Proofs.YtnchdmidaigheaaW.PrintWords Go.Proofs.YtnchdmidaigheaaW.PrintLast Go.Proofs.YtnchdmidaigheaaW.PrintMore
attribute [local go_sem] max2_int min2_int max_two min_two max_three min_three max_four min_four   -- for this text's walks alone
set_option linter.unusedVariables false
set_option linter.unusedSimpArgs false
attribute [local go_sem high] eqA94
def wagtailref01_High.f (a0 : Int) (a1 : Int) : Option (Int) := if a0 > a1 then (some a0) else (some a1)
set_option maxHeartbeats 8000000 in
set_option maxRecDepth 100000 in
theorem wagtailref01_High.calls (a0 : Int) (a1 : Int) (r : Int) (w : World) (h : wagtailref01_High.f a0 a1 = some r) :
    Calls Try.prog 115 #[.int .i64 a0, .int .i64 a1] w fun e w' => e = .returned (.int .i64 r) ∧ Drawn0 w w' := by
  have H : (if a0 > a1 then (some a0) else (some a1)) = some r := h
  clear h
  by_cases c3 : a0 > a1
  · rw [if_pos c3] at H
    have c3b0 : decide (a1 < a0) = true := decide_eq_true c3
    clear c3
    obtain rfl := Option.some.inj H
    go_enter Try.func115, Try.ntmps115
    go_wp2
    go_ret
    exact ⟨by first | rfl | (simp; done) | (simp [*]; done), by repeat (first | exact Drawn0.refl _ | apply Drawn0.step)⟩
  · rw [if_neg c3] at H
    have c3b0 : decide (a1 < a0) = false := decide_eq_false c3
    clear c3
    obtain rfl := Option.some.inj H
    go_enter Try.func115, Try.ntmps115
    go_wp2
    go_ret
    exact ⟨by first | rfl | (simp; done) | (simp [*]; done), by repeat (first | exact Drawn0.refl _ | apply Drawn0.step)⟩
def wagtailref13_Good.l0 : Nat → List Int → Int → Int → Int → Int → Int → Option (Int)
  | 0, _, _, _, _, _, _ => none
  | k + 1, x1, x5, x6, x367000, x367001, x367002 => if x6 < x367000 then ((wagtailref13_Has.f k x1 x6).bind fun t367 => (if t367 = true then (wagtailref13_Good.l0 k x1 x5 (wrap64 (x6 + 1)) x367000 x367001 x367002) else (wagtailref13_Good.l0 k x1 (wrap64 (x5 + 1)) (wrap64 (x6 + 1)) x367000 x367001 x367002))) else (some x5)
def wagtailref13_Good.f (k : Nat) (a0_0 : Int) (a0_1 : Int) (a0_2 : Int) (l1 : List Int) : Option (Int) := wagtailref13_Good.l0 k l1 0 2 a0_0 a0_1 a0_2
theorem wagtailref13_Good.mono_l : ∀ k, (∀ y0 y1 y2 y3 y4 y5, LeO (wagtailref13_Good.l0 k y0 y1 y2 y3 y4 y5) (wagtailref13_Good.l0 (k + 1) y0 y1 y2 y3 y4 y5))
  | 0 => fun _ _ _ _ _ _ r h => by simp [wagtailref13_Good.l0] at h
  | k + 1 => by
    have ih0 := wagtailref13_Good.mono_l k
    · intro y0 y1 y2 y3 y4 y5
      unfold wagtailref13_Good.l0
      repeat' first
      | (with_reducible exact ih0 _ _ _ _ _ _)
      | (with_reducible exact wagtailref13_Has.mono _ _ _)
      | (with_reducible exact LeO.refl _)
      | (with_reducible exact LeO.none _)
      | (with_reducible refine LeO.ite ?_ ?_)
      | (with_reducible refine LeO.bind ?_ (fun _ => ?_))
      | exact ih0 _ _ _ _ _ _
      | exact wagtailref13_Has.mono _ _ _
      | exact LeO.none _
      | refine LeO.ite ?_ ?_
      | refine LeO.bind ?_ (fun _ => ?_)
theorem wagtailref13_Good.mono : ∀ a0 a1 a2 a3 k, LeO (wagtailref13_Good.f k a0 a1 a2 a3) (wagtailref13_Good.f (k + 1) a0 a1 a2 a3) := by
  intro a0 a1 a2 a3 k
  have ih0 := wagtailref13_Good.mono_l k
  unfold wagtailref13_Good.f
  repeat' first
      | (with_reducible exact ih0 _ _ _ _ _ _)
      | (with_reducible exact wagtailref13_Has.mono _ _ _)
      | (with_reducible exact LeO.refl _)
      | (with_reducible exact LeO.none _)
      | (with_reducible refine LeO.ite ?_ ?_)
      | (with_reducible refine LeO.bind ?_ (fun _ => ?_))
      | exact ih0 _ _ _ _ _ _
      | exact wagtailref13_Has.mono _ _ _
      | exact LeO.none _
      | refine LeO.ite ?_ ?_
      | refine LeO.bind ?_ (fun _ => ?_)
set_option maxHeartbeats 8000000 in
set_option maxRecDepth 100000 in
theorem wagtailref13_Good.calls (k : Nat) (a0_0 : Int) (a0_1 : Int) (a0_2 : Int) (A1 : Option Addr) (c1 : Nat) (l1 : List Int) (r : Int) (w : World) (hr1 : Kd.C (Kd.int .i64) w A1 l1.length l1) (hc1 : l1.length ≤ c1) (h : wagtailref13_Good.f k a0_0 a0_1 a0_2 l1 = some r) :
    Calls Try.prog 116 #[.agg #[.int .i64 a0_0, .int .i64 a0_1, .int .i64 a0_2], .slice A1 l1.length c1] w fun e w' => e = .returned (.int .i64 r) ∧ Below w.heap.size w w' := by
  have hu23 := Try.underlying23
  have HR1 := Aside0.mk hr1
  have HC1 := Aside0.mk hc1
  clear hr1 hc1
  have HB := Aside0.mk (Below.refl w.heap.size w)
  have H : (wagtailref13_Good.l0 k l1 0 2 a0_0 a0_1 a0_2) = some r := h
  clear h
  have H' := Aside0.mk H
  clear H
  go_enter Try.func116, Try.ntmps116
  go_wp2_with (first | ((with_reducible refine gate_dst (N := 2) rfl ?_); refine box_event ?hg (N := 2) ?hd (cs := #[.int .i64 a0_0, .int .i64 a0_1, .int .i64 a0_2]) (t := 23) ?hr ?_; (case hd => rfl); (case hg => rfl); (case hr => first | (go_simp; done) | (go_simp; rfl)); intro gb366 hg w3 hbox hb; have n0_ := Aside0.mk (below_step (by repeat (first | (with_reducible first | exact HB.out | apply below_alloc | apply pw_below_drewN | apply below_drew1) | exact HB.out)) hb); have n1_ := Aside0.mk (hbox); have n2_ := Aside0.mk ((by rw [hg]; exact (below_size (by repeat (first | (with_reducible first | exact HB.out | apply below_alloc | apply pw_below_drewN | apply below_drew1) | exact HB.out))) : w.heap.size ≤ gb366)); have n3_ := Aside0.mk ((by rw [hg]; exact (below_size (by repeat (first | (with_reducible first | exact HB.out | apply below_alloc | apply pw_below_drewN | apply below_drew1) | exact HB.out))) : w.heap.size ≤ gb366)); clear HB; have HB := n0_; have BK366 := n1_; have GW366 := n2_; have GE366 := n3_; clear n0_ n1_ n2_ n3_; clear hb hbox hg))
  go_loopg [5, 6] k (fun kq v5 v6 w' => ∃ (x5_1 : Int) (x6_1 : Int), v5 = .int .i64 x5_1 ∧ v6 = .int .i64 x6_1 ∧ Aside0 (wagtailref13_Good.l0 kq l1 x5_1 x6_1 a0_0 a0_1 a0_2 = some r) ∧ Aside0 (kq ≤ k) ∧ Aside0 (w'.heap[gb366]? = some (.cells #[.int .i64 a0_0, .int .i64 a0_1, .int .i64 a0_2] 23 (0, 0))) ∧ Aside0 (Below w.heap.size w w'))
  case atStart => exact ⟨(0), (2), (by first | rfl | (simp; done) | (simp [*]; done)), (by first | rfl | (simp; done) | (simp [*]; done)), H', ⟨Nat.le_refl _⟩, ⟨by (with_reducible repeat (first | refine blk_drewN ?_ _ | refine blk_drew ?_ | refine blk_alloc ?_ _)); exact BK366.out⟩, ⟨by repeat (first | (with_reducible first | exact HB.out | apply below_alloc | apply pw_below_drewN | apply below_drew1 | refine below_set ?_ GE366.out) | exact HB.out)⟩⟩
  case round =>
    clear H'
    try clear c1
    try clear p2
    obtain ⟨x5_1, x6_1, rfl, rfl, HA, HK1, BK366, HB⟩ := hrel
    cases gk with
    | zero => exact absurd HA.out (by simp [wagtailref13_Good.l0])
    | succ k1 =>
      have H := HA.out
      clear HA
      simp only [wagtailref13_Good.l0] at H
      by_cases c4 : x6_1 < a0_0
      · rw [if_pos c4] at H
        have c4b0 : decide (x6_1 < a0_0) = true := decide_eq_true c4
        clear c4
        replace H := Option.bind_eq_some_iff.mp H
        obtain ⟨t367, A50, H⟩ := H
        replace H : (if t367 = true then (wagtailref13_Good.l0 k1 l1 x5_1 (wrap64 (x6_1 + 1)) a0_0 a0_1 a0_2) else (wagtailref13_Good.l0 k1 l1 (wrap64 (x5_1 + 1)) (wrap64 (x6_1 + 1)) a0_0 a0_1 a0_2)) = some r := H
        have A5 := Aside0.mk A50
        clear A50
        by_cases c6 : t367 = true
        · subst c6
          have H1 : (wagtailref13_Good.l0 k1 l1 x5_1 (wrap64 (x6_1 + 1)) a0_0 a0_1 a0_2) = some r := by rw [if_pos rfl] at H; exact H
          clear H
          have H := H1
          clear H1
          have H' := Aside0.mk H
          clear H
          have hcz7_0 : wr.cell? ⟨gb366, 0, none⟩ = some (.int .i64 a0_0) := (blk_cell BK366.out 0).trans rfl
          have hcz7_1 : wr.cell? ⟨gb366, 1, none⟩ = some (.int .i64 a0_1) := (blk_cell BK366.out 1).trans rfl
          have hcz7_2 : wr.cell? ⟨gb366, 2, none⟩ = some (.int .i64 a0_2) := (blk_cell BK366.out 2).trans rfl
          have hfz7_0 := blk_frozen BK366.out 0
          have hfz7_1 := blk_frozen BK366.out 1
          have hfz7_2 := blk_frozen BK366.out 2
          go_wp2_with (first | ((with_reducible refine gate_callee (f := 44) rfl ?_); refine goesL_ (some 15) rfl rfl Try.func44 (by kernel_rfl) rfl #[.slice A1 l1.length c1, .int .i64 x6_1] rfl (by (try simp only [List.map_toArray, List.map_cons, List.map_nil]); first | done | rfl | (simp only [List.length_drop, List.length_take]; rfl)) ?_; (with_reducible refine (wagtailref13_Has.calls k1 _ _ l1 x6_1 true _ ?side1 ?side2 A5.out).mono ?_); (case side1 => repeat (first | exact (Kd.C_below HR1.out HB.out) | (with_reducible refine Kd.C_alloc ?_ _) | (with_reducible refine Kd.C_drewN ?_ _) | (with_reducible refine Kd.C_drew ?_))); (case side2 => exact HC1.out); rintro e w' ⟨rfl, ⟨nd, rfl⟩⟩; refine ⟨_, rfl, ?_⟩))
          go_roundg k1
          case measure => have := HK1.out; omega
          case rel => exact ⟨(x5_1), (wrap64 (x6_1 + 1)), (by first | rfl | (simp; done) | (simp [*]; done)), (by first | rfl | (simp; done) | (simp [*]; done)), H', ⟨by have := HK1.out; omega⟩, ⟨by (with_reducible repeat (first | refine blk_drewN ?_ _ | refine blk_drew ?_ | refine blk_alloc ?_ _)); exact BK366.out⟩, ⟨by repeat (first | (with_reducible first | exact HB.out | apply below_alloc | apply pw_below_drewN | apply below_drew1 | refine below_set ?_ GE366.out) | exact HB.out)⟩⟩
        · replace c6 := Bool.eq_false_iff.mpr c6
          subst c6
          have H1 : (wagtailref13_Good.l0 k1 l1 (wrap64 (x5_1 + 1)) (wrap64 (x6_1 + 1)) a0_0 a0_1 a0_2) = some r := by rw [if_neg (show ¬ (false = true) by decide)] at H; exact H
          clear H
          have H := H1
          clear H1
          have H' := Aside0.mk H
          clear H
          have hcz8_0 : wr.cell? ⟨gb366, 0, none⟩ = some (.int .i64 a0_0) := (blk_cell BK366.out 0).trans rfl
          have hcz8_1 : wr.cell? ⟨gb366, 1, none⟩ = some (.int .i64 a0_1) := (blk_cell BK366.out 1).trans rfl
          have hcz8_2 : wr.cell? ⟨gb366, 2, none⟩ = some (.int .i64 a0_2) := (blk_cell BK366.out 2).trans rfl
          have hfz8_0 := blk_frozen BK366.out 0
          have hfz8_1 := blk_frozen BK366.out 1
          have hfz8_2 := blk_frozen BK366.out 2
          go_wp2_with (first | ((with_reducible refine gate_callee (f := 44) rfl ?_); refine goesL_ (some 15) rfl rfl Try.func44 (by kernel_rfl) rfl #[.slice A1 l1.length c1, .int .i64 x6_1] rfl (by (try simp only [List.map_toArray, List.map_cons, List.map_nil]); first | done | rfl | (simp only [List.length_drop, List.length_take]; rfl)) ?_; (with_reducible refine (wagtailref13_Has.calls k1 _ _ l1 x6_1 false _ ?side1 ?side2 A5.out).mono ?_); (case side1 => repeat (first | exact (Kd.C_below HR1.out HB.out) | (with_reducible refine Kd.C_alloc ?_ _) | (with_reducible refine Kd.C_drewN ?_ _) | (with_reducible refine Kd.C_drew ?_))); (case side2 => exact HC1.out); rintro e w' ⟨rfl, ⟨nd, rfl⟩⟩; refine ⟨_, rfl, ?_⟩))
          go_roundg k1
          case measure => have := HK1.out; omega
          case rel => exact ⟨(wrap64 (x5_1 + 1)), (wrap64 (x6_1 + 1)), (by first | rfl | (simp; done) | (simp [*]; done)), (by first | rfl | (simp; done) | (simp [*]; done)), H', ⟨by have := HK1.out; omega⟩, ⟨by (with_reducible repeat (first | refine blk_drewN ?_ _ | refine blk_drew ?_ | refine blk_alloc ?_ _)); exact BK366.out⟩, ⟨by repeat (first | (with_reducible first | exact HB.out | apply below_alloc | apply pw_below_drewN | apply below_drew1 | refine below_set ?_ GE366.out) | exact HB.out)⟩⟩
      · rw [if_neg c4] at H
        have c4b0 : decide (x6_1 < a0_0) = false := decide_eq_false c4
        clear c4
        obtain rfl := Option.some.inj H
        have hcz9_0 : wr.cell? ⟨gb366, 0, none⟩ = some (.int .i64 a0_0) := (blk_cell BK366.out 0).trans rfl
        have hcz9_1 : wr.cell? ⟨gb366, 1, none⟩ = some (.int .i64 a0_1) := (blk_cell BK366.out 1).trans rfl
        have hcz9_2 : wr.cell? ⟨gb366, 2, none⟩ = some (.int .i64 a0_2) := (blk_cell BK366.out 2).trans rfl
        have hfz9_0 := blk_frozen BK366.out 0
        have hfz9_1 := blk_frozen BK366.out 1
        have hfz9_2 := blk_frozen BK366.out 2
        go_wp2
        go_ret
        exact ⟨by first | rfl | (simp [errW_none, errW_some] <;> rfl) | (simp [*, errW_none, errW_some] <;> rfl), by repeat (first | (with_reducible first | exact HB.out | apply below_alloc | apply pw_below_drewN | apply below_drew1 | refine below_set ?_ GE366.out) | exact HB.out)⟩
def wagtailref13_Logical.f (k : Nat) (a0_0 : Int) (a0_1 : Int) (a0_2 : Int) (l1 : List Int) : Option (Int) := (wagtailref13_Right.f a0_0 a0_1 a0_2).bind fun t369 => (if t369 = true then ((wagtailref13_Good.f k a0_0 a0_1 a0_2 l1).bind fun t370 => ((wagtailref01_High.f (wrap64 ((wrap64 ((wrap64 ((wrap64 (t370 - 2)) - a0_2)) * a0_1)) - 16)) 0).bind fun t371 => (some t371))) else (some 0))
theorem wagtailref13_Logical.mono : ∀ a0 a1 a2 a3 k, LeO (wagtailref13_Logical.f k a0 a1 a2 a3) (wagtailref13_Logical.f (k + 1) a0 a1 a2 a3) := by
  intro a0 a1 a2 a3 k
  unfold wagtailref13_Logical.f
  repeat' first
      | (with_reducible exact wagtailref13_Good.mono _ _ _ _ _)
      | (with_reducible exact LeO.refl _)
      | (with_reducible exact LeO.none _)
      | (with_reducible refine LeO.ite ?_ ?_)
      | (with_reducible refine LeO.bind ?_ (fun _ => ?_))
      | exact wagtailref13_Good.mono _ _ _ _ _
      | exact LeO.none _
      | refine LeO.ite ?_ ?_
      | refine LeO.bind ?_ (fun _ => ?_)
def wagtailref13_Logical.T3 : Bool × List (List Nat × List Nat) := (true, [([], []), ([], []), ([0, 1], [0, 1]), ([2], [2]), ([], []), ([4], [4]), ([3, 5], [3, 5]), ([], []), ([7], [7]), ([6, 8], [6, 8]), ([9], [9]), ([10, 2], [10]), ([11, 11, 0, 1, 2, 3, 4, 5, 6, 7, 8, 9, 10, 11], [11])])
def wagtailref13_Logical.B3 : List Nat := [0, 0, 3, 7, 0, 16, 63, 0, 128, 511, 1023, 2047, 4095]
theorem wagtailref13_Logical.tab3 : rtab .any (opsOf Try.f96 3) = wagtailref13_Logical.T3 := by kernel_rfl
theorem wagtailref13_Logical.bits3 : waitsOk wagtailref13_Logical.T3.2 wagtailref13_Logical.B3 = true := by kernel_rfl
set_option maxHeartbeats 8000000 in
set_option maxRecDepth 100000 in
theorem wagtailref13_Logical.calls (k : Nat) (a0_0 : Int) (a0_1 : Int) (a0_2 : Int) (A1 : Option Addr) (c1 : Nat) (l1 : List Int) (r : Int) (w : World) (hr1 : Kd.C (Kd.int .i64) w A1 l1.length l1) (hc1 : l1.length ≤ c1) (h : wagtailref13_Logical.f k a0_0 a0_1 a0_2 l1 = some r) :
    Calls Try.prog 96 #[.agg #[.int .i64 a0_0, .int .i64 a0_1, .int .i64 a0_2], .slice A1 l1.length c1] w fun e w' => e = .returned (.int .i64 r) ∧ Below w.heap.size w w' := by
  have hu23 := Try.underlying23
  have HR1 := Aside0.mk hr1
  have HC1 := Aside0.mk hc1
  clear hr1 hc1
  have HB := Aside0.mk (Below.refl w.heap.size w)
  have H : ((wagtailref13_Right.f a0_0 a0_1 a0_2).bind fun t369 => (if t369 = true then ((wagtailref13_Good.f k a0_0 a0_1 a0_2 l1).bind fun t370 => ((wagtailref01_High.f (wrap64 ((wrap64 ((wrap64 ((wrap64 (t370 - 2)) - a0_2)) * a0_1)) - 16)) 0).bind fun t371 => (some t371))) else (some 0))) = some r := h
  clear h
  replace H := Option.bind_eq_some_iff.mp H
  obtain ⟨t369, A30, H⟩ := H
  replace H : (if t369 = true then ((wagtailref13_Good.f k a0_0 a0_1 a0_2 l1).bind fun t370 => ((wagtailref01_High.f (wrap64 ((wrap64 ((wrap64 ((wrap64 (t370 - 2)) - a0_2)) * a0_1)) - 16)) 0).bind fun t371 => (some t371))) else (some 0)) = some r := H
  have A3 := Aside0.mk A30
  clear A30
  by_cases c4 : t369 = true
  · subst c4
    have H1 : ((wagtailref13_Good.f k a0_0 a0_1 a0_2 l1).bind fun t370 => ((wagtailref01_High.f (wrap64 ((wrap64 ((wrap64 ((wrap64 (t370 - 2)) - a0_2)) * a0_1)) - 16)) 0).bind fun t371 => (some t371))) = some r := by rw [if_pos rfl] at H; exact H
    clear H
    have H := H1
    clear H1
    replace H := Option.bind_eq_some_iff.mp H
    obtain ⟨t370, A50, H⟩ := H
    replace H : ((wagtailref01_High.f (wrap64 ((wrap64 ((wrap64 ((wrap64 (t370 - 2)) - a0_2)) * a0_1)) - 16)) 0).bind fun t371 => (some t371)) = some r := H
    have A5 := Aside0.mk A50
    clear A50
    replace H := Option.bind_eq_some_iff.mp H
    obtain ⟨t371, A60, H⟩ := H
    replace H : (some t371) = some r := H
    have A6 := Aside0.mk A60
    clear A60
    obtain rfl := Option.some.inj H
    go_enter Try.func96, Try.ntmps96
    try go_wp2_with (first | ((with_reducible refine gate_dst (N := 2) rfl ?_); refine box_event ?hg (N := 2) ?hd (cs := #[.int .i64 a0_0, .int .i64 a0_1, .int .i64 a0_2]) (t := 23) ?hr ?_; (case hd => rfl); (case hg => rfl); (case hr => first | (go_simp; done) | (go_simp; rfl)); intro gb368 hg w7 hbox hb; have n0_ := Aside0.mk (below_step (by repeat (first | (with_reducible first | exact HB.out | apply below_alloc | apply pw_below_drewN | apply below_drew1) | exact HB.out)) hb); have n1_ := Aside0.mk (hbox); have n2_ := Aside0.mk ((by rw [hg]; exact (below_size (by repeat (first | (with_reducible first | exact HB.out | apply below_alloc | apply pw_below_drewN | apply below_drew1) | exact HB.out))) : w.heap.size ≤ gb368)); have n3_ := Aside0.mk ((by rw [hg]; exact (below_size (by repeat (first | (with_reducible first | exact HB.out | apply below_alloc | apply pw_below_drewN | apply below_drew1) | exact HB.out))) : w.heap.size ≤ gb368)); clear HB; have HB := n0_; have BK368 := n1_; have GW368 := n2_; have GE368 := n3_; clear n0_ n1_ n2_ n3_; clear hb hbox hg; have hcz8_0 : w7.cell? ⟨gb368, 0, none⟩ = some (.int .i64 a0_0) := (blk_cell BK368.out 0).trans rfl; have hcz8_1 : w7.cell? ⟨gb368, 1, none⟩ = some (.int .i64 a0_1) := (blk_cell BK368.out 1).trans rfl; have hcz8_2 : w7.cell? ⟨gb368, 2, none⟩ = some (.int .i64 a0_2) := (blk_cell BK368.out 2).trans rfl; have hfz8_0 := blk_frozen BK368.out 0; have hfz8_1 := blk_frozen BK368.out 1; have hfz8_2 := blk_frozen BK368.out 2) | ((with_reducible refine gate_callee (f := 12) rfl ?_); refine goesL_ (some 6) rfl rfl Try.func12 (by kernel_rfl) rfl #[.agg #[.int .i64 a0_0, .int .i64 a0_1, .int .i64 a0_2]] rfl (by (try simp only [List.map_toArray, List.map_cons, List.map_nil]); first | done | rfl | (simp only [List.length_drop, List.length_take]; rfl)) ?_; (with_reducible refine (wagtailref13_Right.calls a0_0 a0_1 a0_2 true _ A3.out).mono ?_); rintro e w9 ⟨rfl, hb⟩; refine ⟨_, rfl, ?_⟩; have n0_ := Aside0.mk (blk_below (g := gb368) (o := .cells #[.int .i64 a0_0, .int .i64 a0_1, .int .i64 a0_2] 23 (0, 0)) (by (with_reducible repeat (first | refine blk_drewN ?_ _ | refine blk_drew ?_ | refine blk_alloc ?_ _)); exact BK368.out) hb); have n1_ := Aside0.mk (below_step (by repeat (first | (with_reducible first | exact HB.out | apply below_alloc | apply pw_below_drewN | apply below_drew1 | refine below_set ?_ GE368.out) | exact HB.out)) hb); clear BK368; clear HB; have BK368 := n0_; have HB := n1_; clear n0_ n1_; (try clear hb); (try clear hb2); (try clear hk); (try clear hi)))
    have n0_ := Aside0.mk (blk_drew BK368.out)
    have n1_ := Aside0.mk (below_drew1 HB.out)
    clear BK368
    clear HB
    have BK368 := n0_
    have HB := n1_
    clear n0_ n1_
    refine start_ (n := 13) (S := fun w' => w'.cell? ⟨gb368, 0, none⟩ = some (.int .i64 a0_0) ∧ w'.cell? ⟨gb368, 1, none⟩ = some (.int .i64 a0_1) ∧ w'.cell? ⟨gb368, 2, none⟩ = some (.int .i64 a0_2)) (ds := []) #[false, false, false, false, false, false, false, false, false, false, false, false, false] (by kernel_rfl) rfl rfl ⟨(blk_cell BK368.out 0).trans rfl, (blk_cell BK368.out 1).trans rfl, (blk_cell BK368.out 2).trans rfl⟩ (fun hHeld => ?_); refine with_tabW wagtailref13_Logical.tab3 wagtailref13_Logical.bits3 (fun HT_ HW_ => ?_)
    generalize w9.drew = w10 at BK368 HB hHeld ⊢
    refine pure_ (i := 1) (N := some 9) (v := ?_) (a' := ?_) #[false, true, false, false, false, false, false, false, false, false, false, false, false] rfl rfl (any_of HT_.out (by kernel_rfl)) (fun _ _ _ h => h) (Or.inl ⟨by rfl, ?_⟩) ?_ ?_
    rotate_left
    · intro w'
      go_simp
      with_reducible rfl
    rotate_left
    · simp only [Act.put, List.setIfInBounds_toArray, List.set_cons_zero, List.set_cons_succ, i64_w, i32_w]
      rfl
    refine pure_ (i := 4) (N := some 12) (v := ?_) (a' := ?_) #[false, true, false, false, true, false, false, false, false, false, false, false, false] rfl rfl (any_of HT_.out (by kernel_rfl)) (fun _ _ _ h => h) (Or.inl ⟨by rfl, ?_⟩) ?_ ?_
    rotate_left
    · intro w'
      go_simp
      with_reducible rfl
    rotate_left
    · simp only [Act.put, List.setIfInBounds_toArray, List.set_cons_zero, List.set_cons_succ, i64_w, i32_w]
      rfl
    refine pure_ (i := 7) (N := some 15) (v := ?_) (a' := ?_) #[false, true, false, false, true, false, false, true, false, false, false, false, false] rfl rfl (any_of HT_.out (by kernel_rfl)) (fun _ _ _ h => h) (Or.inl ⟨by rfl, ?_⟩) ?_ ?_
    rotate_left
    · intro w'
      go_simp
      with_reducible rfl
    rotate_left
    · simp only [Act.put, List.setIfInBounds_toArray, List.set_cons_zero, List.set_cons_succ, i64_w, i32_w]
      rfl
    refine take_ (i := 0) (N := some 8) (v := ?_) (a' := ?_) #[true, true, false, false, true, false, false, true, false, false, false, false, false] rfl rfl (take_ofW HT_.out HW_.out (by kernel_rfl)) (fun _ _ _ h => h) (Or.inl ⟨by rfl, ?_⟩) hHeld ?_ ?_
    rotate_left
    · rintro w' ⟨s0, s1, s2⟩
      go_simp
      with_reducible rfl
    rotate_left
    · simp only [Act.put, List.setIfInBounds_toArray, List.set_cons_zero, List.set_cons_succ, i64_w, i32_w]
      rfl
    refine take_ (i := 5) (N := some 13) (v := ?_) (a' := ?_) #[true, true, false, false, true, true, false, true, false, false, false, false, false] rfl rfl (take_ofW HT_.out HW_.out (by kernel_rfl)) (fun _ _ _ h => h) (Or.inl ⟨by rfl, ?_⟩) hHeld ?_ ?_
    rotate_left
    · rintro w' ⟨s0, s1, s2⟩
      go_simp
      with_reducible rfl
    rotate_left
    · simp only [Act.put, List.setIfInBounds_toArray, List.set_cons_zero, List.set_cons_succ, i64_w, i32_w]
      rfl
    refine take_ (i := 8) (N := some 16) (v := ?_) (a' := ?_) #[true, true, false, false, true, true, false, true, true, false, false, false, false] rfl rfl (take_ofW HT_.out HW_.out (by kernel_rfl)) (fun _ _ _ h => h) (Or.inl ⟨by rfl, ?_⟩) hHeld ?_ ?_
    rotate_left
    · rintro w' ⟨s0, s1, s2⟩
      go_simp
      with_reducible rfl
    rotate_left
    · simp only [Act.put, List.setIfInBounds_toArray, List.set_cons_zero, List.set_cons_succ, i64_w, i32_w]
      rfl
    refine one_ (i := 2) (N := some 10) #[true, true, true, false, true, true, false, true, true, false, false, false, false] rfl rfl (one_of HT_.out (by kernel_rfl)) (by decide) (fun K hK => ?_)
    refine goes_ Try.func116 (by kernel_rfl) rfl #[.agg #[.int .i64 a0_0, .int .i64 a0_1, .int .i64 a0_2], .slice A1 l1.length c1] (by rfl) rfl rfl (by (try simp only [List.map_toArray, List.map_cons, List.map_nil]); first | done | rfl | (simp only [List.length_drop, List.length_take]; rfl)) ?_
    with_reducible refine (wagtailref13_Good.calls k a0_0 a0_1 a0_2 _ _ l1 t370 _ ?side1 ?side2 A5.out).mono ?_
    (case side1 => repeat (first | exact (Kd.C_below HR1.out HB.out) | (with_reducible refine Kd.C_alloc ?_ _) | (with_reducible refine Kd.C_drewN ?_ _) | (with_reducible refine Kd.C_drew ?_)))
    (case side2 => exact HC1.out)
    rintro e w11 ⟨rfl, hb⟩
    refine ⟨_, rfl, ?_⟩
    have n0_ := Aside0.mk (blk_below (g := gb368) (o := .cells #[.int .i64 a0_0, .int .i64 a0_1, .int .i64 a0_2] 23 (0, 0)) (by (with_reducible repeat (first | refine blk_drewN ?_ _ | refine blk_drew ?_ | refine blk_alloc ?_ _)); exact BK368.out) hb)
    have n1_ := Aside0.mk (below_step (by repeat (first | (with_reducible first | exact HB.out | apply below_alloc | apply pw_below_drewN | apply below_drew1 | refine below_set ?_ GE368.out) | exact HB.out)) hb)
    clear BK368
    clear HB
    have BK368 := n0_
    have HB := n1_
    clear n0_ n1_
    (try clear hb)
    (try clear hb2)
    (try clear hk)
    (try clear hi)
    refine hK.out _ _ ⟨(blk_cell BK368.out 0).trans rfl, (blk_cell BK368.out 1).trans rfl, (blk_cell BK368.out 2).trans rfl⟩ (fun hHeld => ?_)
    clear hK K
    refine norm_ (a' := ?_) ?_ ?_
    rotate_left
    · show Act.put _ (some 10) _ = _
      simp only [Act.put, List.setIfInBounds_toArray, List.set_cons_zero, List.set_cons_succ, i64_w, i32_w]
      rfl
    refine pure_ (i := 3) (N := some 11) (v := ?_) (a' := ?_) #[true, true, true, true, true, true, false, true, true, false, false, false, false] rfl rfl (any_of HT_.out (by kernel_rfl)) (fun _ _ _ h => h) (Or.inl ⟨by rfl, ?_⟩) ?_ ?_
    rotate_left
    · intro w'
      go_simp
      with_reducible rfl
    rotate_left
    · simp only [Act.put, List.setIfInBounds_toArray, List.set_cons_zero, List.set_cons_succ, i64_w, i32_w]
      rfl
    refine pure_ (i := 6) (N := some 14) (v := ?_) (a' := ?_) #[true, true, true, true, true, true, true, true, true, false, false, false, false] rfl rfl (any_of HT_.out (by kernel_rfl)) (fun _ _ _ h => h) (Or.inl ⟨by rfl, ?_⟩) ?_ ?_
    rotate_left
    · intro w'
      go_simp
      with_reducible rfl
    rotate_left
    · simp only [Act.put, List.setIfInBounds_toArray, List.set_cons_zero, List.set_cons_succ, i64_w, i32_w]
      rfl
    refine pure_ (i := 9) (N := some 17) (v := ?_) (a' := ?_) #[true, true, true, true, true, true, true, true, true, true, false, false, false] rfl rfl (any_of HT_.out (by kernel_rfl)) (fun _ _ _ h => h) (Or.inl ⟨by rfl, ?_⟩) ?_ ?_
    rotate_left
    · intro w'
      go_simp
      with_reducible rfl
    rotate_left
    · simp only [Act.put, List.setIfInBounds_toArray, List.set_cons_zero, List.set_cons_succ, i64_w, i32_w]
      rfl
    refine pure_ (i := 10) (N := some 18) (v := ?_) (a' := ?_) #[true, true, true, true, true, true, true, true, true, true, true, false, false] rfl rfl (any_of HT_.out (by kernel_rfl)) (fun _ _ _ h => h) (Or.inl ⟨by rfl, ?_⟩) ?_ ?_
    rotate_left
    · intro w'
      go_simp
      with_reducible rfl
    rotate_left
    · simp only [Act.put, List.setIfInBounds_toArray, List.set_cons_zero, List.set_cons_succ, i64_w, i32_w]
      rfl
    refine one_ (i := 11) (N := some 19) #[true, true, true, true, true, true, true, true, true, true, true, true, false] rfl rfl (one_of HT_.out (by kernel_rfl)) (by decide) (fun K hK => ?_)
    refine goes_ Try.func115 (by kernel_rfl) rfl #[.int .i64 (wrap64 ((wrap64 ((wrap64 ((wrap64 (t370 - 2)) - a0_2)) * a0_1)) - 16)), .int .i64 0] (by rfl) rfl rfl (by (try simp only [List.map_toArray, List.map_cons, List.map_nil]); first | done | rfl | (simp only [List.length_drop, List.length_take]; rfl)) ?_
    with_reducible refine (wagtailref01_High.calls (wrap64 ((wrap64 ((wrap64 ((wrap64 (t370 - 2)) - a0_2)) * a0_1)) - 16)) 0 t371 _ A6.out).mono ?_
    rintro e w' ⟨rfl, ⟨nd, rfl⟩⟩
    refine ⟨_, rfl, ?_⟩
    refine hK.out _ _ ⟨(blk_cell BK368.out 0).trans rfl, (blk_cell BK368.out 1).trans rfl, (blk_cell BK368.out 2).trans rfl⟩ (fun hHeld => ?_)
    clear hK K
    refine norm_ (a' := ?_) ?_ ?_
    rotate_left
    · show Act.put _ (some 19) _ = _
      simp only [Act.put, List.setIfInBounds_toArray, List.set_cons_zero, List.set_cons_succ, i64_w, i32_w]
      rfl
    refine pure_ (i := 12) (N := some 4) (v := ?_) (a' := ?_) #[true, true, true, true, true, true, true, true, true, true, true, true, true] rfl rfl (any_of HT_.out (by kernel_rfl)) (fun _ _ _ h => h) (Or.inl ⟨by rfl, ?_⟩) ?_ ?_
    rotate_left
    · intro w'
      go_simp
      with_reducible rfl
    rotate_left
    · simp only [Act.put, List.setIfInBounds_toArray, List.set_cons_zero, List.set_cons_succ, i64_w, i32_w]
      rfl
    refine done_ (done_of HT_.out (by kernel_rfl)) ?_
    try go_wp2
    go_ret
    exact ⟨by first | rfl | (simp [errW_none, errW_some] <;> rfl) | (simp [*, errW_none, errW_some] <;> rfl), by repeat (first | (with_reducible first | exact HB.out | apply below_alloc | apply pw_below_drewN | apply below_drew1 | refine below_set ?_ GE368.out) | exact HB.out)⟩
  · replace c4 := Bool.eq_false_iff.mpr c4
    subst c4
    have H1 : (some 0) = some r := by rw [if_neg (show ¬ (false = true) by decide)] at H; exact H
    clear H
    have H := H1
    clear H1
    obtain rfl := Option.some.inj H
    go_enter Try.func96, Try.ntmps96
    go_wp2_with (first | ((with_reducible refine gate_dst (N := 2) rfl ?_); refine box_event ?hg (N := 2) ?hd (cs := #[.int .i64 a0_0, .int .i64 a0_1, .int .i64 a0_2]) (t := 23) ?hr ?_; (case hd => rfl); (case hg => rfl); (case hr => first | (go_simp; done) | (go_simp; rfl)); intro gb368 hg w12 hbox hb; have n0_ := Aside0.mk (below_step (by repeat (first | (with_reducible first | exact HB.out | apply below_alloc | apply pw_below_drewN | apply below_drew1) | exact HB.out)) hb); have n1_ := Aside0.mk (hbox); have n2_ := Aside0.mk ((by rw [hg]; exact (below_size (by repeat (first | (with_reducible first | exact HB.out | apply below_alloc | apply pw_below_drewN | apply below_drew1) | exact HB.out))) : w.heap.size ≤ gb368)); have n3_ := Aside0.mk ((by rw [hg]; exact (below_size (by repeat (first | (with_reducible first | exact HB.out | apply below_alloc | apply pw_below_drewN | apply below_drew1) | exact HB.out))) : w.heap.size ≤ gb368)); clear HB; have HB := n0_; have BK368 := n1_; have GW368 := n2_; have GE368 := n3_; clear n0_ n1_ n2_ n3_; clear hb hbox hg; have hcz13_0 : w12.cell? ⟨gb368, 0, none⟩ = some (.int .i64 a0_0) := (blk_cell BK368.out 0).trans rfl; have hcz13_1 : w12.cell? ⟨gb368, 1, none⟩ = some (.int .i64 a0_1) := (blk_cell BK368.out 1).trans rfl; have hcz13_2 : w12.cell? ⟨gb368, 2, none⟩ = some (.int .i64 a0_2) := (blk_cell BK368.out 2).trans rfl; have hfz13_0 := blk_frozen BK368.out 0; have hfz13_1 := blk_frozen BK368.out 1; have hfz13_2 := blk_frozen BK368.out 2) | ((with_reducible refine gate_callee (f := 12) rfl ?_); refine goesL_ (some 6) rfl rfl Try.func12 (by kernel_rfl) rfl #[.agg #[.int .i64 a0_0, .int .i64 a0_1, .int .i64 a0_2]] rfl (by (try simp only [List.map_toArray, List.map_cons, List.map_nil]); first | done | rfl | (simp only [List.length_drop, List.length_take]; rfl)) ?_; (with_reducible refine (wagtailref13_Right.calls a0_0 a0_1 a0_2 false _ A3.out).mono ?_); rintro e w14 ⟨rfl, hb⟩; refine ⟨_, rfl, ?_⟩; have n0_ := Aside0.mk (blk_below (g := gb368) (o := .cells #[.int .i64 a0_0, .int .i64 a0_1, .int .i64 a0_2] 23 (0, 0)) (by (with_reducible repeat (first | refine blk_drewN ?_ _ | refine blk_drew ?_ | refine blk_alloc ?_ _)); exact BK368.out) hb); have n1_ := Aside0.mk (below_step (by repeat (first | (with_reducible first | exact HB.out | apply below_alloc | apply pw_below_drewN | apply below_drew1 | refine below_set ?_ GE368.out) | exact HB.out)) hb); clear BK368; clear HB; have BK368 := n0_; have HB := n1_; clear n0_ n1_; (try clear hb); (try clear hb2); (try clear hk); (try clear hi)))
    go_ret
    exact ⟨by first | rfl | (simp [errW_none, errW_some] <;> rfl) | (simp [*, errW_none, errW_some] <;> rfl), by repeat (first | (with_reducible first | exact HB.out | apply below_alloc | apply pw_below_drewN | apply below_drew1 | refine below_set ?_ GE368.out) | exact HB.out)⟩
end Go.Proofs.Ytnchdmidaigheaa.Hp
namespace Go.Proofs.Ytnchdmidaigheaa.Hp
open Go.RowKit Go.Proofs.YtnchdmidaigheaaW.PrintWords Go.Proofs.YtnchdmidaigheaaW.PrintLast Go.Proofs.YtnchdmidaigheaaW.PrintMore
attribute [local go_sem] max2_int min2_int max_two min_two max_three min_three max_four min_four   -- for this text's walks alone
set_option linter.unusedVariables false
set_option linter.unusedSimpArgs false
def wagtaillaw24_Good.f (k : Nat) (a0_0 : Int) (a0_1 : Int) (a0_2 : Int) (l0_3 : List Int) (l0_4 : List (S65)) : Option (Bool) := (wagtaillaw14_Plan_Light.f k a0_0 a0_1 a0_2 l0_3 l0_4).bind fun t373 => (if t373 = true then ((wagtailref13_Right.f a0_0 a0_1 a0_2).bind fun t374 => (if t374 = true then ((wagtailref13_Has.f k l0_3 0).bind fun t375 => (if t375 = true then (some false) else ((wagtailref13_Has.f k l0_3 1).bind fun t376 => (if t376 = true then (some false) else ((wagtailref13_Logical.f k a0_0 a0_1 a0_2 l0_3).bind fun t377 => (some (decide (t377 ≥ 1)))))))) else (some false))) else (some false))
theorem wagtaillaw24_Good.mono : ∀ a0 a1 a2 a3 a4 k, LeO (wagtaillaw24_Good.f k a0 a1 a2 a3 a4) (wagtaillaw24_Good.f (k + 1) a0 a1 a2 a3 a4) := by
  intro a0 a1 a2 a3 a4 k
  unfold wagtaillaw24_Good.f
  repeat' first
      | (with_reducible exact wagtaillaw14_Plan_Light.mono _ _ _ _ _ _)
      | (with_reducible exact wagtailref13_Has.mono _ _ _)
      | (with_reducible exact wagtailref13_Logical.mono _ _ _ _ _)
      | (with_reducible exact LeO.refl _)
      | (with_reducible exact LeO.none _)
      | (with_reducible refine LeO.ite ?_ ?_)
      | (with_reducible refine LeO.bind ?_ (fun _ => ?_))
      | exact wagtaillaw14_Plan_Light.mono _ _ _ _ _ _
      | exact wagtailref13_Has.mono _ _ _
      | exact wagtailref13_Logical.mono _ _ _ _ _
      | exact LeO.none _
      | refine LeO.ite ?_ ?_
      | refine LeO.bind ?_ (fun _ => ?_)
set_option maxHeartbeats 8000000 in
set_option maxRecDepth 100000 in
theorem wagtaillaw24_Good.calls (k : Nat) (a0_0 : Int) (a0_1 : Int) (a0_2 : Int) (A0_3 : Option Addr) (c0_3 : Nat) (l0_3 : List Int) (A0_4 : Option Addr) (c0_4 : Nat) (l0_4 : List (S65)) (r : Bool) (w : World) (hr0_3 : Kd.C (Kd.int .i64) w A0_3 l0_3.length l0_3) (hc0_3 : l0_3.length ≤ c0_3) (hr0_4 : Kd.C k65 w A0_4 l0_4.length l0_4) (hc0_4 : l0_4.length ≤ c0_4) (h : wagtaillaw24_Good.f k a0_0 a0_1 a0_2 l0_3 l0_4 = some r) :
    Calls Try.prog 54 #[.agg #[.int .i64 a0_0, .int .i64 a0_1, .int .i64 a0_2, .slice A0_3 l0_3.length c0_3, .slice A0_4 l0_4.length c0_4]] w fun e w' => e = .returned (.bool r) ∧ Below w.heap.size w w' := by
  have hu27 := Try.underlying27
  have hu23 := Try.underlying23
  have HR0_3 := Aside0.mk hr0_3
  have HC0_3 := Aside0.mk hc0_3
  clear hr0_3 hc0_3
  have HR0_4 := Aside0.mk hr0_4
  have HC0_4 := Aside0.mk hc0_4
  clear hr0_4 hc0_4
  have HB := Aside0.mk (Below.refl w.heap.size w)
  have H : ((wagtaillaw14_Plan_Light.f k a0_0 a0_1 a0_2 l0_3 l0_4).bind fun t373 => (if t373 = true then ((wagtailref13_Right.f a0_0 a0_1 a0_2).bind fun t374 => (if t374 = true then ((wagtailref13_Has.f k l0_3 0).bind fun t375 => (if t375 = true then (some false) else ((wagtailref13_Has.f k l0_3 1).bind fun t376 => (if t376 = true then (some false) else ((wagtailref13_Logical.f k a0_0 a0_1 a0_2 l0_3).bind fun t377 => (some (decide (t377 ≥ 1)))))))) else (some false))) else (some false))) = some r := h
  clear h
  replace H := Option.bind_eq_some_iff.mp H
  obtain ⟨t373, A20, H⟩ := H
  replace H : (if t373 = true then ((wagtailref13_Right.f a0_0 a0_1 a0_2).bind fun t374 => (if t374 = true then ((wagtailref13_Has.f k l0_3 0).bind fun t375 => (if t375 = true then (some false) else ((wagtailref13_Has.f k l0_3 1).bind fun t376 => (if t376 = true then (some false) else ((wagtailref13_Logical.f k a0_0 a0_1 a0_2 l0_3).bind fun t377 => (some (decide (t377 ≥ 1)))))))) else (some false))) else (some false)) = some r := H
  have A2 := Aside0.mk A20
  clear A20
  by_cases c3 : t373 = true
  · subst c3
    have H1 : ((wagtailref13_Right.f a0_0 a0_1 a0_2).bind fun t374 => (if t374 = true then ((wagtailref13_Has.f k l0_3 0).bind fun t375 => (if t375 = true then (some false) else ((wagtailref13_Has.f k l0_3 1).bind fun t376 => (if t376 = true then (some false) else ((wagtailref13_Logical.f k a0_0 a0_1 a0_2 l0_3).bind fun t377 => (some (decide (t377 ≥ 1)))))))) else (some false))) = some r := by rw [if_pos rfl] at H; exact H
    clear H
    have H := H1
    clear H1
    replace H := Option.bind_eq_some_iff.mp H
    obtain ⟨t374, A40, H⟩ := H
    replace H : (if t374 = true then ((wagtailref13_Has.f k l0_3 0).bind fun t375 => (if t375 = true then (some false) else ((wagtailref13_Has.f k l0_3 1).bind fun t376 => (if t376 = true then (some false) else ((wagtailref13_Logical.f k a0_0 a0_1 a0_2 l0_3).bind fun t377 => (some (decide (t377 ≥ 1)))))))) else (some false)) = some r := H
    have A4 := Aside0.mk A40
    clear A40
    by_cases c5 : t374 = true
    · subst c5
      have H1 : ((wagtailref13_Has.f k l0_3 0).bind fun t375 => (if t375 = true then (some false) else ((wagtailref13_Has.f k l0_3 1).bind fun t376 => (if t376 = true then (some false) else ((wagtailref13_Logical.f k a0_0 a0_1 a0_2 l0_3).bind fun t377 => (some (decide (t377 ≥ 1)))))))) = some r := by rw [if_pos rfl] at H; exact H
      clear H
      have H := H1
      clear H1
      replace H := Option.bind_eq_some_iff.mp H
      obtain ⟨t375, A60, H⟩ := H
      replace H : (if t375 = true then (some false) else ((wagtailref13_Has.f k l0_3 1).bind fun t376 => (if t376 = true then (some false) else ((wagtailref13_Logical.f k a0_0 a0_1 a0_2 l0_3).bind fun t377 => (some (decide (t377 ≥ 1))))))) = some r := H
      have A6 := Aside0.mk A60
      clear A60
      by_cases c7 : t375 = true
      · subst c7
        have H1 : (some false) = some r := by rw [if_pos rfl] at H; exact H
        clear H
        have H := H1
        clear H1
        obtain rfl := Option.some.inj H
        go_enter Try.func54, Try.ntmps54
        go_wp2_with (first | ((with_reducible refine gate_dst (N := 1) rfl ?_); refine box_event ?hg (N := 1) ?hd (cs := #[.int .i64 a0_0, .int .i64 a0_1, .int .i64 a0_2, .slice A0_3 l0_3.length c0_3, .slice A0_4 l0_4.length c0_4]) (t := 27) ?hr ?_; (case hd => rfl); (case hg => rfl); (case hr => first | (go_simp; done) | (go_simp; rfl)); intro gb372 hg w8 hbox hb; have n0_ := Aside0.mk (below_step (by repeat (first | (with_reducible first | exact HB.out | apply below_alloc | apply pw_below_drewN | apply below_drew1) | exact HB.out)) hb); have n1_ := Aside0.mk (hbox); have n2_ := Aside0.mk ((by rw [hg]; exact (below_size (by repeat (first | (with_reducible first | exact HB.out | apply below_alloc | apply pw_below_drewN | apply below_drew1) | exact HB.out))) : w.heap.size ≤ gb372)); have n3_ := Aside0.mk ((by rw [hg]; exact (below_size (by repeat (first | (with_reducible first | exact HB.out | apply below_alloc | apply pw_below_drewN | apply below_drew1) | exact HB.out))) : w.heap.size ≤ gb372)); clear HB; have HB := n0_; have BK372 := n1_; have GW372 := n2_; have GE372 := n3_; clear n0_ n1_ n2_ n3_; clear hb hbox hg; have hcz9_0 : w8.cell? ⟨gb372, 0, none⟩ = some (.int .i64 a0_0) := (blk_cell BK372.out 0).trans rfl; have hcz9_1 : w8.cell? ⟨gb372, 1, none⟩ = some (.int .i64 a0_1) := (blk_cell BK372.out 1).trans rfl; have hcz9_2 : w8.cell? ⟨gb372, 2, none⟩ = some (.int .i64 a0_2) := (blk_cell BK372.out 2).trans rfl; have hcz9_3 : w8.cell? ⟨gb372, 3, none⟩ = some (.slice A0_3 l0_3.length c0_3) := (blk_cell BK372.out 3).trans rfl; have hcz9_4 : w8.cell? ⟨gb372, 4, none⟩ = some (.slice A0_4 l0_4.length c0_4) := (blk_cell BK372.out 4).trans rfl; have hfz9_0 := blk_frozen BK372.out 0; have hfz9_1 := blk_frozen BK372.out 1; have hfz9_2 := blk_frozen BK372.out 2; have hfz9_3 := blk_frozen BK372.out 3; have hfz9_4 := blk_frozen BK372.out 4) | ((with_reducible refine gate_callee (f := 11) rfl ?_); refine goesL_ (some 4) rfl rfl Try.func11 (by kernel_rfl) rfl #[.agg #[.int .i64 a0_0, .int .i64 a0_1, .int .i64 a0_2, .slice A0_3 l0_3.length c0_3, .slice A0_4 l0_4.length c0_4]] rfl (by (try simp only [List.map_toArray, List.map_cons, List.map_nil]); first | done | rfl | (simp only [List.length_drop, List.length_take]; rfl)) ?_; (with_reducible refine (wagtaillaw14_Plan_Light.calls k a0_0 a0_1 a0_2 _ _ l0_3 _ _ l0_4 true _ ?side1 ?side2 ?side3 ?side4 A2.out).mono ?_); (case side1 => repeat (first | exact (Kd.C_below HR0_3.out HB.out) | (with_reducible refine Kd.C_alloc ?_ _) | (with_reducible refine Kd.C_drewN ?_ _) | (with_reducible refine Kd.C_drew ?_))); (case side2 => exact HC0_3.out); (case side3 => repeat (first | exact (Kd.C_below HR0_4.out HB.out) | (with_reducible refine Kd.C_alloc ?_ _) | (with_reducible refine Kd.C_drewN ?_ _) | (with_reducible refine Kd.C_drew ?_))); (case side4 => exact HC0_4.out); rintro e w10 ⟨rfl, hb⟩; refine ⟨_, rfl, ?_⟩; have n0_ := Aside0.mk (blk_below (g := gb372) (o := .cells #[.int .i64 a0_0, .int .i64 a0_1, .int .i64 a0_2, .slice A0_3 l0_3.length c0_3, .slice A0_4 l0_4.length c0_4] 27 (0, 0)) (by (with_reducible repeat (first | refine blk_drewN ?_ _ | refine blk_drew ?_ | refine blk_alloc ?_ _)); exact BK372.out) hb); have n1_ := Aside0.mk (below_step (by repeat (first | (with_reducible first | exact HB.out | apply below_alloc | apply pw_below_drewN | apply below_drew1 | refine below_set ?_ GE372.out) | exact HB.out)) hb); clear BK372; clear HB; have BK372 := n0_; have HB := n1_; clear n0_ n1_; (try clear hb); (try clear hb2); (try clear hk); (try clear hi); have hcz11_0 : w10.cell? ⟨gb372, 0, none⟩ = some (.int .i64 a0_0) := (blk_cell BK372.out 0).trans rfl; have hcz11_1 : w10.cell? ⟨gb372, 1, none⟩ = some (.int .i64 a0_1) := (blk_cell BK372.out 1).trans rfl; have hcz11_2 : w10.cell? ⟨gb372, 2, none⟩ = some (.int .i64 a0_2) := (blk_cell BK372.out 2).trans rfl; have hcz11_3 : w10.cell? ⟨gb372, 3, none⟩ = some (.slice A0_3 l0_3.length c0_3) := (blk_cell BK372.out 3).trans rfl; have hcz11_4 : w10.cell? ⟨gb372, 4, none⟩ = some (.slice A0_4 l0_4.length c0_4) := (blk_cell BK372.out 4).trans rfl; have hfz11_0 := blk_frozen BK372.out 0; have hfz11_1 := blk_frozen BK372.out 1; have hfz11_2 := blk_frozen BK372.out 2; have hfz11_3 := blk_frozen BK372.out 3; have hfz11_4 := blk_frozen BK372.out 4) | (go_at_call 12; (with_reducible refine (wagtailref13_Right.calls a0_0 a0_1 a0_2 true _ A4.out).mono ?_); rintro e w12 ⟨rfl, hb⟩; have n0_ := Aside0.mk (blk_below (g := gb372) (o := .cells #[.int .i64 a0_0, .int .i64 a0_1, .int .i64 a0_2, .slice A0_3 l0_3.length c0_3, .slice A0_4 l0_4.length c0_4] 27 (0, 0)) (by (with_reducible repeat (first | refine blk_drewN ?_ _ | refine blk_drew ?_ | refine blk_alloc ?_ _)); exact BK372.out) hb); have n1_ := Aside0.mk (below_step (by repeat (first | (with_reducible first | exact HB.out | apply below_alloc | apply pw_below_drewN | apply below_drew1 | refine below_set ?_ GE372.out) | exact HB.out)) hb); clear BK372; clear HB; have BK372 := n0_; have HB := n1_; clear n0_ n1_; (try clear hb); (try clear hb2); (try clear hk); (try clear hi); have hcz13_0 : w12.cell? ⟨gb372, 0, none⟩ = some (.int .i64 a0_0) := (blk_cell BK372.out 0).trans rfl; have hcz13_1 : w12.cell? ⟨gb372, 1, none⟩ = some (.int .i64 a0_1) := (blk_cell BK372.out 1).trans rfl; have hcz13_2 : w12.cell? ⟨gb372, 2, none⟩ = some (.int .i64 a0_2) := (blk_cell BK372.out 2).trans rfl; have hcz13_3 : w12.cell? ⟨gb372, 3, none⟩ = some (.slice A0_3 l0_3.length c0_3) := (blk_cell BK372.out 3).trans rfl; have hcz13_4 : w12.cell? ⟨gb372, 4, none⟩ = some (.slice A0_4 l0_4.length c0_4) := (blk_cell BK372.out 4).trans rfl; have hfz13_0 := blk_frozen BK372.out 0; have hfz13_1 := blk_frozen BK372.out 1; have hfz13_2 := blk_frozen BK372.out 2; have hfz13_3 := blk_frozen BK372.out 3; have hfz13_4 := blk_frozen BK372.out 4) | (go_at_call 44; (with_reducible refine (wagtailref13_Has.calls k _ _ l0_3 0 true _ ?side1 ?side2 A6.out).mono ?_); (case side1 => repeat (first | exact (Kd.C_below HR0_3.out HB.out) | (with_reducible refine Kd.C_alloc ?_ _) | (with_reducible refine Kd.C_drewN ?_ _) | (with_reducible refine Kd.C_drew ?_))); (case side2 => exact HC0_3.out); rintro e w' ⟨rfl, ⟨nd, rfl⟩⟩))
        go_ret
        exact ⟨by first | rfl | (simp [errW_none, errW_some] <;> rfl) | (simp [*, errW_none, errW_some] <;> rfl), by repeat (first | (with_reducible first | exact HB.out | apply below_alloc | apply pw_below_drewN | apply below_drew1 | refine below_set ?_ GE372.out) | exact HB.out)⟩
      · replace c7 := Bool.eq_false_iff.mpr c7
        subst c7
        have H1 : ((wagtailref13_Has.f k l0_3 1).bind fun t376 => (if t376 = true then (some false) else ((wagtailref13_Logical.f k a0_0 a0_1 a0_2 l0_3).bind fun t377 => (some (decide (t377 ≥ 1)))))) = some r := by rw [if_neg (show ¬ (false = true) by decide)] at H; exact H
        clear H
        have H := H1
        clear H1
        replace H := Option.bind_eq_some_iff.mp H
        obtain ⟨t376, A140, H⟩ := H
        replace H : (if t376 = true then (some false) else ((wagtailref13_Logical.f k a0_0 a0_1 a0_2 l0_3).bind fun t377 => (some (decide (t377 ≥ 1))))) = some r := H
        have A14 := Aside0.mk A140
        clear A140
        by_cases c15 : t376 = true
        · subst c15
          have H1 : (some false) = some r := by rw [if_pos rfl] at H; exact H
          clear H
          have H := H1
          clear H1
          obtain rfl := Option.some.inj H
          go_enter Try.func54, Try.ntmps54
          go_wp2_with (first | ((with_reducible refine gate_dst (N := 1) rfl ?_); refine box_event ?hg (N := 1) ?hd (cs := #[.int .i64 a0_0, .int .i64 a0_1, .int .i64 a0_2, .slice A0_3 l0_3.length c0_3, .slice A0_4 l0_4.length c0_4]) (t := 27) ?hr ?_; (case hd => rfl); (case hg => rfl); (case hr => first | (go_simp; done) | (go_simp; rfl)); intro gb372 hg w16 hbox hb; have n0_ := Aside0.mk (below_step (by repeat (first | (with_reducible first | exact HB.out | apply below_alloc | apply pw_below_drewN | apply below_drew1) | exact HB.out)) hb); have n1_ := Aside0.mk (hbox); have n2_ := Aside0.mk ((by rw [hg]; exact (below_size (by repeat (first | (with_reducible first | exact HB.out | apply below_alloc | apply pw_below_drewN | apply below_drew1) | exact HB.out))) : w.heap.size ≤ gb372)); have n3_ := Aside0.mk ((by rw [hg]; exact (below_size (by repeat (first | (with_reducible first | exact HB.out | apply below_alloc | apply pw_below_drewN | apply below_drew1) | exact HB.out))) : w.heap.size ≤ gb372)); clear HB; have HB := n0_; have BK372 := n1_; have GW372 := n2_; have GE372 := n3_; clear n0_ n1_ n2_ n3_; clear hb hbox hg; have hcz17_0 : w16.cell? ⟨gb372, 0, none⟩ = some (.int .i64 a0_0) := (blk_cell BK372.out 0).trans rfl; have hcz17_1 : w16.cell? ⟨gb372, 1, none⟩ = some (.int .i64 a0_1) := (blk_cell BK372.out 1).trans rfl; have hcz17_2 : w16.cell? ⟨gb372, 2, none⟩ = some (.int .i64 a0_2) := (blk_cell BK372.out 2).trans rfl; have hcz17_3 : w16.cell? ⟨gb372, 3, none⟩ = some (.slice A0_3 l0_3.length c0_3) := (blk_cell BK372.out 3).trans rfl; have hcz17_4 : w16.cell? ⟨gb372, 4, none⟩ = some (.slice A0_4 l0_4.length c0_4) := (blk_cell BK372.out 4).trans rfl; have hfz17_0 := blk_frozen BK372.out 0; have hfz17_1 := blk_frozen BK372.out 1; have hfz17_2 := blk_frozen BK372.out 2; have hfz17_3 := blk_frozen BK372.out 3; have hfz17_4 := blk_frozen BK372.out 4) | ((with_reducible refine gate_callee (f := 11) rfl ?_); refine goesL_ (some 4) rfl rfl Try.func11 (by kernel_rfl) rfl #[.agg #[.int .i64 a0_0, .int .i64 a0_1, .int .i64 a0_2, .slice A0_3 l0_3.length c0_3, .slice A0_4 l0_4.length c0_4]] rfl (by (try simp only [List.map_toArray, List.map_cons, List.map_nil]); first | done | rfl | (simp only [List.length_drop, List.length_take]; rfl)) ?_; (with_reducible refine (wagtaillaw14_Plan_Light.calls k a0_0 a0_1 a0_2 _ _ l0_3 _ _ l0_4 true _ ?side1 ?side2 ?side3 ?side4 A2.out).mono ?_); (case side1 => repeat (first | exact (Kd.C_below HR0_3.out HB.out) | (with_reducible refine Kd.C_alloc ?_ _) | (with_reducible refine Kd.C_drewN ?_ _) | (with_reducible refine Kd.C_drew ?_))); (case side2 => exact HC0_3.out); (case side3 => repeat (first | exact (Kd.C_below HR0_4.out HB.out) | (with_reducible refine Kd.C_alloc ?_ _) | (with_reducible refine Kd.C_drewN ?_ _) | (with_reducible refine Kd.C_drew ?_))); (case side4 => exact HC0_4.out); rintro e w18 ⟨rfl, hb⟩; refine ⟨_, rfl, ?_⟩; have n0_ := Aside0.mk (blk_below (g := gb372) (o := .cells #[.int .i64 a0_0, .int .i64 a0_1, .int .i64 a0_2, .slice A0_3 l0_3.length c0_3, .slice A0_4 l0_4.length c0_4] 27 (0, 0)) (by (with_reducible repeat (first | refine blk_drewN ?_ _ | refine blk_drew ?_ | refine blk_alloc ?_ _)); exact BK372.out) hb); have n1_ := Aside0.mk (below_step (by repeat (first | (with_reducible first | exact HB.out | apply below_alloc | apply pw_below_drewN | apply below_drew1 | refine below_set ?_ GE372.out) | exact HB.out)) hb); clear BK372; clear HB; have BK372 := n0_; have HB := n1_; clear n0_ n1_; (try clear hb); (try clear hb2); (try clear hk); (try clear hi); have hcz19_0 : w18.cell? ⟨gb372, 0, none⟩ = some (.int .i64 a0_0) := (blk_cell BK372.out 0).trans rfl; have hcz19_1 : w18.cell? ⟨gb372, 1, none⟩ = some (.int .i64 a0_1) := (blk_cell BK372.out 1).trans rfl; have hcz19_2 : w18.cell? ⟨gb372, 2, none⟩ = some (.int .i64 a0_2) := (blk_cell BK372.out 2).trans rfl; have hcz19_3 : w18.cell? ⟨gb372, 3, none⟩ = some (.slice A0_3 l0_3.length c0_3) := (blk_cell BK372.out 3).trans rfl; have hcz19_4 : w18.cell? ⟨gb372, 4, none⟩ = some (.slice A0_4 l0_4.length c0_4) := (blk_cell BK372.out 4).trans rfl; have hfz19_0 := blk_frozen BK372.out 0; have hfz19_1 := blk_frozen BK372.out 1; have hfz19_2 := blk_frozen BK372.out 2; have hfz19_3 := blk_frozen BK372.out 3; have hfz19_4 := blk_frozen BK372.out 4) | (go_at_call 12; (with_reducible refine (wagtailref13_Right.calls a0_0 a0_1 a0_2 true _ A4.out).mono ?_); rintro e w20 ⟨rfl, hb⟩; have n0_ := Aside0.mk (blk_below (g := gb372) (o := .cells #[.int .i64 a0_0, .int .i64 a0_1, .int .i64 a0_2, .slice A0_3 l0_3.length c0_3, .slice A0_4 l0_4.length c0_4] 27 (0, 0)) (by (with_reducible repeat (first | refine blk_drewN ?_ _ | refine blk_drew ?_ | refine blk_alloc ?_ _)); exact BK372.out) hb); have n1_ := Aside0.mk (below_step (by repeat (first | (with_reducible first | exact HB.out | apply below_alloc | apply pw_below_drewN | apply below_drew1 | refine below_set ?_ GE372.out) | exact HB.out)) hb); clear BK372; clear HB; have BK372 := n0_; have HB := n1_; clear n0_ n1_; (try clear hb); (try clear hb2); (try clear hk); (try clear hi); have hcz21_0 : w20.cell? ⟨gb372, 0, none⟩ = some (.int .i64 a0_0) := (blk_cell BK372.out 0).trans rfl; have hcz21_1 : w20.cell? ⟨gb372, 1, none⟩ = some (.int .i64 a0_1) := (blk_cell BK372.out 1).trans rfl; have hcz21_2 : w20.cell? ⟨gb372, 2, none⟩ = some (.int .i64 a0_2) := (blk_cell BK372.out 2).trans rfl; have hcz21_3 : w20.cell? ⟨gb372, 3, none⟩ = some (.slice A0_3 l0_3.length c0_3) := (blk_cell BK372.out 3).trans rfl; have hcz21_4 : w20.cell? ⟨gb372, 4, none⟩ = some (.slice A0_4 l0_4.length c0_4) := (blk_cell BK372.out 4).trans rfl; have hfz21_0 := blk_frozen BK372.out 0; have hfz21_1 := blk_frozen BK372.out 1; have hfz21_2 := blk_frozen BK372.out 2; have hfz21_3 := blk_frozen BK372.out 3; have hfz21_4 := blk_frozen BK372.out 4) | (go_at_call 44; (with_reducible refine (wagtailref13_Has.calls k _ _ l0_3 0 false _ ?side1 ?side2 A6.out).mono ?_); (case side1 => repeat (first | exact (Kd.C_below HR0_3.out HB.out) | (with_reducible refine Kd.C_alloc ?_ _) | (with_reducible refine Kd.C_drewN ?_ _) | (with_reducible refine Kd.C_drew ?_))); (case side2 => exact HC0_3.out); rintro e w' ⟨rfl, ⟨nd, rfl⟩⟩) | (go_at_call 44; (with_reducible refine (wagtailref13_Has.calls k _ _ l0_3 1 true _ ?side1 ?side2 A14.out).mono ?_); (case side1 => repeat (first | exact (Kd.C_below HR0_3.out (by repeat (first | (with_reducible first | exact HB.out | apply below_alloc | apply pw_below_drewN | apply below_drew1 | refine below_set ?_ GE372.out) | exact HB.out))) | (with_reducible refine Kd.C_alloc ?_ _) | (with_reducible refine Kd.C_drewN ?_ _) | (with_reducible refine Kd.C_drew ?_))); (case side2 => exact HC0_3.out); rintro e w' ⟨rfl, ⟨nd, rfl⟩⟩))
          go_ret
          exact ⟨by first | rfl | (simp [errW_none, errW_some] <;> rfl) | (simp [*, errW_none, errW_some] <;> rfl), by repeat (first | (with_reducible first | exact HB.out | apply below_alloc | apply pw_below_drewN | apply below_drew1 | refine below_set ?_ GE372.out) | exact HB.out)⟩
        · replace c15 := Bool.eq_false_iff.mpr c15
          subst c15
          have H1 : ((wagtailref13_Logical.f k a0_0 a0_1 a0_2 l0_3).bind fun t377 => (some (decide (t377 ≥ 1)))) = some r := by rw [if_neg (show ¬ (false = true) by decide)] at H; exact H
          clear H
          have H := H1
          clear H1
          replace H := Option.bind_eq_some_iff.mp H
          obtain ⟨t377, A220, H⟩ := H
          replace H : (some (decide (t377 ≥ 1))) = some r := H
          have A22 := Aside0.mk A220
          clear A220
          obtain rfl := Option.some.inj H
          go_enter Try.func54, Try.ntmps54
          go_wp2_with (first | ((with_reducible refine gate_dst (N := 1) rfl ?_); refine box_event ?hg (N := 1) ?hd (cs := #[.int .i64 a0_0, .int .i64 a0_1, .int .i64 a0_2, .slice A0_3 l0_3.length c0_3, .slice A0_4 l0_4.length c0_4]) (t := 27) ?hr ?_; (case hd => rfl); (case hg => rfl); (case hr => first | (go_simp; done) | (go_simp; rfl)); intro gb372 hg w23 hbox hb; have n0_ := Aside0.mk (below_step (by repeat (first | (with_reducible first | exact HB.out | apply below_alloc | apply pw_below_drewN | apply below_drew1) | exact HB.out)) hb); have n1_ := Aside0.mk (hbox); have n2_ := Aside0.mk ((by rw [hg]; exact (below_size (by repeat (first | (with_reducible first | exact HB.out | apply below_alloc | apply pw_below_drewN | apply below_drew1) | exact HB.out))) : w.heap.size ≤ gb372)); have n3_ := Aside0.mk ((by rw [hg]; exact (below_size (by repeat (first | (with_reducible first | exact HB.out | apply below_alloc | apply pw_below_drewN | apply below_drew1) | exact HB.out))) : w.heap.size ≤ gb372)); clear HB; have HB := n0_; have BK372 := n1_; have GW372 := n2_; have GE372 := n3_; clear n0_ n1_ n2_ n3_; clear hb hbox hg; have hcz24_0 : w23.cell? ⟨gb372, 0, none⟩ = some (.int .i64 a0_0) := (blk_cell BK372.out 0).trans rfl; have hcz24_1 : w23.cell? ⟨gb372, 1, none⟩ = some (.int .i64 a0_1) := (blk_cell BK372.out 1).trans rfl; have hcz24_2 : w23.cell? ⟨gb372, 2, none⟩ = some (.int .i64 a0_2) := (blk_cell BK372.out 2).trans rfl; have hcz24_3 : w23.cell? ⟨gb372, 3, none⟩ = some (.slice A0_3 l0_3.length c0_3) := (blk_cell BK372.out 3).trans rfl; have hcz24_4 : w23.cell? ⟨gb372, 4, none⟩ = some (.slice A0_4 l0_4.length c0_4) := (blk_cell BK372.out 4).trans rfl; have hfz24_0 := blk_frozen BK372.out 0; have hfz24_1 := blk_frozen BK372.out 1; have hfz24_2 := blk_frozen BK372.out 2; have hfz24_3 := blk_frozen BK372.out 3; have hfz24_4 := blk_frozen BK372.out 4) | ((with_reducible refine gate_callee (f := 11) rfl ?_); refine goesL_ (some 4) rfl rfl Try.func11 (by kernel_rfl) rfl #[.agg #[.int .i64 a0_0, .int .i64 a0_1, .int .i64 a0_2, .slice A0_3 l0_3.length c0_3, .slice A0_4 l0_4.length c0_4]] rfl (by (try simp only [List.map_toArray, List.map_cons, List.map_nil]); first | done | rfl | (simp only [List.length_drop, List.length_take]; rfl)) ?_; (with_reducible refine (wagtaillaw14_Plan_Light.calls k a0_0 a0_1 a0_2 _ _ l0_3 _ _ l0_4 true _ ?side1 ?side2 ?side3 ?side4 A2.out).mono ?_); (case side1 => repeat (first | exact (Kd.C_below HR0_3.out HB.out) | (with_reducible refine Kd.C_alloc ?_ _) | (with_reducible refine Kd.C_drewN ?_ _) | (with_reducible refine Kd.C_drew ?_))); (case side2 => exact HC0_3.out); (case side3 => repeat (first | exact (Kd.C_below HR0_4.out HB.out) | (with_reducible refine Kd.C_alloc ?_ _) | (with_reducible refine Kd.C_drewN ?_ _) | (with_reducible refine Kd.C_drew ?_))); (case side4 => exact HC0_4.out); rintro e w25 ⟨rfl, hb⟩; refine ⟨_, rfl, ?_⟩; have n0_ := Aside0.mk (blk_below (g := gb372) (o := .cells #[.int .i64 a0_0, .int .i64 a0_1, .int .i64 a0_2, .slice A0_3 l0_3.length c0_3, .slice A0_4 l0_4.length c0_4] 27 (0, 0)) (by (with_reducible repeat (first | refine blk_drewN ?_ _ | refine blk_drew ?_ | refine blk_alloc ?_ _)); exact BK372.out) hb); have n1_ := Aside0.mk (below_step (by repeat (first | (with_reducible first | exact HB.out | apply below_alloc | apply pw_below_drewN | apply below_drew1 | refine below_set ?_ GE372.out) | exact HB.out)) hb); clear BK372; clear HB; have BK372 := n0_; have HB := n1_; clear n0_ n1_; (try clear hb); (try clear hb2); (try clear hk); (try clear hi); have hcz26_0 : w25.cell? ⟨gb372, 0, none⟩ = some (.int .i64 a0_0) := (blk_cell BK372.out 0).trans rfl; have hcz26_1 : w25.cell? ⟨gb372, 1, none⟩ = some (.int .i64 a0_1) := (blk_cell BK372.out 1).trans rfl; have hcz26_2 : w25.cell? ⟨gb372, 2, none⟩ = some (.int .i64 a0_2) := (blk_cell BK372.out 2).trans rfl; have hcz26_3 : w25.cell? ⟨gb372, 3, none⟩ = some (.slice A0_3 l0_3.length c0_3) := (blk_cell BK372.out 3).trans rfl; have hcz26_4 : w25.cell? ⟨gb372, 4, none⟩ = some (.slice A0_4 l0_4.length c0_4) := (blk_cell BK372.out 4).trans rfl; have hfz26_0 := blk_frozen BK372.out 0; have hfz26_1 := blk_frozen BK372.out 1; have hfz26_2 := blk_frozen BK372.out 2; have hfz26_3 := blk_frozen BK372.out 3; have hfz26_4 := blk_frozen BK372.out 4) | (go_at_call 12; (with_reducible refine (wagtailref13_Right.calls a0_0 a0_1 a0_2 true _ A4.out).mono ?_); rintro e w27 ⟨rfl, hb⟩; have n0_ := Aside0.mk (blk_below (g := gb372) (o := .cells #[.int .i64 a0_0, .int .i64 a0_1, .int .i64 a0_2, .slice A0_3 l0_3.length c0_3, .slice A0_4 l0_4.length c0_4] 27 (0, 0)) (by (with_reducible repeat (first | refine blk_drewN ?_ _ | refine blk_drew ?_ | refine blk_alloc ?_ _)); exact BK372.out) hb); have n1_ := Aside0.mk (below_step (by repeat (first | (with_reducible first | exact HB.out | apply below_alloc | apply pw_below_drewN | apply below_drew1 | refine below_set ?_ GE372.out) | exact HB.out)) hb); clear BK372; clear HB; have BK372 := n0_; have HB := n1_; clear n0_ n1_; (try clear hb); (try clear hb2); (try clear hk); (try clear hi); have hcz28_0 : w27.cell? ⟨gb372, 0, none⟩ = some (.int .i64 a0_0) := (blk_cell BK372.out 0).trans rfl; have hcz28_1 : w27.cell? ⟨gb372, 1, none⟩ = some (.int .i64 a0_1) := (blk_cell BK372.out 1).trans rfl; have hcz28_2 : w27.cell? ⟨gb372, 2, none⟩ = some (.int .i64 a0_2) := (blk_cell BK372.out 2).trans rfl; have hcz28_3 : w27.cell? ⟨gb372, 3, none⟩ = some (.slice A0_3 l0_3.length c0_3) := (blk_cell BK372.out 3).trans rfl; have hcz28_4 : w27.cell? ⟨gb372, 4, none⟩ = some (.slice A0_4 l0_4.length c0_4) := (blk_cell BK372.out 4).trans rfl; have hfz28_0 := blk_frozen BK372.out 0; have hfz28_1 := blk_frozen BK372.out 1; have hfz28_2 := blk_frozen BK372.out 2; have hfz28_3 := blk_frozen BK372.out 3; have hfz28_4 := blk_frozen BK372.out 4) | (go_at_call 44; (with_reducible refine (wagtailref13_Has.calls k _ _ l0_3 0 false _ ?side1 ?side2 A6.out).mono ?_); (case side1 => repeat (first | exact (Kd.C_below HR0_3.out HB.out) | (with_reducible refine Kd.C_alloc ?_ _) | (with_reducible refine Kd.C_drewN ?_ _) | (with_reducible refine Kd.C_drew ?_))); (case side2 => exact HC0_3.out); rintro e w' ⟨rfl, ⟨nd, rfl⟩⟩) | (go_at_call 44; (with_reducible refine (wagtailref13_Has.calls k _ _ l0_3 1 false _ ?side1 ?side2 A14.out).mono ?_); (case side1 => repeat (first | exact (Kd.C_below HR0_3.out (by repeat (first | (with_reducible first | exact HB.out | apply below_alloc | apply pw_below_drewN | apply below_drew1 | refine below_set ?_ GE372.out) | exact HB.out))) | (with_reducible refine Kd.C_alloc ?_ _) | (with_reducible refine Kd.C_drewN ?_ _) | (with_reducible refine Kd.C_drew ?_))); (case side2 => exact HC0_3.out); rintro e w' ⟨rfl, ⟨nd, rfl⟩⟩) | (go_at_call 96; (with_reducible refine (wagtailref13_Logical.calls k a0_0 a0_1 a0_2 _ _ l0_3 t377 _ ?side1 ?side2 A22.out).mono ?_); (case side1 => repeat (first | exact (Kd.C_below HR0_3.out (by repeat (first | (with_reducible first | exact HB.out | apply below_alloc | apply pw_below_drewN | apply below_drew1 | refine below_set ?_ GE372.out) | exact HB.out))) | (with_reducible refine Kd.C_alloc ?_ _) | (with_reducible refine Kd.C_drewN ?_ _) | (with_reducible refine Kd.C_drew ?_))); (case side2 => exact HC0_3.out); rintro e w29 ⟨rfl, hb⟩; have n0_ := Aside0.mk (blk_below (g := gb372) (o := .cells #[.int .i64 a0_0, .int .i64 a0_1, .int .i64 a0_2, .slice A0_3 l0_3.length c0_3, .slice A0_4 l0_4.length c0_4] 27 (0, 0)) (by (with_reducible repeat (first | refine blk_drewN ?_ _ | refine blk_drew ?_ | refine blk_alloc ?_ _)); exact BK372.out) hb); have n1_ := Aside0.mk (below_step (by repeat (first | (with_reducible first | exact HB.out | apply below_alloc | apply pw_below_drewN | apply below_drew1 | refine below_set ?_ GE372.out) | exact HB.out)) hb); clear BK372; clear HB; have BK372 := n0_; have HB := n1_; clear n0_ n1_; (try clear hb); (try clear hb2); (try clear hk); (try clear hi)))
          go_ret
          exact ⟨by first | rfl | (simp [errW_none, errW_some] <;> rfl) | (simp [*, errW_none, errW_some] <;> rfl), by repeat (first | (with_reducible first | exact HB.out | apply below_alloc | apply pw_below_drewN | apply below_drew1 | refine below_set ?_ GE372.out) | exact HB.out)⟩
    · replace c5 := Bool.eq_false_iff.mpr c5
      subst c5
      have H1 : (some false) = some r := by rw [if_neg (show ¬ (false = true) by decide)] at H; exact H
      clear H
      have H := H1
      clear H1
      obtain rfl := Option.some.inj H
      go_enter Try.func54, Try.ntmps54
      go_wp2_with (first | ((with_reducible refine gate_dst (N := 1) rfl ?_); refine box_event ?hg (N := 1) ?hd (cs := #[.int .i64 a0_0, .int .i64 a0_1, .int .i64 a0_2, .slice A0_3 l0_3.length c0_3, .slice A0_4 l0_4.length c0_4]) (t := 27) ?hr ?_; (case hd => rfl); (case hg => rfl); (case hr => first | (go_simp; done) | (go_simp; rfl)); intro gb372 hg w30 hbox hb; have n0_ := Aside0.mk (below_step (by repeat (first | (with_reducible first | exact HB.out | apply below_alloc | apply pw_below_drewN | apply below_drew1) | exact HB.out)) hb); have n1_ := Aside0.mk (hbox); have n2_ := Aside0.mk ((by rw [hg]; exact (below_size (by repeat (first | (with_reducible first | exact HB.out | apply below_alloc | apply pw_below_drewN | apply below_drew1) | exact HB.out))) : w.heap.size ≤ gb372)); have n3_ := Aside0.mk ((by rw [hg]; exact (below_size (by repeat (first | (with_reducible first | exact HB.out | apply below_alloc | apply pw_below_drewN | apply below_drew1) | exact HB.out))) : w.heap.size ≤ gb372)); clear HB; have HB := n0_; have BK372 := n1_; have GW372 := n2_; have GE372 := n3_; clear n0_ n1_ n2_ n3_; clear hb hbox hg; have hcz31_0 : w30.cell? ⟨gb372, 0, none⟩ = some (.int .i64 a0_0) := (blk_cell BK372.out 0).trans rfl; have hcz31_1 : w30.cell? ⟨gb372, 1, none⟩ = some (.int .i64 a0_1) := (blk_cell BK372.out 1).trans rfl; have hcz31_2 : w30.cell? ⟨gb372, 2, none⟩ = some (.int .i64 a0_2) := (blk_cell BK372.out 2).trans rfl; have hcz31_3 : w30.cell? ⟨gb372, 3, none⟩ = some (.slice A0_3 l0_3.length c0_3) := (blk_cell BK372.out 3).trans rfl; have hcz31_4 : w30.cell? ⟨gb372, 4, none⟩ = some (.slice A0_4 l0_4.length c0_4) := (blk_cell BK372.out 4).trans rfl; have hfz31_0 := blk_frozen BK372.out 0; have hfz31_1 := blk_frozen BK372.out 1; have hfz31_2 := blk_frozen BK372.out 2; have hfz31_3 := blk_frozen BK372.out 3; have hfz31_4 := blk_frozen BK372.out 4) | ((with_reducible refine gate_callee (f := 11) rfl ?_); refine goesL_ (some 4) rfl rfl Try.func11 (by kernel_rfl) rfl #[.agg #[.int .i64 a0_0, .int .i64 a0_1, .int .i64 a0_2, .slice A0_3 l0_3.length c0_3, .slice A0_4 l0_4.length c0_4]] rfl (by (try simp only [List.map_toArray, List.map_cons, List.map_nil]); first | done | rfl | (simp only [List.length_drop, List.length_take]; rfl)) ?_; (with_reducible refine (wagtaillaw14_Plan_Light.calls k a0_0 a0_1 a0_2 _ _ l0_3 _ _ l0_4 true _ ?side1 ?side2 ?side3 ?side4 A2.out).mono ?_); (case side1 => repeat (first | exact (Kd.C_below HR0_3.out HB.out) | (with_reducible refine Kd.C_alloc ?_ _) | (with_reducible refine Kd.C_drewN ?_ _) | (with_reducible refine Kd.C_drew ?_))); (case side2 => exact HC0_3.out); (case side3 => repeat (first | exact (Kd.C_below HR0_4.out HB.out) | (with_reducible refine Kd.C_alloc ?_ _) | (with_reducible refine Kd.C_drewN ?_ _) | (with_reducible refine Kd.C_drew ?_))); (case side4 => exact HC0_4.out); rintro e w32 ⟨rfl, hb⟩; refine ⟨_, rfl, ?_⟩; have n0_ := Aside0.mk (blk_below (g := gb372) (o := .cells #[.int .i64 a0_0, .int .i64 a0_1, .int .i64 a0_2, .slice A0_3 l0_3.length c0_3, .slice A0_4 l0_4.length c0_4] 27 (0, 0)) (by (with_reducible repeat (first | refine blk_drewN ?_ _ | refine blk_drew ?_ | refine blk_alloc ?_ _)); exact BK372.out) hb); have n1_ := Aside0.mk (below_step (by repeat (first | (with_reducible first | exact HB.out | apply below_alloc | apply pw_below_drewN | apply below_drew1 | refine below_set ?_ GE372.out) | exact HB.out)) hb); clear BK372; clear HB; have BK372 := n0_; have HB := n1_; clear n0_ n1_; (try clear hb); (try clear hb2); (try clear hk); (try clear hi); have hcz33_0 : w32.cell? ⟨gb372, 0, none⟩ = some (.int .i64 a0_0) := (blk_cell BK372.out 0).trans rfl; have hcz33_1 : w32.cell? ⟨gb372, 1, none⟩ = some (.int .i64 a0_1) := (blk_cell BK372.out 1).trans rfl; have hcz33_2 : w32.cell? ⟨gb372, 2, none⟩ = some (.int .i64 a0_2) := (blk_cell BK372.out 2).trans rfl; have hcz33_3 : w32.cell? ⟨gb372, 3, none⟩ = some (.slice A0_3 l0_3.length c0_3) := (blk_cell BK372.out 3).trans rfl; have hcz33_4 : w32.cell? ⟨gb372, 4, none⟩ = some (.slice A0_4 l0_4.length c0_4) := (blk_cell BK372.out 4).trans rfl; have hfz33_0 := blk_frozen BK372.out 0; have hfz33_1 := blk_frozen BK372.out 1; have hfz33_2 := blk_frozen BK372.out 2; have hfz33_3 := blk_frozen BK372.out 3; have hfz33_4 := blk_frozen BK372.out 4) | (go_at_call 12; (with_reducible refine (wagtailref13_Right.calls a0_0 a0_1 a0_2 false _ A4.out).mono ?_); rintro e w34 ⟨rfl, hb⟩; have n0_ := Aside0.mk (blk_below (g := gb372) (o := .cells #[.int .i64 a0_0, .int .i64 a0_1, .int .i64 a0_2, .slice A0_3 l0_3.length c0_3, .slice A0_4 l0_4.length c0_4] 27 (0, 0)) (by (with_reducible repeat (first | refine blk_drewN ?_ _ | refine blk_drew ?_ | refine blk_alloc ?_ _)); exact BK372.out) hb); have n1_ := Aside0.mk (below_step (by repeat (first | (with_reducible first | exact HB.out | apply below_alloc | apply pw_below_drewN | apply below_drew1 | refine below_set ?_ GE372.out) | exact HB.out)) hb); clear BK372; clear HB; have BK372 := n0_; have HB := n1_; clear n0_ n1_; (try clear hb); (try clear hb2); (try clear hk); (try clear hi)))
      go_ret
      exact ⟨by first | rfl | (simp [errW_none, errW_some] <;> rfl) | (simp [*, errW_none, errW_some] <;> rfl), by repeat (first | (with_reducible first | exact HB.out | apply below_alloc | apply pw_below_drewN | apply below_drew1 | refine below_set ?_ GE372.out) | exact HB.out)⟩
  · replace c3 := Bool.eq_false_iff.mpr c3
    subst c3
    have H1 : (some false) = some r := by rw [if_neg (show ¬ (false = true) by decide)] at H; exact H
    clear H
    have H := H1
    clear H1
    obtain rfl := Option.some.inj H
    go_enter Try.func54, Try.ntmps54
    go_wp2_with (first | ((with_reducible refine gate_dst (N := 1) rfl ?_); refine box_event ?hg (N := 1) ?hd (cs := #[.int .i64 a0_0, .int .i64 a0_1, .int .i64 a0_2, .slice A0_3 l0_3.length c0_3, .slice A0_4 l0_4.length c0_4]) (t := 27) ?hr ?_; (case hd => rfl); (case hg => rfl); (case hr => first | (go_simp; done) | (go_simp; rfl)); intro gb372 hg w35 hbox hb; have n0_ := Aside0.mk (below_step (by repeat (first | (with_reducible first | exact HB.out | apply below_alloc | apply pw_below_drewN | apply below_drew1) | exact HB.out)) hb); have n1_ := Aside0.mk (hbox); have n2_ := Aside0.mk ((by rw [hg]; exact (below_size (by repeat (first | (with_reducible first | exact HB.out | apply below_alloc | apply pw_below_drewN | apply below_drew1) | exact HB.out))) : w.heap.size ≤ gb372)); have n3_ := Aside0.mk ((by rw [hg]; exact (below_size (by repeat (first | (with_reducible first | exact HB.out | apply below_alloc | apply pw_below_drewN | apply below_drew1) | exact HB.out))) : w.heap.size ≤ gb372)); clear HB; have HB := n0_; have BK372 := n1_; have GW372 := n2_; have GE372 := n3_; clear n0_ n1_ n2_ n3_; clear hb hbox hg; have hcz36_0 : w35.cell? ⟨gb372, 0, none⟩ = some (.int .i64 a0_0) := (blk_cell BK372.out 0).trans rfl; have hcz36_1 : w35.cell? ⟨gb372, 1, none⟩ = some (.int .i64 a0_1) := (blk_cell BK372.out 1).trans rfl; have hcz36_2 : w35.cell? ⟨gb372, 2, none⟩ = some (.int .i64 a0_2) := (blk_cell BK372.out 2).trans rfl; have hcz36_3 : w35.cell? ⟨gb372, 3, none⟩ = some (.slice A0_3 l0_3.length c0_3) := (blk_cell BK372.out 3).trans rfl; have hcz36_4 : w35.cell? ⟨gb372, 4, none⟩ = some (.slice A0_4 l0_4.length c0_4) := (blk_cell BK372.out 4).trans rfl; have hfz36_0 := blk_frozen BK372.out 0; have hfz36_1 := blk_frozen BK372.out 1; have hfz36_2 := blk_frozen BK372.out 2; have hfz36_3 := blk_frozen BK372.out 3; have hfz36_4 := blk_frozen BK372.out 4) | ((with_reducible refine gate_callee (f := 11) rfl ?_); refine goesL_ (some 4) rfl rfl Try.func11 (by kernel_rfl) rfl #[.agg #[.int .i64 a0_0, .int .i64 a0_1, .int .i64 a0_2, .slice A0_3 l0_3.length c0_3, .slice A0_4 l0_4.length c0_4]] rfl (by (try simp only [List.map_toArray, List.map_cons, List.map_nil]); first | done | rfl | (simp only [List.length_drop, List.length_take]; rfl)) ?_; (with_reducible refine (wagtaillaw14_Plan_Light.calls k a0_0 a0_1 a0_2 _ _ l0_3 _ _ l0_4 false _ ?side1 ?side2 ?side3 ?side4 A2.out).mono ?_); (case side1 => repeat (first | exact (Kd.C_below HR0_3.out HB.out) | (with_reducible refine Kd.C_alloc ?_ _) | (with_reducible refine Kd.C_drewN ?_ _) | (with_reducible refine Kd.C_drew ?_))); (case side2 => exact HC0_3.out); (case side3 => repeat (first | exact (Kd.C_below HR0_4.out HB.out) | (with_reducible refine Kd.C_alloc ?_ _) | (with_reducible refine Kd.C_drewN ?_ _) | (with_reducible refine Kd.C_drew ?_))); (case side4 => exact HC0_4.out); rintro e w37 ⟨rfl, hb⟩; refine ⟨_, rfl, ?_⟩; have n0_ := Aside0.mk (blk_below (g := gb372) (o := .cells #[.int .i64 a0_0, .int .i64 a0_1, .int .i64 a0_2, .slice A0_3 l0_3.length c0_3, .slice A0_4 l0_4.length c0_4] 27 (0, 0)) (by (with_reducible repeat (first | refine blk_drewN ?_ _ | refine blk_drew ?_ | refine blk_alloc ?_ _)); exact BK372.out) hb); have n1_ := Aside0.mk (below_step (by repeat (first | (with_reducible first | exact HB.out | apply below_alloc | apply pw_below_drewN | apply below_drew1 | refine below_set ?_ GE372.out) | exact HB.out)) hb); clear BK372; clear HB; have BK372 := n0_; have HB := n1_; clear n0_ n1_; (try clear hb); (try clear hb2); (try clear hk); (try clear hi)))
    go_ret
    exact ⟨by first | rfl | (simp [errW_none, errW_some] <;> rfl) | (simp [*, errW_none, errW_some] <;> rfl), by repeat (first | (with_reducible first | exact HB.out | apply below_alloc | apply pw_below_drewN | apply below_drew1 | refine below_set ?_ GE372.out) | exact HB.out)⟩
end Go.Proofs.Ytnchdmidaigheaa.Hp
namespace Go.Proofs.Ytnchdmidaigheaa.QS
set_option linter.unusedVariables false
set_option linter.unusedSimpArgs false
open Go.RowKit Go.Proofs.Ytnchdmidaigheaa.SS Go.Proofs.Ytnchdmidaigheaa.Hp Go.Proofs.YtnchdmidaigheaaW.PrintWords Go.Proofs.YtnchdmidaigheaaW.PrintLast Go.Proofs.YtnchdmidaigheaaW.PrintMore
open Go.Proofs.Ytnchdmidaigheaa.ND (Dv onF ended newDv rightG lightP)
def kindAt (fs : List R0) (n : Int) : Int := match fs.find? fun f => onF f n with
  | some f => f.f1
  | none => 0
theorem fault_kindAt (D : Dv) : D.fault.1 = kindAt D.faults D.ops := by
  unfold Dv.fault kindAt
  cases D.faults.find? fun f => onF f D.ops with
  | none => rfl
  | some f => rfl
theorem kind_sort (fs : List R0) (n : Int) : kindAt (ssort ltS fs) n = kindAt fs n := by
  have hs := (ssort_stable ltS_ord fs).2.2 ⟨n, 0, []⟩
  have key : ∀ l : List R0, l.filter (fun f => onF f n) = (l.filter (eqv ltS ⟨n, 0, []⟩)).filter (fun f => kindB f.f1) := fun l => by
    rw [List.filter_filter]
    refine List.filter_congr fun x _ => ?_
    unfold onF kindB eqv ltS
    by_cases h : x.f0 = n
    · simp [h]
    · have : ¬ (¬ n < x.f0 ∧ ¬ x.f0 < n) := by omega
      by_cases h2 : n < x.f0
      · simp [h, h2]
      · have h3 : x.f0 < n := by omega
        simp [h, h2, h3]
  have e : (ssort ltS fs).find? (fun f => onF f n) = fs.find? (fun f => onF f n) := by
    rw [← List.head?_filter, ← List.head?_filter, key, key, hs]
  unfold kindAt
  rw [e]
theorem kind_from (fs : List R0) (hf : ∀ x ∈ fs, -9223372036854775808 ≤ x.f0 ∧ x.f0 ≤ 9223372036854775807) (N j : Int) (hN : 0 ≤ N) (hN2 : N ≤ 1000) (hj : 0 ≤ j) : kindAt (fromL fs N) j = kindAt fs (N + j) := by
  have e : (fromL fs N).find? (fun f => onF f j) = (fs.find? (fun f => onF f (N + j))).map (lessF N) := by
    unfold fromL
    induction fs with
    | nil => rfl
    | cons x r ih =>
      have hx := hf x (List.mem_cons_self ..)
      have ih := ih (fun y hy => hf y (List.mem_cons_of_mem _ hy))
      rw [List.filter_cons]
      by_cases hl : leftB N x = true
      · rw [if_pos hl, List.map_cons, List.find?_cons, List.find?_cons]
        have hw : wrap64 (x.f0 - N) = x.f0 - N := by
          unfold leftB at hl
          simp only [Bool.or_eq_true, beq_iff_eq, decide_eq_true_eq] at hl
          unfold wrap64
          omega
        have ho : onF (lessF N x) j = onF x (N + j) := by
          unfold onF lessF
          rw [hw]
          have : (x.f0 - N == j) = (x.f0 == N + j) := by
            rw [Bool.eq_iff_iff]
            simp only [beq_iff_eq]
            omega
          rw [this]
        rw [ho]
        cases onF x (N + j) with
        | true => rfl
        | false => exact ih
      · rw [if_neg hl, List.find?_cons]
        have ho : onF x (N + j) = false := by
          unfold leftB at hl
          simp only [Bool.or_eq_true, beq_iff_eq, decide_eq_true_eq, not_or] at hl
          unfold onF
          have : (x.f0 == N + j) = false := by simp only [beq_eq_false_iff_ne, ne_eq]; omega
          rw [this, Bool.false_and]
        rw [ho]
        exact ih
  unfold kindAt
  rw [e]
  cases fs.find? (fun f => onF f (N + j)) with
  | none => rfl
  | some f => rfl
structure Sim (D E : Dv) (n : Nat) : Prop where
  sb : D.B = E.B
  bad : D.bad = E.bad
  dd : D.down = false
  de : E.down = false
  od : 0 ≤ D.ops ∧ D.ops ≤ n
  oe : 0 ≤ E.ops ∧ E.ops ≤ n
  kind : ∀ j : Nat, kindAt D.faults (D.ops + j) = kindAt E.faults (E.ops + j)
theorem sim_same {D E : Dv} {n : Nat} (h : Sim D E n) (b : Int) : (D.erase b).1 = (E.erase b).1 := by
  have hm : D.mark b = E.mark b := by unfold Dv.mark; rw [h.bad]
  have ht : D.there b = E.there b := by unfold Dv.there; rw [h.sb]
  have hk := h.kind 0
  rw [Int.natCast_zero, Int.add_zero, Int.add_zero, ← fault_kindAt, ← fault_kindAt] at hk
  unfold Dv.erase
  rw [h.dd, h.de, ht, hm]
  simp only [Bool.false_eq_true, if_false]
  by_cases h1 : E.there b = false
  · rw [if_pos h1, if_pos h1]
  · rw [if_neg h1, if_neg h1]
    by_cases h2 : E.mark b = true
    · rw [if_pos h2, if_pos h2]
    · rw [if_neg h2, if_neg h2, hk]
theorem sim_next {D E : Dv} {n : Nat} (h : Sim D E n) (hn : n ≤ 1000) (b : Int) : Sim (D.erase b).2.power (E.erase b).2.power (n + 1) := by
  have hm : D.mark b = E.mark b := by unfold Dv.mark; rw [h.bad]
  have ht : D.there b = E.there b := by unfold Dv.there; rw [h.sb]
  have od := h.od
  have oe := h.oe
  have stay : Sim D.power E.power (n + 1) := ⟨h.sb, h.bad, rfl, rfl, ⟨od.1, by show D.ops ≤ _; omega⟩, ⟨oe.1, by show E.ops ≤ _; omega⟩, h.kind⟩
  unfold Dv.erase
  rw [h.dd, h.de, ht, hm]
  simp only [Bool.false_eq_true, if_false]
  by_cases h1 : E.there b = false
  · rw [if_pos h1, if_pos h1]; exact stay
  · rw [if_neg h1, if_neg h1]
    by_cases h2 : E.mark b = true
    · rw [if_pos h2, if_pos h2]; exact stay
    · rw [if_neg h2, if_neg h2]
      have e1 : wrap64 (D.ops + 1) = D.ops + 1 := by unfold wrap64; omega
      have e2 : wrap64 (E.ops + 1) = E.ops + 1 := by unfold wrap64; omega
      refine ⟨h.sb, h.bad, rfl, rfl, ?_, ?_, fun j => ?_⟩
      · show 0 ≤ wrap64 (D.ops + 1) ∧ wrap64 (D.ops + 1) ≤ _; rw [e1]; omega
      · show 0 ≤ wrap64 (E.ops + 1) ∧ wrap64 (E.ops + 1) ≤ _; rw [e2]; omega
      · show kindAt D.faults (wrap64 (D.ops + 1) + j) = kindAt E.faults (wrap64 (E.ops + 1) + j)
        have := h.kind (j + 1)
        rw [e1, e2, show D.ops + 1 + (j : Int) = D.ops + ((j + 1 : Nat) : Int) by omega, show E.ops + 1 + (j : Int) = E.ops + ((j + 1 : Nat) : Int) by omega]
        exact this
theorem sim_new (B P C : Int) (bad : List Int) (fs : List R0) : Sim (newDv B P C bad fs) (newDv B P C bad (ssort ltS fs)) 0 :=
  ⟨rfl, rfl, rfl, rfl, ⟨Int.le_refl _, Int.le_refl _⟩, ⟨Int.le_refl _, Int.le_refl _⟩, fun j => (kind_sort fs _).symm⟩
theorem sim_from {D : Dv} {n : Nat} (hd : D.down = false) (ho : 0 ≤ D.ops ∧ D.ops ≤ n) (hn : n ≤ 1000) (hf : ∀ x ∈ D.faults, -9223372036854775808 ≤ x.f0 ∧ x.f0 ≤ 9223372036854775807) (P C : Int) : Sim D (newDv D.B P C D.bad (fromL D.faults D.ops)) n :=
  ⟨rfl, rfl, hd, rfl, ho, ⟨Int.le_refl _, by show (0 : Int) ≤ _; omega⟩, fun j => by
    have h := kind_from D.faults hf D.ops (j : Int) ho.1 (by omega) (by omega)
    rw [← h]
    show kindAt _ _ = kindAt _ (0 + (j : Int))
    rw [Int.zero_add]
    rfl⟩
theorem erase_keeps (D : Dv) (b : Int) : (D.erase b).2.power.faults = D.faults ∧ (D.erase b).2.power.B = D.B ∧ (D.erase b).2.power.bad = D.bad ∧ (D.erase b).2.power.down = false := by
  unfold Dv.erase
  split
  · exact ⟨rfl, rfl, rfl, rfl⟩
  split
  · exact ⟨rfl, rfl, rfl, rfl⟩
  split <;> exact ⟨rfl, rfl, rfl, rfl⟩
theorem right_val (B P C : Int) : wagtailref13_Right.f B P C = some (rightG B P C) := by
  unfold wagtailref13_Right.f rightG within
  by_cases h1 : B ≥ 8
  · by_cases h2 : B ≤ 34
    · by_cases h3 : P ≥ 4
      · by_cases h4 : P ≤ 32
        · by_cases h5 : C ≥ 0
          · rw [if_pos h1, if_pos h2, if_pos h3, if_pos h4, if_pos h5]
            congr 1
            have h1' : (8 : Int) ≤ B := h1
            have h3' : (4 : Int) ≤ P := h3
            have h5' : (0 : Int) ≤ C := h5
            simp [h1', h2, h3', h4, h5']
          · rw [if_pos h1, if_pos h2, if_pos h3, if_pos h4, if_neg h5]
            have h5' : ¬ (0 : Int) ≤ C := h5
            simp [h5']
        · rw [if_pos h1, if_pos h2, if_pos h3, if_neg h4]
          simp [h4]
      · rw [if_pos h1, if_pos h2, if_neg h3]
        have h3' : ¬ (4 : Int) ≤ P := h3
        simp [h3']
    · rw [if_pos h1, if_neg h2]
      simp [h2]
  · rw [if_neg h1]
    have h1' : ¬ (8 : Int) ≤ B := h1
    simp [h1']
theorem has_val (l : List Int) (x : Int) (hl : l.length ≤ 100000) : ∃ r, Ev (fun k => wagtailref13_Has.f k l x) r := ⟨_, ND.has_ev l x hl l.length 0 (by omega)⟩
theorem good_loop (bad : List Int) (hb : bad.length ≤ 100000) (B P C : Int) (hB : B ≤ 34) : ∀ (d : Nat) (i c : Int), i + d = B → 2 ≤ i → ∃ r, Ev (fun k => wagtailref13_Good.l0 k bad c i B P C) r
  | 0, i, c, hd, hi => ⟨c, Ev.step (f := fun _ => some c) (fun k => by simp only [wagtailref13_Good.l0]; rw [if_neg (by omega)]) (Ev.now _)⟩
  | d + 1, i, c, hd, hi => by
    obtain ⟨t, ht⟩ := has_val bad i hb
    have hw : wrap64 (i + 1) = i + 1 := by unfold wrap64; omega
    cases t with
    | true =>
      obtain ⟨r, hr⟩ := good_loop bad hb B P C hB d (i + 1) c (by omega) (by omega)
      refine ⟨r, Ev.step (f := fun k => (wagtailref13_Has.f k bad i).bind fun t => if t = true then wagtailref13_Good.l0 k bad c (i + 1) B P C else wagtailref13_Good.l0 k bad (wrap64 (c + 1)) (i + 1) B P C) (fun k => ?_) (Ev.bind ht (Ev.congr (fun k => if_pos rfl) hr))⟩
      simp only [wagtailref13_Good.l0]
      rw [if_pos (by omega), hw]
    | false =>
      obtain ⟨r, hr⟩ := good_loop bad hb B P C hB d (i + 1) (wrap64 (c + 1)) (by omega) (by omega)
      refine ⟨r, Ev.step (f := fun k => (wagtailref13_Has.f k bad i).bind fun t => if t = true then wagtailref13_Good.l0 k bad c (i + 1) B P C else wagtailref13_Good.l0 k bad (wrap64 (c + 1)) (i + 1) B P C) (fun k => ?_) (Ev.bind ht (Ev.congr (fun k => if_neg (by decide)) hr))⟩
      simp only [wagtailref13_Good.l0]
      rw [if_pos (by omega), hw]
theorem high_val (a b : Int) : ∃ r, wagtailref01_High.f a b = some r := by
  unfold wagtailref01_High.f
  split
  · exact ⟨_, rfl⟩
  · exact ⟨_, rfl⟩
theorem logical_val (B P C : Int) (bad : List Int) (hb : bad.length ≤ 100000) (hg : rightG B P C = true) : ∃ r, Ev (fun k => wagtailref13_Logical.f k B P C bad) r := by
  have hgp := hg
  unfold rightG within at hgp
  simp only [Bool.and_eq_true, decide_eq_true_eq] at hgp
  obtain ⟨n, hn⟩ := good_loop bad hb B P C hgp.1.2 (B - 2).toNat 2 0 (by omega) (by omega)
  obtain ⟨r, hr⟩ := high_val (wrap64 ((wrap64 ((wrap64 ((wrap64 (n - 2)) - C)) * P)) - 16)) 0
  refine ⟨r, Ev.congr (f := fun k => (wagtailref13_Good.f k B P C bad).bind fun t => (wagtailref01_High.f (wrap64 ((wrap64 ((wrap64 ((wrap64 (t - 2)) - C)) * P)) - 16)) 0).bind fun u => some u) (fun k => ?_) (Ev.bind (show Ev (fun k => wagtailref13_Good.f k B P C bad) n from hn) ?_)⟩
  · unfold wagtailref13_Logical.f
    rw [right_val, Option.bind_some, if_pos hg]
  · refine Ev.congr (f := fun _ => some r) (fun k => ?_) (Ev.now _)
    rw [hr]
    rfl
theorem good_val (B P C : Int) (bad : List Int) (fs : List R0) : ∃ r, Ev (fun k => wagtaillaw24_Good.f k B P C bad fs) r ∧ (r = true → lightP bad fs = true ∧ rightG B P C = true) := by
  have hl := ND.light_ev B P C bad fs
  cases hlp : lightP bad fs with
  | false =>
    rw [hlp] at hl
    exact ⟨false, Ev.congr (fun k => by unfold wagtaillaw24_Good.f; rfl) (Ev.bind hl (Ev.congr (fun k => if_neg Bool.false_ne_true) (Ev.now _))), fun h => by cases h⟩
  | true =>
    rw [hlp] at hl
    have hbl : bad.length ≤ 100000 := by
      unfold lightP at hlp
      simp only [Bool.and_eq_true, decide_eq_true_eq] at hlp
      omega
    cases hg : rightG B P C with
    | false =>
      refine ⟨false, Ev.congr (fun k => by unfold wagtaillaw24_Good.f; rfl) (Ev.bind hl (Ev.congr (fun k => if_pos rfl) ?_)), fun h => by cases h⟩
      refine Ev.congr (f := fun _ => some false) (fun k => ?_) (Ev.now _)
      rw [right_val, hg, Option.bind_some, if_neg (by decide)]
    | true =>
      obtain ⟨a, ha⟩ := has_val bad 0 hbl
      obtain ⟨b, hb⟩ := has_val bad 1 hbl
      obtain ⟨n, hn⟩ := logical_val B P C bad hbl hg
      refine ⟨if a = true then false else if b = true then false else decide (n ≥ 1), Ev.congr (fun k => by unfold wagtaillaw24_Good.f; rfl) (Ev.bind hl (Ev.congr (fun k => if_pos rfl) ?_)), fun _ => ⟨rfl, rfl⟩⟩
      refine Ev.congr (f := fun k => (wagtailref13_Has.f k bad 0).bind fun t => if t = true then some false else (wagtailref13_Has.f k bad 1).bind fun t => if t = true then some false else (wagtailref13_Logical.f k B P C bad).bind fun t => some (decide (t ≥ 1))) (fun k => ?_) ?_
      · rw [right_val, hg, Option.bind_some, if_pos rfl]
      · refine Ev.bind ha ?_
        cases a with
        | true => exact Ev.congr (fun k => if_pos rfl) (Ev.now _)
        | false =>
          refine Ev.congr (fun k => if_neg (by decide)) (Ev.bind hb ?_)
          cases b with
          | true => exact Ev.congr (fun k => if_pos rfl) (Ev.now _)
          | false => exact Ev.congr (fun k => if_neg (by decide)) (Ev.bind hn (Ev.now _))
theorem good_calls {W : World} (B P C : Int) (bad : List Int) (fs : List R0) (Ab Af : Option Addr) (cb cf : Nat) (hb : Kd.C (Kd.int .i64) W Ab bad.length bad) (hcb : bad.length ≤ cb) (hf : Kd.C k65 W Af fs.length fs) (hcf : fs.length ≤ cf) :
    ∃ r : Bool, (r = true → lightP bad fs = true ∧ rightG B P C = true) ∧ Calls Try.prog 54 #[.agg #[.int .i64 B, .int .i64 P, .int .i64 C, .slice Ab bad.length cb, .slice Af fs.length cf]] W fun e w' => e = .returned (.bool r) ∧ Below W.heap.size W w' := by
  obtain ⟨r, ⟨K, hK⟩, hr⟩ := good_val B P C bad fs
  exact ⟨r, hr, wagtaillaw24_Good.calls K B P C Ab cb bad Af cf fs r W hb hcb hf hcf (hK K (Nat.le_refl _))⟩
end Go.Proofs.Ytnchdmidaigheaa.QS
namespace Go.Proofs.Ytnchdmidaigheaa.QS
set_option linter.unusedVariables false
set_option linter.unusedSimpArgs false
open Go.RowKit Go.Proofs.Ytnchdmidaigheaa.SS Go.Proofs.Ytnchdmidaigheaa.Hp Go.Proofs.YtnchdmidaigheaaW.PrintWords Go.Proofs.YtnchdmidaigheaaW.PrintLast Go.Proofs.YtnchdmidaigheaaW.PrintMore
def cntK (l : List R0) (k : Int) : Int := ((l.filter fun x => x.f1 == k).length : Int)
def withinB (B P C : Int) (l : List R0) : Bool := ND.rightG B P C && decide (cntK l 1 ≤ C)
def within1.T1 : Bool × List (List Nat × List Nat) := (true, [([], []), ([0], [0]), ([1], [1]), ([2, 1], [2]), ([3], [3]), ([4, 3, 3], [3, 4]), ([3], [3]), ([6, 3], [3, 6]), ([5, 7, 3], [3, 5, 7]), ([3, 8], [3, 8]), ([9, 5, 0, 1, 2, 3, 4, 5, 6, 7, 8, 9], [9])])
def within1.B1 : List Nat := [0, 1, 3, 7, 15, 31, 15, 79, 255, 511, 1023]
theorem within1.tab1 : rtab .any (opsOf Try.f43 1) = within1.T1 := by kernel_rfl
theorem within1.bits1 : waitsOk within1.T1.2 within1.B1 = true := by kernel_rfl
set_option maxHeartbeats 2000000 in
set_option maxRecDepth 100000 in
theorem within_calls (B P C : Int) (l : List R0) (A : Option Addr) (cp : Nat) (w : World) (hl : lightF l) (hC : Kd.C k65 w A l.length l) :
    Calls Try.prog 43 #[.agg #[.int .i64 B, .int .i64 P, .int .i64 C], .slice A l.length cp] w fun e w' => e = .returned (.bool (withinB B P C l)) ∧ Below w.heap.size w w' := by
  have hz1 := heap_alloc_new w (.cells #[.int .i64 B, .int .i64 P, .int .i64 C] 23)
  have hb1 := below_alloc (Below.refl w.heap.size w) (.cells #[.int .i64 B, .int .i64 P, .int .i64 C] 23)
  have HC1 := Aside0.mk (Kd.C_below hC hb1)
  have HL := Aside0.mk hl
  obtain ⟨g, hg⟩ : ∃ g, g = w.heap.size := ⟨_, rfl⟩
  unfold withinB
  clear hl hC
  cases hr : ND.rightG B P C with
  | false =>
    have HRT := Aside0.mk (show geom_Check.f B P C = some 3 by unfold geom_Check.f; unfold ND.rightG at hr; rw [hr]; rfl)
    have HCK := Aside0.mk (fun w => geom_Check.calls B P C _ w HRT.out)
    clear hr
    go_enter Try.func43, Try.ntmps43
    go_upto_region 1 with fail
    generalize w.alloc (.cells #[.int .i64 B, .int .i64 P, .int .i64 C] 23) = W1 at hz1 hb1 HC1 ⊢
    rw [← hg] at hz1 ⊢
    have HZ := Aside0.mk hz1
    have HB := Aside0.mk hb1
    have B0 := Aside0.mk (below_drew1 (Below.refl W1.heap.size W1))
    clear hz1 hb1 hg
    refine start_ (n := 11) (S := fun w' => True) (ds := []) #[false, false, false, false, false, false, false, false, false, false, false] (by kernel_rfl) rfl rfl trivial (fun hHeld => ?_)
    refine with_tabW within1.tab1 within1.bits1 (fun HT_ HW_ => ?_)
    generalize W1.drew = wq at B0 hHeld ⊢
    refine inv_at [0, 1, 2, 3, 4, 5, 6, 7, 8, 9, 10] (fun a0_ b a w' => a = putSel a0_ b [(0, 5, .agg #[.int .i64 B, .int .i64 P, .int .i64 C]), (1, 6, .int .i64 3), (2, 7, .bool false), (3, 8, .bool false), (4, 9, undef), (5, 10, undef), (6, 11, undef), (7, 12, undef), (8, 13, undef), (9, 14, .bool false), (10, 4, .bool false)] ∧ (Below W1.heap.size W1 w')) HT_.out HW_.out (by kernel_rfl) (by kernel_rfl) ?_ ?_ ?_
    · exact ⟨by simp only [putSel, Bool.false_eq_true, if_false], B0.out⟩
    · skip
      clear B0
      refine steps_cons ?_ ?_
      · rintro b a w' ⟨ha, Q_B0⟩ hb_ hon hoff
        refine ⟨_, rfl, fun K hK => ?_⟩
        have e2 : a.tmps[2]? = some (.pointer (some ⟨g, 0, none⟩)) := by rw [ha]; exact (putSel_off rfl).trans rfl
        replace ha := Aside0.mk ha
        have B0 := Aside0.mk Q_B0
        have c0_ := blk_cell (blk_below HZ.out B0.out) 0
        have c1_ := blk_cell (blk_below HZ.out B0.out) 1
        have c2_ := blk_cell (blk_below HZ.out B0.out) 2
        refine value_ (w1 := w') (v := .agg #[.int .i64 B, .int .i64 P, .int .i64 C]) (by rfl) rfl ?_ ?_
        · go_simp
          (try simp only [i64_w])
          try rfl
        refine hK.out _ _ ⟨(by rw [ha.out]; exact putSel_upk 0 hb_ rfl rfl rfl), Q_B0⟩
      refine steps_cons ?_ ?_
      · rintro b a w' ⟨ha, Q_B0⟩ hb_ hon hoff
        refine ⟨_, rfl, fun K hK => ?_⟩
        have e5 : a.tmps[5]? = some (.agg #[.int .i64 B, .int .i64 P, .int .i64 C]) := by rw [ha]; exact putSel_on (e := (0, 5, .agg #[.int .i64 B, .int .i64 P, .int .i64 C])) 0 rfl rfl (hon 0 (by kernel_rfl)) rfl
        replace ha := Aside0.mk ha
        have B0 := Aside0.mk Q_B0
        refine goes_ Try.func60 (by kernel_rfl) rfl #[.agg #[.int .i64 B, .int .i64 P, .int .i64 C]] (by rfl) rfl rfl (by first | (simp only [List.map_toArray, List.map_cons, List.map_nil, Act.eval, Array.getD_eq_getD_getElem?, Option.getD_some, e5]; done) | (simp only [List.map_toArray, List.map_cons, List.map_nil, Act.eval, Array.getD_eq_getD_getElem?, Option.getD_some, e5]; rfl)) ?_
        with_reducible refine (HCK.out w').mono ?_
        rintro e w2 ⟨rfl, hb⟩
        refine ⟨_, rfl, ?_⟩
        refine hK.out _ _ ⟨(by rw [ha.out]; exact putSel_upk 1 hb_ rfl rfl rfl), below_then B0.out B0.out.size hb⟩
      refine steps_cons ?_ ?_
      · rintro b a w' ⟨ha, Q_B0⟩ hb_ hon hoff
        refine ⟨_, rfl, fun K hK => ?_⟩
        have e6 : a.tmps[6]? = some (.int .i64 3) := by rw [ha]; exact putSel_on (e := (1, 6, .int .i64 3)) 1 rfl rfl (hon 1 (by kernel_rfl)) rfl
        replace ha := Aside0.mk ha
        have B0 := Aside0.mk Q_B0
        refine value_ (w1 := w') (v := .bool false) (by rfl) rfl ?_ ?_
        · go_simp
          (try simp only [i64_w])
          try rfl
        refine hK.out _ _ ⟨(by rw [ha.out]; exact putSel_upk 2 hb_ rfl rfl rfl), Q_B0⟩
      refine steps_cons ?_ ?_
      · rintro b a w' ⟨ha, Q_B0⟩ hb_ hon hoff
        refine ⟨_, rfl, fun K hK => ?_⟩
        have e7 : a.tmps[7]? = some (.bool false) := by rw [ha]; exact putSel_on (e := (2, 7, .bool false)) 2 rfl rfl (hon 2 (by kernel_rfl)) rfl
        replace ha := Aside0.mk ha
        have B0 := Aside0.mk Q_B0
        refine value_ (w1 := w') (v := .bool false) (by rfl) rfl ?_ ?_
        · go_simp
          (try simp only [i64_w])
          try rfl
        refine hK.out _ _ ⟨(by rw [ha.out]; exact putSel_upk 3 hb_ rfl rfl rfl), Q_B0⟩
      refine steps_cons ?_ ?_
      · rintro b a w' ⟨ha, Q_B0⟩ hb_ hon hoff
        refine ⟨_, rfl, fun K hK => ?_⟩
        have e8 : a.tmps[8]? = some (.bool false) := by rw [ha]; exact putSel_on (e := (3, 8, .bool false)) 3 rfl rfl (hon 3 (by kernel_rfl)) rfl
        replace ha := Aside0.mk ha
        have B0 := Aside0.mk Q_B0
        refine off_ (wanted_off rfl rfl rfl (e8.trans (by first | rfl | (simp [*]; done)))) ?_
        refine hK.out _ _ ⟨(by rw [ha.out]; exact putSel_upk 4 hb_ rfl rfl rfl), Q_B0⟩
      refine steps_cons ?_ ?_
      · rintro b a w' ⟨ha, Q_B0⟩ hb_ hon hoff
        refine ⟨_, rfl, fun K hK => ?_⟩
        have e8 : a.tmps[8]? = some (.bool false) := by rw [ha]; exact putSel_on (e := (3, 8, .bool false)) 3 rfl rfl (hon 3 (by kernel_rfl)) rfl
        replace ha := Aside0.mk ha
        have B0 := Aside0.mk Q_B0
        refine off_ (wanted_off rfl rfl rfl (e8.trans (by first | rfl | (simp [*]; done)))) ?_
        refine hK.out _ _ ⟨(by rw [ha.out]; exact putSel_upk 5 hb_ rfl rfl rfl), Q_B0⟩
      refine steps_cons ?_ ?_
      · rintro b a w' ⟨ha, Q_B0⟩ hb_ hon hoff
        refine ⟨_, rfl, fun K hK => ?_⟩
        have e8 : a.tmps[8]? = some (.bool false) := by rw [ha]; exact putSel_on (e := (3, 8, .bool false)) 3 rfl rfl (hon 3 (by kernel_rfl)) rfl
        replace ha := Aside0.mk ha
        have B0 := Aside0.mk Q_B0
        refine off_ (wanted_off rfl rfl rfl (e8.trans (by first | rfl | (simp [*]; done)))) ?_
        refine hK.out _ _ ⟨(by rw [ha.out]; exact putSel_upk 6 hb_ rfl rfl rfl), Q_B0⟩
      refine steps_cons ?_ ?_
      · rintro b a w' ⟨ha, Q_B0⟩ hb_ hon hoff
        refine ⟨_, rfl, fun K hK => ?_⟩
        have e8 : a.tmps[8]? = some (.bool false) := by rw [ha]; exact putSel_on (e := (3, 8, .bool false)) 3 rfl rfl (hon 3 (by kernel_rfl)) rfl
        replace ha := Aside0.mk ha
        have B0 := Aside0.mk Q_B0
        refine off_ (wanted_off rfl rfl rfl (e8.trans (by first | rfl | (simp [*]; done)))) ?_
        refine hK.out _ _ ⟨(by rw [ha.out]; exact putSel_upk 7 hb_ rfl rfl rfl), Q_B0⟩
      refine steps_cons ?_ ?_
      · rintro b a w' ⟨ha, Q_B0⟩ hb_ hon hoff
        refine ⟨_, rfl, fun K hK => ?_⟩
        have e8 : a.tmps[8]? = some (.bool false) := by rw [ha]; exact putSel_on (e := (3, 8, .bool false)) 3 rfl rfl (hon 3 (by kernel_rfl)) rfl
        replace ha := Aside0.mk ha
        have B0 := Aside0.mk Q_B0
        refine off_ (wanted_off rfl rfl rfl (e8.trans (by first | rfl | (simp [*]; done)))) ?_
        refine hK.out _ _ ⟨(by rw [ha.out]; exact putSel_upk 8 hb_ rfl rfl rfl), Q_B0⟩
      refine steps_cons ?_ ?_
      · rintro b a w' ⟨ha, Q_B0⟩ hb_ hon hoff
        refine ⟨_, rfl, fun K hK => ?_⟩
        have e8 : a.tmps[8]? = some (.bool false) := by rw [ha]; exact putSel_on (e := (3, 8, .bool false)) 3 rfl rfl (hon 3 (by kernel_rfl)) rfl
        have e13 : a.tmps[13]? = some (undef) := by rw [ha]; exact putSel_on (e := (8, 13, undef)) 8 rfl rfl (hon 8 (by kernel_rfl)) rfl
        replace ha := Aside0.mk ha
        have B0 := Aside0.mk Q_B0
        refine value_ (w1 := w') (v := .bool false) (by rfl) rfl ?_ ?_
        · go_simp
          (try simp only [i64_w])
          try rfl
        refine hK.out _ _ ⟨(by rw [ha.out]; exact putSel_upk 9 hb_ rfl rfl rfl), Q_B0⟩
      refine steps_cons ?_ ?_
      · rintro b a w' ⟨ha, Q_B0⟩ hb_ hon hoff
        refine ⟨_, rfl, fun K hK => ?_⟩
        have e14 : a.tmps[14]? = some (.bool false) := by rw [ha]; exact putSel_on (e := (9, 14, .bool false)) 9 rfl rfl (hon 9 (by kernel_rfl)) rfl
        replace ha := Aside0.mk ha
        have B0 := Aside0.mk Q_B0
        refine value_ (w1 := w') (v := .bool false) (by rfl) rfl ?_ ?_
        · go_simp
          (try simp only [i64_w])
          try rfl
        refine hK.out _ _ ⟨(by rw [ha.out]; exact putSel_upk 10 hb_ rfl rfl rfl), Q_B0⟩
      exact steps_nil
    rintro b a w2 hall ⟨ha, Q_B0⟩
    clear B0
    have hb0_ := hall 0 (by kernel_rfl)
    have hb1_ := hall 1 (by kernel_rfl)
    have hb2_ := hall 2 (by kernel_rfl)
    have hb3_ := hall 3 (by kernel_rfl)
    have hb4_ := hall 4 (by kernel_rfl)
    have hb5_ := hall 5 (by kernel_rfl)
    have hb6_ := hall 6 (by kernel_rfl)
    have hb7_ := hall 7 (by kernel_rfl)
    have hb8_ := hall 8 (by kernel_rfl)
    have hb9_ := hall 9 (by kernel_rfl)
    have hb10_ := hall 10 (by kernel_rfl)
    subst ha
    simp only [putSel, hb0_, hb1_, hb2_, hb3_, hb4_, hb5_, hb6_, hb7_, hb8_, hb9_, hb10_, if_true, Act.put, List.setIfInBounds_toArray, List.set_cons_zero, List.set_cons_succ]
    have B0 := Aside0.mk Q_B0
    clear Q_B0
    clear hall hb0_ hb1_ hb2_ hb3_ hb4_ hb5_ hb6_ hb7_ hb8_ hb9_ hb10_
    go_wp2_with fail
    go_ret
    exact ⟨rfl, below_then HB.out HB.out.size B0.out⟩
  | true =>
    have HRT := Aside0.mk (show geom_Check.f B P C = some 0 by unfold geom_Check.f; unfold ND.rightG at hr; rw [hr]; rfl)
    have HCK := Aside0.mk (fun w => geom_Check.calls B P C _ w HRT.out)
    obtain ⟨n, hn⟩ : ∃ n, n = cntK l 1 := ⟨_, rfl⟩
    rw [← hn]
    obtain ⟨q, hq⟩ : ∃ q, q = decide (n ≤ C) := ⟨_, rfl⟩
    rw [← hq, Bool.true_and]
    have HQ := Aside0.mk hq.symm
    have HNN := Aside0.mk hn
    clear hr hn hq
    go_enter Try.func43, Try.ntmps43
    go_upto_region 1 with fail
    generalize w.alloc (.cells #[.int .i64 B, .int .i64 P, .int .i64 C] 23) = W1 at hz1 hb1 HC1 ⊢
    rw [← hg] at hz1 ⊢
    have HZ := Aside0.mk hz1
    have HB := Aside0.mk hb1
    have HCC : Aside0 (∀ W', Below W1.heap.size W1 W' → Calls Try.prog 42 #[.slice A l.length cp, .int .i64 1] W' fun e w' => e = .returned (.int .i64 n) ∧ Below W'.heap.size W' w') := ⟨fun W' hW => by rw [HNN.out]; exact count_calls l A cp 1 W' HL.out (Kd.C_below HC1.out hW)⟩
    have B0 := Aside0.mk (below_drew1 (Below.refl W1.heap.size W1))
    clear hz1 hb1 hg
    refine start_ (n := 11) (S := fun w' => True) (ds := []) #[false, false, false, false, false, false, false, false, false, false, false] (by kernel_rfl) rfl rfl trivial (fun hHeld => ?_)
    refine with_tabW within1.tab1 within1.bits1 (fun HT_ HW_ => ?_)
    generalize W1.drew = wq at B0 hHeld ⊢
    refine inv_at [0, 1, 2, 3, 4, 5, 6, 7, 8, 9, 10] (fun a0_ b a w' => a = putSel a0_ b [(0, 5, .agg #[.int .i64 B, .int .i64 P, .int .i64 C]), (1, 6, .int .i64 0), (2, 7, .bool true), (3, 8, .bool true), (4, 9, .slice A l.length cp), (5, 10, .int .i64 n), (6, 11, .pointer (some ⟨g, 2, none⟩)), (7, 12, .int .i64 C), (8, 13, .bool q), (9, 14, .bool q), (10, 4, .bool q)] ∧ (Below W1.heap.size W1 w')) HT_.out HW_.out (by kernel_rfl) (by kernel_rfl) ?_ ?_ ?_
    · exact ⟨by simp only [putSel, Bool.false_eq_true, if_false], B0.out⟩
    · skip
      clear B0
      refine steps_cons ?_ ?_
      · rintro b a w' ⟨ha, Q_B0⟩ hb_ hon hoff
        refine ⟨_, rfl, fun K hK => ?_⟩
        have e2 : a.tmps[2]? = some (.pointer (some ⟨g, 0, none⟩)) := by rw [ha]; exact (putSel_off rfl).trans rfl
        replace ha := Aside0.mk ha
        have B0 := Aside0.mk Q_B0
        have c0_ := blk_cell (blk_below HZ.out B0.out) 0
        have c1_ := blk_cell (blk_below HZ.out B0.out) 1
        have c2_ := blk_cell (blk_below HZ.out B0.out) 2
        refine value_ (w1 := w') (v := .agg #[.int .i64 B, .int .i64 P, .int .i64 C]) (by rfl) rfl ?_ ?_
        · go_simp
          (try simp only [i64_w])
          try rfl
        refine hK.out _ _ ⟨(by rw [ha.out]; exact putSel_upk 0 hb_ rfl rfl rfl), Q_B0⟩
      refine steps_cons ?_ ?_
      · rintro b a w' ⟨ha, Q_B0⟩ hb_ hon hoff
        refine ⟨_, rfl, fun K hK => ?_⟩
        have e5 : a.tmps[5]? = some (.agg #[.int .i64 B, .int .i64 P, .int .i64 C]) := by rw [ha]; exact putSel_on (e := (0, 5, .agg #[.int .i64 B, .int .i64 P, .int .i64 C])) 0 rfl rfl (hon 0 (by kernel_rfl)) rfl
        replace ha := Aside0.mk ha
        have B0 := Aside0.mk Q_B0
        refine goes_ Try.func60 (by kernel_rfl) rfl #[.agg #[.int .i64 B, .int .i64 P, .int .i64 C]] (by rfl) rfl rfl (by first | (simp only [List.map_toArray, List.map_cons, List.map_nil, Act.eval, Array.getD_eq_getD_getElem?, Option.getD_some, e5]; done) | (simp only [List.map_toArray, List.map_cons, List.map_nil, Act.eval, Array.getD_eq_getD_getElem?, Option.getD_some, e5]; rfl)) ?_
        with_reducible refine (HCK.out w').mono ?_
        rintro e w2 ⟨rfl, hb⟩
        refine ⟨_, rfl, ?_⟩
        refine hK.out _ _ ⟨(by rw [ha.out]; exact putSel_upk 1 hb_ rfl rfl rfl), below_then B0.out B0.out.size hb⟩
      refine steps_cons ?_ ?_
      · rintro b a w' ⟨ha, Q_B0⟩ hb_ hon hoff
        refine ⟨_, rfl, fun K hK => ?_⟩
        have e6 : a.tmps[6]? = some (.int .i64 0) := by rw [ha]; exact putSel_on (e := (1, 6, .int .i64 0)) 1 rfl rfl (hon 1 (by kernel_rfl)) rfl
        replace ha := Aside0.mk ha
        have B0 := Aside0.mk Q_B0
        refine value_ (w1 := w') (v := .bool true) (by rfl) rfl ?_ ?_
        · go_simp
          (try simp only [i64_w])
          try rfl
        refine hK.out _ _ ⟨(by rw [ha.out]; exact putSel_upk 2 hb_ rfl rfl rfl), Q_B0⟩
      refine steps_cons ?_ ?_
      · rintro b a w' ⟨ha, Q_B0⟩ hb_ hon hoff
        refine ⟨_, rfl, fun K hK => ?_⟩
        have e7 : a.tmps[7]? = some (.bool true) := by rw [ha]; exact putSel_on (e := (2, 7, .bool true)) 2 rfl rfl (hon 2 (by kernel_rfl)) rfl
        replace ha := Aside0.mk ha
        have B0 := Aside0.mk Q_B0
        refine value_ (w1 := w') (v := .bool true) (by rfl) rfl ?_ ?_
        · go_simp
          (try simp only [i64_w])
          try rfl
        refine hK.out _ _ ⟨(by rw [ha.out]; exact putSel_upk 3 hb_ rfl rfl rfl), Q_B0⟩
      refine steps_cons ?_ ?_
      · rintro b a w' ⟨ha, Q_B0⟩ hb_ hon hoff
        refine ⟨_, rfl, fun K hK => ?_⟩
        have e1 : a.tmps[1]? = some (.slice A l.length cp) := by rw [ha]; exact (putSel_off rfl).trans rfl
        have e8 : a.tmps[8]? = some (.bool true) := by rw [ha]; exact putSel_on (e := (3, 8, .bool true)) 3 rfl rfl (hon 3 (by kernel_rfl)) rfl
        replace ha := Aside0.mk ha
        have B0 := Aside0.mk Q_B0
        refine value_ (w1 := w') (v := .slice A l.length cp) (wanted_on rfl rfl rfl (e8.trans (by first | rfl | (simp [*]; done)))) rfl ?_ ?_
        · go_simp
          (try simp only [i64_w])
          try rfl
        refine hK.out _ _ ⟨(by rw [ha.out]; exact putSel_upk 4 hb_ rfl rfl rfl), Q_B0⟩
      refine steps_cons ?_ ?_
      · rintro b a w' ⟨ha, Q_B0⟩ hb_ hon hoff
        refine ⟨_, rfl, fun K hK => ?_⟩
        have e9 : a.tmps[9]? = some (.slice A l.length cp) := by rw [ha]; exact putSel_on (e := (4, 9, .slice A l.length cp)) 4 rfl rfl (hon 4 (by kernel_rfl)) rfl
        have e8 : a.tmps[8]? = some (.bool true) := by rw [ha]; exact putSel_on (e := (3, 8, .bool true)) 3 rfl rfl (hon 3 (by kernel_rfl)) rfl
        replace ha := Aside0.mk ha
        have B0 := Aside0.mk Q_B0
        refine goes_ Try.func42 (by kernel_rfl) rfl #[.slice A l.length cp, .int .i64 1] (wanted_on rfl rfl rfl (e8.trans rfl)) rfl rfl (by first | (simp only [List.map_toArray, List.map_cons, List.map_nil, Act.eval, Array.getD_eq_getD_getElem?, Option.getD_some, e9, e8]; done) | (simp only [List.map_toArray, List.map_cons, List.map_nil, Act.eval, Array.getD_eq_getD_getElem?, Option.getD_some, e9, e8]; rfl)) ?_
        with_reducible refine (HCC.out _ B0.out).mono ?_
        rintro e w2 ⟨rfl, hb⟩
        refine ⟨_, rfl, ?_⟩
        refine hK.out _ _ ⟨(by rw [ha.out]; exact putSel_upk 5 hb_ rfl rfl rfl), below_then B0.out B0.out.size hb⟩
      refine steps_cons ?_ ?_
      · rintro b a w' ⟨ha, Q_B0⟩ hb_ hon hoff
        refine ⟨_, rfl, fun K hK => ?_⟩
        have e2 : a.tmps[2]? = some (.pointer (some ⟨g, 0, none⟩)) := by rw [ha]; exact (putSel_off rfl).trans rfl
        have e8 : a.tmps[8]? = some (.bool true) := by rw [ha]; exact putSel_on (e := (3, 8, .bool true)) 3 rfl rfl (hon 3 (by kernel_rfl)) rfl
        replace ha := Aside0.mk ha
        have B0 := Aside0.mk Q_B0
        refine value_ (w1 := w') (v := .pointer (some ⟨g, 2, none⟩)) (wanted_on rfl rfl rfl (e8.trans (by first | rfl | (simp [*]; done)))) rfl ?_ ?_
        · go_simp
          (try simp only [i64_w])
          try rfl
        refine hK.out _ _ ⟨(by rw [ha.out]; exact putSel_upk 6 hb_ rfl rfl rfl), Q_B0⟩
      refine steps_cons ?_ ?_
      · rintro b a w' ⟨ha, Q_B0⟩ hb_ hon hoff
        refine ⟨_, rfl, fun K hK => ?_⟩
        have e11 : a.tmps[11]? = some (.pointer (some ⟨g, 2, none⟩)) := by rw [ha]; exact putSel_on (e := (6, 11, .pointer (some ⟨g, 2, none⟩))) 6 rfl rfl (hon 6 (by kernel_rfl)) rfl
        have e8 : a.tmps[8]? = some (.bool true) := by rw [ha]; exact putSel_on (e := (3, 8, .bool true)) 3 rfl rfl (hon 3 (by kernel_rfl)) rfl
        replace ha := Aside0.mk ha
        have B0 := Aside0.mk Q_B0
        have c0_ := blk_cell (blk_below HZ.out B0.out) 2
        refine value_ (w1 := w') (v := .int .i64 C) (wanted_on rfl rfl rfl (e8.trans (by first | rfl | (simp [*]; done)))) rfl ?_ ?_
        · go_simp
          (try simp only [i64_w])
          try rfl
        refine hK.out _ _ ⟨(by rw [ha.out]; exact putSel_upk 7 hb_ rfl rfl rfl), Q_B0⟩
      refine steps_cons ?_ ?_
      · rintro b a w' ⟨ha, Q_B0⟩ hb_ hon hoff
        refine ⟨_, rfl, fun K hK => ?_⟩
        have e10 : a.tmps[10]? = some (.int .i64 n) := by rw [ha]; exact putSel_on (e := (5, 10, .int .i64 n)) 5 rfl rfl (hon 5 (by kernel_rfl)) rfl
        have e12 : a.tmps[12]? = some (.int .i64 C) := by rw [ha]; exact putSel_on (e := (7, 12, .int .i64 C)) 7 rfl rfl (hon 7 (by kernel_rfl)) rfl
        have e8 : a.tmps[8]? = some (.bool true) := by rw [ha]; exact putSel_on (e := (3, 8, .bool true)) 3 rfl rfl (hon 3 (by kernel_rfl)) rfl
        replace ha := Aside0.mk ha
        have B0 := Aside0.mk Q_B0
        have q_ := HQ.out
        refine value_ (w1 := w') (v := .bool q) (wanted_on rfl rfl rfl (e8.trans (by first | rfl | (simp [*]; done)))) rfl ?_ ?_
        · go_simp
          (try simp only [i64_w])
          try rfl
        refine hK.out _ _ ⟨(by rw [ha.out]; exact putSel_upk 8 hb_ rfl rfl rfl), Q_B0⟩
      refine steps_cons ?_ ?_
      · rintro b a w' ⟨ha, Q_B0⟩ hb_ hon hoff
        refine ⟨_, rfl, fun K hK => ?_⟩
        have e8 : a.tmps[8]? = some (.bool true) := by rw [ha]; exact putSel_on (e := (3, 8, .bool true)) 3 rfl rfl (hon 3 (by kernel_rfl)) rfl
        have e13 : a.tmps[13]? = some (.bool q) := by rw [ha]; exact putSel_on (e := (8, 13, .bool q)) 8 rfl rfl (hon 8 (by kernel_rfl)) rfl
        replace ha := Aside0.mk ha
        have B0 := Aside0.mk Q_B0
        refine value_ (w1 := w') (v := .bool q) (by rfl) rfl ?_ ?_
        · go_simp
          (try simp only [i64_w])
          try rfl
        refine hK.out _ _ ⟨(by rw [ha.out]; exact putSel_upk 9 hb_ rfl rfl rfl), Q_B0⟩
      refine steps_cons ?_ ?_
      · rintro b a w' ⟨ha, Q_B0⟩ hb_ hon hoff
        refine ⟨_, rfl, fun K hK => ?_⟩
        have e14 : a.tmps[14]? = some (.bool q) := by rw [ha]; exact putSel_on (e := (9, 14, .bool q)) 9 rfl rfl (hon 9 (by kernel_rfl)) rfl
        replace ha := Aside0.mk ha
        have B0 := Aside0.mk Q_B0
        refine value_ (w1 := w') (v := .bool q) (by rfl) rfl ?_ ?_
        · go_simp
          (try simp only [i64_w])
          try rfl
        refine hK.out _ _ ⟨(by rw [ha.out]; exact putSel_upk 10 hb_ rfl rfl rfl), Q_B0⟩
      exact steps_nil
    rintro b a w2 hall ⟨ha, Q_B0⟩
    clear B0
    have hb0_ := hall 0 (by kernel_rfl)
    have hb1_ := hall 1 (by kernel_rfl)
    have hb2_ := hall 2 (by kernel_rfl)
    have hb3_ := hall 3 (by kernel_rfl)
    have hb4_ := hall 4 (by kernel_rfl)
    have hb5_ := hall 5 (by kernel_rfl)
    have hb6_ := hall 6 (by kernel_rfl)
    have hb7_ := hall 7 (by kernel_rfl)
    have hb8_ := hall 8 (by kernel_rfl)
    have hb9_ := hall 9 (by kernel_rfl)
    have hb10_ := hall 10 (by kernel_rfl)
    subst ha
    simp only [putSel, hb0_, hb1_, hb2_, hb3_, hb4_, hb5_, hb6_, hb7_, hb8_, hb9_, hb10_, if_true, Act.put, List.setIfInBounds_toArray, List.set_cons_zero, List.set_cons_succ]
    have B0 := Aside0.mk Q_B0
    clear Q_B0
    clear hall hb0_ hb1_ hb2_ hb3_ hb4_ hb5_ hb6_ hb7_ hb8_ hb9_ hb10_
    go_wp2_with fail
    go_ret
    exact ⟨rfl, below_then HB.out HB.out.size B0.out⟩
end Go.Proofs.Ytnchdmidaigheaa.QS
namespace Go.Proofs.Ytnchdmidaigheaa.ND
set_option linter.unusedVariables false
set_option linter.unusedSimpArgs false
open Go.RowKit Go.Proofs.Ytnchdmidaigheaa.Hp Go.Proofs.YtnchdmidaigheaaW.PrintWords Go.Proofs.YtnchdmidaigheaaW.PrintLast Go.Proofs.YtnchdmidaigheaaW.PrintMore
section
variable {P : Program} {ops : Array Oper} {rest : List Oper} {Q : Exit → Act → World → Prop}
theorem app_wp {o : Oper} {a : Act} {w w' : World} (hgd : o.guard = none) (s x : Operand) (t : TypeId)
    (ho : o.op = .call { callee := .builtin .append, args := #[s, x], argTypes := #[t, t] }) {v xv v' : Value} (hs : a.eval s = v) (hx : a.eval x = xv)
    (hr : (Builtin.append_ #[t, t] o.type #[v, xv]).run P w = .ok v' w') (h : wpList P ops Q rest (a.put o.dst v') w') : wpList P ops Q (o :: rest) a w := by
  refine wpList_plain hgd fun K hK => ?_
  unfold Oper.wp execOp
  simp only [ho, resolve, invoke, builtin, Sem.run_bind, Sem.run_pure, Result.andThen_ok, List.map_toArray, List.map_cons, List.map_nil, hs, hx, hr]
  exact hK _ _ h
end
theorem bytes_copy {W : World} {A : Option Addr} {c : Nat} {l : List Int} (gl : Kd.C (Kd.int .u8) W A l.length l) (hl : l.length ≤ 1000) :
    ∃ v' w', (Builtin.append_ #[38, 38] 38 #[.slice none 0 0, .slice A l.length c]).run Try.prog W = .ok v' w' ∧ w'.ownsRow W.heap.size 5 1 v' l.length (nums .u8 l) ∧ Below W.heap.size W w' := by
  rcases Nat.eq_zero_or_pos l.length with h0 | h0
  · obtain rfl := List.eq_nil_of_length_eq_zero h0
    obtain ⟨i0, hi, hzz⟩ := Option.map_eq_some_iff.1 (show (Try.prog.info? 5).map (fun i => (i.zero, i.size, i.bytes)) = some (some (.int .u8 0), 1, 1) by kernel_rfl)
    simp only [Prod.mk.injEq] at hzz
    have hsrc : Src Try.prog i0.size 38 (.slice A 0 c) 0 [] W := by
      cases A with
      | none => exact Src.ofNil W Try.underlying38 c
      | some ad => exact Src.ofSlice W Try.underlying38 ad 0 c [] (by simp) (by simp) (by simp)
    exact ⟨_, W, run_append_nothing W 38 38 38 5 i0 Try.underlying38 hi _ 0 0 (Nat.le_refl _) _ hsrc, World.ownsRow_nil _ _ _ _, Below.refl _ _⟩
  · obtain ⟨ad, rfl, hcc⟩ := gl.2.2 h0
    obtain ⟨v', w', h1, h2, h3, _⟩ := app_any W.heap.size 38 38 5 Try.underlying38 (z := .int .u8 0) (sz := 1) (bytes := 1) (by kernel_rfl) rfl (by decide) (by decide) (by decide) (.slice none 0 0) 0 [] (World.ownsRow_nil _ _ _ _) ad l.length c (nums .u8 l) (by simp [nums]) (fun j u hu => by
      unfold nums at hu
      rw [List.getElem?_map] at hu
      obtain ⟨x, hx, rfl⟩ := Option.map_eq_some_iff.1 hu
      obtain ⟨cs, hcl, hK, hc⟩ := hcc j x hx
      have hk : cs = [.int .u8 x] := hK
      subst hk
      have := hc 0 _ rfl
      have h' : W.cell? (ad.add (j * 1 + 0)) = some (.int .u8 x) := this
      rwa [Nat.mul_one, Nat.add_zero] at h') (fun u hu => by
      unfold nums at hu
      obtain ⟨x, _, rfl⟩ := List.mem_map.1 hu
      rfl) (by omega) (Nat.le_refl _)
    rw [Nat.zero_add, List.nil_append] at h2
    exact ⟨v', w', h1, h2, ⟨h3.os, h3.tape, h3.output, h3.size, fun k hk => h3.block k hk (by simp [Value.ownBlock])⟩⟩
theorem own_F {W : World} {base : Nat} {v : Value} {l : List Int} (h : W.ownsRow base 5 1 v l.length (nums .u8 l)) : ∃ A c, v = .slice A l.length c ∧ l.length ≤ c ∧ Kd.F (Kd.int .u8) W (fun k => base ≤ k) A l.length l := by
  have hR : Kd.R (Kd.int .u8) 5 W base (fun k => base ≤ k) v l := Kd.R_of_own (ok := fun k => base ≤ k) h (fun k hk => own_base h k hk)
  obtain ⟨A, c, rfl, hc, _⟩ := Kd.R_reads hR
  exact ⟨A, c, rfl, hc, Kd.R_F hR⟩
abbrev Fp := Flt × Option Addr × Nat
def encF (p : Fp) : List Value := [.int .i64 p.1.f0, .int .i64 p.1.f1, .slice p.2.1 p.1.f2.length p.2.2]
theorem encFs_at : ∀ (ps : List Fp) (i : Nat) (p : Fp), ps[i]? = some p → ∀ j, j < 3 → (ps.flatMap encF)[i * 3 + j]? = (encF p)[j]?
  | [], i, p, h, j, hj => by simp at h
  | q :: r, 0, p, h, j, hj => by
    obtain rfl : q = p := by simpa using h
    rw [List.flatMap_cons, List.getElem?_append_left (by show _ < 3; omega)]
    congr 1
    omega
  | q :: r, i + 1, p, h, j, hj => by
    rw [List.flatMap_cons, List.getElem?_append_right (by show 3 ≤ _; omega)]
    have := encFs_at r i p (by simpa using h) j hj
    rw [← this]
    congr 1
    show (i + 1) * 3 + j - 3 = i * 3 + j
    omega
def FRow (W : World) (ok : Nat → Prop) (ps : List Fp) : Prop := ∀ p ∈ ps, p.1.f2.length ≤ p.2.2 ∧ Kd.F (Kd.int .u8) W ok p.2.1 p.1.f2.length p.1.f2
theorem FRow.step {W W' : World} {ok : Nat → Prop} {ps : List Fp} (h : FRow W ok ps) (hm : ∀ k, ok k → k < W.heap.size → W'.heap[k]? = W.heap[k]?) : FRow W' ok ps := fun p hp => ⟨(h p hp).1, Kd.F_step (h p hp).2 hm⟩
theorem FRow.snoc {W : World} {ok : Nat → Prop} {ps : List Fp} (h : FRow W ok ps) {p : Fp} (h1 : p.1.f2.length ≤ p.2.2) (h2 : Kd.F (Kd.int .u8) W ok p.2.1 p.1.f2.length p.1.f2) : FRow W ok (ps ++ [p]) := fun q hq => by
  rcases List.mem_append.1 hq with hq | hq
  · exact h q hq
  · rw [List.mem_singleton.1 hq]; exact ⟨h1, h2⟩
abbrev okw (W5 : World) (v : Value) (k : Nat) : Prop := W5.heap.size ≤ k ∧ some k ≠ v.ownBlock
theorem fault_app {W6 W : World} {vf : Value} {n : Nat} {ps : List Fp} (ho : W.ownsRow W6.heap.size 65 3 vf n (ps.flatMap encF)) (hg : FRow W (okw W6 vf) ps) {p : Fp} (h1 : p.1.f2.length ≤ p.2.2) (h2 : Kd.F (Kd.int .u8) W (okw W6 vf) p.2.1 p.1.f2.length p.1.f2) {gx : Nat} (hx : W.heap[gx]? = some (.cells #[.int .i64 p.1.f0, .int .i64 p.1.f1, .slice p.2.1 p.1.f2.length p.2.2] 65 (0, 0))) (hn : n + 1 ≤ 100000) (hs : W6.heap.size ≤ W.heap.size) :
    ∃ v' w', (Builtin.append_ #[25, 25] 25 #[vf, .slice (some ⟨gx, 0, none⟩) 1 1]).run Try.prog W = .ok v' w' ∧ w'.ownsRow W6.heap.size 65 3 v' (n + 1) ((ps ++ [p]).flatMap encF) ∧ FRow w' (okw W6 v') (ps ++ [p]) ∧ W.grownBy w' vf.ownBlock := by
  obtain ⟨v', w', e1, e2, e3, e4⟩ := app_any W6.heap.size 25 25 65 Try.underlying25 (z := .agg #[.int .i64 0, .int .i64 0, .slice none 0 0]) (sz := 3) (bytes := 40) (by kernel_rfl) rfl (by decide) (by decide) (by decide) vf n _ ho ⟨gx, 0, none⟩ 1 1 (encF p) rfl (fun j u hu => by rw [add_plain, blk_cell hx, ← hu]; show (encF p).toArray[j]? = _; rw [List.getElem?_toArray]) (fun u hu => by
    unfold encF at hu
    simp only [List.mem_cons, List.not_mem_nil, or_false] at hu
    rcases hu with rfl | rfl | rfl <;> rfl) hn hs
  refine ⟨v', w', e1, by rw [List.flatMap_append]; simpa using e2, ?_, e3⟩
  have hat : v'.ownBlock = vf.ownBlock ∨ ∃ b, v'.ownBlock = some b ∧ W.heap.size ≤ b := by
    rcases e4 with e4 | e4
    · exact .inl e4
    · exact .inr ⟨_, e4, Nat.le_refl _⟩
  intro q hq
  have := (hg.snoc h1 h2) q hq
  exact ⟨this.1, Kd.F_after (ok := fun k => W6.heap.size ≤ k) this.2 e3 hat⟩
theorem own_moved {w w1 : World} {base : Nat} {e : TypeId} {size n : Nat} {v : Value} {xs : List Value} (h : w.ownsRow base e size v n xs) (hm : ∀ k, v.ownBlock = some k → k < w.heap.size → w1.heap[k]? = w.heap[k]?) : w1.ownsRow base e size v n xs := own_move h (fun k hk => hm k hk (own_lt h k hk))
theorem faults_F {W : World} {base : Nat} {v : Value} {ps : List Fp} {ok : Nat → Prop} (ho : W.ownsRow base 65 3 v ps.length (ps.flatMap encF)) (hg : FRow W ok ps) (hok : ∀ k, v.ownBlock = some k → ok k) (hn : ps.length ≤ 1000) :
    ∃ A c, v = .slice A ps.length c ∧ ps.length ≤ c ∧ Kd.F k65 W ok A ps.length (ps.map (·.1)) := by
  obtain ⟨A, c, rfl⟩ := own_slice ho
  refine ⟨A, c, rfl, own_le ho, fun W' hW => ?_⟩
  have ho' := own_moved ho (fun k hk hlt => hW k (hok k hk) hlt)
  refine ⟨by rw [List.length_map], by omega, fun h0 => ?_⟩
  obtain ⟨g, cap, hv, _, _⟩ := ho'.form h0
  injection hv with hv _ _
  subst hv
  refine ⟨_, rfl, fun i x hx => ?_⟩
  rw [List.getElem?_map] at hx
  obtain ⟨p, hp, rfl⟩ := Option.map_eq_some_iff.1 hx
  have hgp := hg p (List.mem_of_getElem? hp)
  refine ⟨encF p, rfl, k65_mk W' p.1 hgp.1 (hgp.2 W' hW), fun k u hu => ?_⟩
  have hk : k < 3 := (List.getElem?_eq_some_iff.1 hu).1
  have e := encFs_at ps i p hp k hk
  exact ho'.cells (g := g) rfl _ u (by rw [show (k65.sz : Nat) = 3 from rfl, e]; exact hu)
end Go.Proofs.Ytnchdmidaigheaa.ND
namespace Go.Proofs.Ytnchdmidaigheaa.ND
set_option linter.unusedVariables false
set_option linter.unusedSimpArgs false
open Go.RowKit Go.Proofs.Ytnchdmidaigheaa.Hp Go.Proofs.YtnchdmidaigheaaW.PrintWords Go.Proofs.YtnchdmidaigheaaW.PrintLast Go.Proofs.YtnchdmidaigheaaW.PrintMore
def marksTo (B : Nat) (bad : List Int) (i : Nat) : List Value := (List.range B).map fun (j : Nat) => .bool ((bad.take i).any fun x => x == (j : Int))
theorem marksTo_len (B : Nat) (bad : List Int) (i : Nat) : (marksTo B bad i).length = B := by unfold marksTo; rw [List.length_map, List.length_range]
theorem marksTo_at (B : Nat) (bad : List Int) (i j : Nat) : (marksTo B bad i)[j]? = if j < B then some (.bool ((bad.take i).any fun x => x == (j : Int))) else none := by
  unfold marksTo
  rw [List.getElem?_map]
  split
  · rename_i h
    rw [List.getElem?_range h]
    rfl
  · rename_i h
    rw [List.getElem?_eq_none (by rw [List.length_range]; omega)]
    rfl
theorem any_take {bad : List Int} {i : Nat} {x : Int} (hx : bad[i]? = some x) (p : Int → Bool) : (bad.take (i + 1)).any p = ((bad.take i).any p || p x) := by
  rw [List.take_add_one, hx, List.any_append]
  simp
theorem marksTo_hit {B : Nat} {bad : List Int} {i n : Nat} (hx : bad[i]? = some (n : Int)) (hn : n < B) : marksTo B bad (i + 1) = (marksTo B bad i).set n (.bool true) := by
  apply List.ext_getElem?
  intro j
  rw [List.getElem?_set, marksTo_at, marksTo_at, marksTo_len, any_take hx]
  by_cases hj : n = j
  · subst hj
    rw [if_pos hn, if_pos rfl, if_pos hn]
    simp
  · rw [if_neg hj]
    have : ((n : Int) == (j : Int)) = false := by simp; omega
    rw [this, Bool.or_false]
theorem marksTo_miss {B : Nat} {bad : List Int} {i : Nat} {x : Int} (hx' : bad[i]? = some x) (hx : ¬ (0 ≤ x ∧ x < (B : Int))) : marksTo B bad (i + 1) = marksTo B bad i := by
  apply List.ext_getElem?
  intro j
  rw [marksTo_at, marksTo_at, any_take hx']
  split
  · have : (x == (j : Int)) = false := by simp; omega
    rw [this, Bool.or_false]
  · rfl
theorem marksTo_zero (B : Nat) (bad : List Int) : marksTo B bad 0 = List.replicate B (.bool false) := by
  apply List.ext_getElem?
  intro j
  rw [marksTo_at, List.getElem?_replicate, List.take_zero]
  rfl
theorem marksTo_all {B P C : Int} {bad : List Int} {fs : List Flt} : marksTo B.toNat bad bad.length = marks (newDv B P C bad fs) := by
  unfold marksTo
  rw [List.take_length]
  rfl
theorem made_cells (z : Value) (n : Nat) {W : World} {g T : Nat} (h : W.heap[g]? = some (.cells (madeCells #[z] n) T (0, 0))) : Cells W g T (List.replicate n z) := by
  have := Cells.mk' h
  rwa [toList_madeCells_one] at this
theorem Ones_256 : zeros_Ones.f 300 256 = some (List.replicate 256 255) := by decide +kernel
abbrev okv (W5 : World) (v : Value) (k : Nat) : Prop := W5.heap.size ≤ k ∧ some k ≠ v.ownBlock
theorem ones_fresh {W5 w w2 : World} {vp v : Value} {n e T : Nat} {vs : List Value} (ho : w.ownsRow W5.heap.size T 1 vp n vs) (hR : Kd.R (Kd.int .u8) e w2 w.heap.size (fun _ => True) v (List.replicate 256 255)) (hs : W5.heap.size ≤ w.heap.size) : ∃ A c, v = .slice A 256 c ∧ 256 ≤ c ∧ Kd.F (Kd.int .u8) w2 (okv W5 vp) A 256 (List.replicate 256 255) := by
  obtain ⟨A, c, rfl, hc, _⟩ := Kd.R_reads hR
  rw [List.length_replicate] at hc
  have h := Kd.R_F (Kd.R_mono (Kd.R_bound hR) (fun k hk => (⟨Nat.le_trans hs hk.2.1, fun e => by have := own_lt ho k e.symm; have := hk.2.1; omega⟩ : okv W5 vp k)))
  rw [List.length_replicate] at h
  exact ⟨A, c, by rw [List.length_replicate], hc, h⟩
theorem Pages.snoc {W : World} {ok : Nat → Prop} {vs : List Value} {ps : List (List Int)} (h : Pages W ok vs ps) {A : Option Addr} {c : Nat} {l : List Int} (hc : 256 ≤ c) (hF : Kd.F (Kd.int .u8) W ok A 256 l) : Pages W ok (vs ++ [.slice A 256 c]) (ps ++ [l]) := by
  refine ⟨by rw [List.length_append, List.length_append, h.1]; rfl, fun i v x hv hx => ?_⟩
  rcases Nat.lt_or_ge i vs.length with hi | hi
  · rw [List.getElem?_append_left hi] at hv
    rw [List.getElem?_append_left (by have := h.1; omega)] at hx
    exact h.2 i v x hv hx
  · have hi' : i = vs.length := by
      have := (List.getElem?_eq_some_iff.1 hv).1
      rw [List.length_append] at this
      have e : [Value.slice A 256 c].length = 1 := rfl
      omega
    subst hi'
    rw [List.getElem?_append_right (Nat.le_refl _), Nat.sub_self] at hv
    rw [List.getElem?_append_right (by have := h.1; omega), show vs.length - ps.length = 0 by have := h.1; omega] at hx
    obtain rfl := Option.some.inj hv
    obtain rfl := Option.some.inj hx
    exact ⟨A, c, rfl, hc, hF⟩
theorem page_app {W5 W : World} {vp : Value} {n : Nat} {vs : List Value} {ps : List (List Int)} (ho : W.ownsRow W5.heap.size 38 1 vp n vs) (hp : Pages W (okv W5 vp) vs ps) {A : Option Addr} {c : Nat} {l : List Int} (hc : 256 ≤ c) (hF : Kd.F (Kd.int .u8) W (okv W5 vp) A 256 l) {gx : Nat} (hx : W.heap[gx]? = some (.cells #[.slice A 256 c] 38 (0, 0))) (hn : n + 1 ≤ 100000) (hs : W5.heap.size ≤ W.heap.size) :
    ∃ v' w', (Builtin.append_ #[107, 107] 107 #[vp, .slice (some ⟨gx, 0, none⟩) 1 1]).run Try.prog W = .ok v' w' ∧ w'.ownsRow W5.heap.size 38 1 v' (n + 1) (vs ++ [.slice A 256 c]) ∧ Pages w' (okv W5 v') (vs ++ [.slice A 256 c]) (ps ++ [l]) ∧ W.grownBy w' vp.ownBlock := by
  obtain ⟨v', w', h1, h2, h3, h4⟩ := app_any W5.heap.size 107 107 38 Try.underlying107 (z := .slice none 0 0) (sz := 1) (bytes := 24) (by kernel_rfl) rfl (by decide) (by decide) (by decide) vp n vs ho ⟨gx, 0, none⟩ 1 1 [.slice A 256 c] rfl (fun j u hu => by rw [add_plain, blk_cell hx, ← hu]; show (#[Value.slice A 256 c])[j]? = _; rw [← List.getElem?_toArray]) (fun u hu => by rw [List.mem_singleton.1 hu]; rfl) hn hs
  refine ⟨v', w', h1, h2, ?_, h3⟩
  have hat : v'.ownBlock = vp.ownBlock ∨ ∃ b, v'.ownBlock = some b ∧ W.heap.size ≤ b := by
    rcases h4 with h4 | h4
    · exact .inl h4
    · exact .inr ⟨_, h4, Nat.le_refl _⟩
  have hsn := hp.snoc hc hF
  exact ⟨hsn.1, fun i v x hv hx => by obtain ⟨A', c', e1, e2, e3⟩ := hsn.2 i v x hv hx; exact ⟨A', c', e1, e2, Kd.F_after (ok := fun k => W5.heap.size ≤ k) e3 h3 hat⟩⟩
section
variable {P : Program} {ops : Array Oper} {Q : Exit → Act → World → Prop}
theorem app_step {oi : Oper} {N : Option Tmp} {a : Act} {w : World} {K : Act → World → Prop} (hw : Region.wanted oi (yielded ops a.tmps) = true) (hN : oi.dst = N) {ts tx : Tmp} {t : TypeId} (ho : oi.op = .call { callee := .builtin .append, args := #[.tmp ts, .tmp tx], argTypes := #[t, t] })
    {v xv : Value} (hs : a.tmps[ts]? = some v) (hx : a.tmps[tx]? = some xv) {v' : Value} {w' : World} (hr : (Builtin.append_ #[t, t] oi.type #[v, xv]).run P w = .ok v' w') (h : K (a.put N v') w') :
    if Region.wanted oi (yielded ops a.tmps) = true then Oper.wp P oi a w K Q else K (a.put N undef) w := by
  rw [if_pos hw]
  subst hN
  have e1 : a.eval (.tmp ts) = v := by simp [Act.eval, Array.getD_eq_getD_getElem?, hs]
  have e2 : a.eval (.tmp tx) = xv := by simp [Act.eval, Array.getD_eq_getD_getElem?, hx]
  unfold Oper.wp execOp
  simp only [ho, resolve, invoke, builtin, Sem.run_bind, Sem.run_pure, Result.andThen_ok, List.map_toArray, List.map_cons, List.map_nil, e1, e2, hr]
  exact h
end
def NewTo (W : World) (B P C : Int) (bad : List Int) (fs : List Flt) (e : Ending) (w' : World) : Prop :=
  Below W.heap.size W w' ∧ (rightG B P C = true → ∃ L : Lay, e = .returned (.tuple #[.pointer (some ⟨L.g, 0, none⟩), .int .i64 0]) ∧ DV w' (fun k => W.heap.size ≤ k ∧ ¬ L.S k) L (newDv B P C bad fs) ∧ ∀ k, L.S k ∨ k = L.gm → W.heap.size ≤ k) ∧
  (rightG B P C = false → e = .returned (.tuple #[.pointer none, .int .i64 3]))
def new4.T4 : Bool × List (List Nat × List Nat) := (true, [([], []), ([], []), ([1], [1]), ([2, 2], [2]), ([], []), ([4], [4]), ([5, 5], [5]), ([], []), ([7], [7]), ([8, 8], [8]), ([0, 3, 6, 9], [0, 3, 6, 9]), ([10], [10]), ([11, 0, 1, 2, 3, 4, 5, 6, 7, 8, 9, 10, 11], [11])])
def new4.B4 : List Nat := [0, 0, 2, 6, 0, 16, 48, 0, 128, 384, 1023, 2047, 4095]
theorem new4.tab4 : rtab .any (opsOf Try.f14 4) = new4.T4 := by kernel_rfl
theorem new4.bits4 : waitsOk new4.T4.2 new4.B4 = true := by kernel_rfl
def new13.T13 : Bool × List (List Nat × List Nat) := (true, [([], []), ([], []), ([1], [1]), ([2], [2]), ([3], [3]), ([], []), ([5], [5]), ([4, 6, 5], [4, 6]), ([0, 0, 1, 2, 3, 4, 5, 6, 7], [0]), ([8, 0, 1, 2, 3, 4, 5, 6, 7], [8]), ([9, 7, 7, 0, 1, 2, 3, 4, 5, 6, 7], [7, 9])])
def new13.B13 : List Nat := [0, 0, 2, 6, 14, 0, 32, 126, 255, 511, 1023]
theorem new13.tab13 : rtab .any (opsOf Try.f14 13) = new13.T13 := by kernel_rfl
theorem new13.bits13 : waitsOk new13.T13.2 new13.B13 = true := by kernel_rfl
def new19.T19 : Bool × List (List Nat × List Nat) := (true, [([], []), ([], []), ([1], [1]), ([2], [2]), ([3], [3]), ([], []), ([5], [5]), ([4, 6], [4, 6]), ([0, 0, 1, 2, 3, 4, 5, 6, 7], [0]), ([8, 0, 1, 2, 3, 4, 5, 6, 7], [8]), ([9, 7, 7, 0, 1, 2, 3, 4, 5, 6, 7], [7, 9])])
def new19.B19 : List Nat := [0, 0, 2, 6, 14, 0, 32, 126, 255, 511, 1023]
theorem new19.tab19 : rtab .any (opsOf Try.f14 19) = new19.T19 := by kernel_rfl
theorem new19.bits19 : waitsOk new19.T19.2 new19.B19 = true := by kernel_rfl
set_option maxHeartbeats 4000000 in
set_option maxRecDepth 100000 in
theorem new_calls {W : World} (B P C : Int) (bad : List Int) (fs : List Flt) (Ab Af : Option Addr) (cb cf : Nat) (hb : Kd.C (Kd.int .i64) W Ab bad.length bad) (hf : Kd.C k65 W Af fs.length fs) (hbl : bad.length ≤ 1000) (hfl : fs.length ≤ 1000) (hfm : ∀ f ∈ fs, isBytes f.f2 ∧ f.f2.length ≤ 1000) :
    Calls Try.prog 14 #[.agg #[.int .i64 B, .int .i64 P, .int .i64 C], .slice Ab bad.length cb, .slice Af fs.length cf] W fun e w' => NewTo W B P C bad fs e w' := by
  have HIN := Aside0.mk (And.intro hb (And.intro hf (And.intro hbl (And.intro hfl hfm))))
  have hz3 := heap_alloc_new W (.cells #[.int .i64 B, .int .i64 P, .int .i64 C] 23)
  have hb3 := below_alloc (Below.refl W.heap.size W) (.cells #[.int .i64 B, .int .i64 P, .int .i64 C] 23)
  obtain ⟨g3, hg3⟩ : ∃ g, g = W.heap.size := ⟨_, rfl⟩
  clear hb hf hbl hfl hfm
  go_enter Try.func14, Try.ntmps14
  go_upto_region 1 with fail
  generalize W.alloc (.cells #[.int .i64 B, .int .i64 P, .int .i64 C] 23) = W2 at hz3 hb3 ⊢
  rw [← hg3] at hz3 ⊢
  have HG3 := Aside0.mk hg3
  have HZ2 := Aside0.mk hz3
  have HB2 := Aside0.mk hb3
  have HCK := Aside0.mk (fun w => geom_Check.calls B P C _ w rfl)
  have c0 := blk_cell hz3 0
  have c1 := blk_cell hz3 1
  have c2 := blk_cell hz3 2
  clear hg3 hz3 hb3
  cases hr : rightG B P C with
  | false =>
    have hr' : (within B 8 34 && (within P 4 32 && within C 0 8)) = false := hr
    rw [if_neg (by rw [hr']; decide)] at HCK
    have HRF := Aside0.mk hr
    clear hr hr'
    go_wp2_with (go_at_call 60; refine (HCK.out _).mono ?_; rintro e w3 ⟨rfl, hb⟩; have HB3 := Aside0.mk (below_then HB2.out HB2.out.size hb); clear hb)
    go_ret2
    refine ⟨HB3.out, ⟨fun h => ?_, fun _ => rfl⟩⟩
    rw [HRF.out] at h
    cases h
  | true =>
    have hr' : (within B 8 34 && (within P 4 32 && within C 0 8)) = true := hr
    rw [if_pos hr'] at HCK
    have HRG := Aside0.mk hr
    obtain ⟨hb1, hb2, hp1, hp2, hc1, hc2⟩ : 8 ≤ B ∧ B ≤ 34 ∧ 4 ≤ P ∧ P ≤ 32 ∧ 0 ≤ C ∧ C ≤ 8 := by
      unfold within at hr'
      simp only [Bool.and_eq_true, decide_eq_true_eq] at hr'
      obtain ⟨⟨h1, h2⟩, ⟨h3, h4⟩, h5, h6⟩ := hr'
      exact ⟨h1, h2, h3, h4, h5, h6⟩
    obtain ⟨Bn, rfl⟩ := Int.eq_ofNat_of_zero_le (show 0 ≤ B by omega)
    obtain ⟨Pn, rfl⟩ := Int.eq_ofNat_of_zero_le (show 0 ≤ P by omega)
    have HGM := Aside0.mk (And.intro hb1 (And.intro hb2 (And.intro hp1 hp2)))
    clear hr hr' hb1 hb2 hp1 hp2 hc1 hc2
    go_upto_region 4 with (go_at_call 60; refine (HCK.out _).mono ?_; rintro e w3 ⟨rfl, hb⟩; have HB23 := Aside0.mk hb; have HB3 := Aside0.mk (below_then HB2.out HB2.out.size hb); clear hb c0 c1 c2)
    have HZ3 := Aside0.mk (blk_below HZ2.out HB23.out)
    have HMB := Aside0.mk (print_make_of (P := Try.prog) 106 4 (.bool false) 1 Try.underlying106 (by kernel_rfl) rfl (by decide) Bn (by have := HGM.out; omega))
    have HMI := Aside0.mk (print_make_of (P := Try.prog) 24 3 (.int .i64 0) 8 Try.underlying24 (by kernel_rfl) rfl (by decide) Bn (by have := HGM.out; omega))
    have B0 := Aside0.mk (below_drew1 (Below.refl w3.heap.size w3))
    clear HCK HZ2 HB2 HB23
    refine start_ (n := 13) (S := fun w' => True) (ds := []) #[false, false, false, false, false, false, false, false, false, false, false, false, false] (by kernel_rfl) rfl rfl trivial (fun hHeld => ?_)
    refine with_tabW new4.tab4 new4.bits4 (fun HT_ HW_ => ?_)
    generalize w3.drew = wq at B0 hHeld ⊢
    refine inv_at [0, 1, 2, 3, 4, 5, 6, 7, 8, 9, 10, 11, 12] (fun a0_ b a w' => ∃ (gm : Nat) (gn : Nat) (gw : Nat) (g9 : Nat) (m3_ : Value) (m6_ : Value) (m9_ : Value) (m10_ : Value) (m11_ : Value) (m12_ : Value), a = putSel a0_ b [(0, 19, .agg #[.int .i64 (Bn : Int), .int .i64 (Pn : Int), .int .i64 C]), (1, 20, .pointer (some ⟨g3, 0, none⟩)), (2, 21, .int .i64 (Bn : Int)), (3, 22, m3_), (4, 23, .pointer (some ⟨g3, 0, none⟩)), (5, 24, .int .i64 (Bn : Int)), (6, 25, m6_), (7, 26, .pointer (some ⟨g3, 0, none⟩)), (8, 27, .int .i64 (Bn : Int)), (9, 28, m9_), (10, 29, m10_), (11, 30, m11_), (12, 9, m12_)] ∧ (Below w3.heap.size w3 w') ∧ (b 3 = true → w'.heap[gm]? = some (.cells (madeCells #[.bool false] Bn) 4 (0, 0)) ∧ w3.heap.size ≤ gm) ∧ (b 6 = true → w'.heap[gn]? = some (.cells (madeCells #[.int .i64 0] Bn) 3 (0, 0)) ∧ w3.heap.size ≤ gn) ∧ (b 9 = true → w'.heap[gw]? = some (.cells (madeCells #[.int .i64 0] Bn) 3 (0, 0)) ∧ w3.heap.size ≤ gw) ∧ (b 3 = true → b 6 = true → gm ≠ gn) ∧ (b 3 = true → b 9 = true → gm ≠ gw) ∧ (b 6 = true → b 9 = true → gn ≠ gw) ∧ (b 11 = true → w'.heap[g9]? = some (.cells #[.int .i64 (Bn : Int), .int .i64 (Pn : Int), .int .i64 C, .slice (some ⟨gm, 0, none⟩) Bn Bn, .slice none 0 0, .slice (some ⟨gn, 0, none⟩) Bn Bn, .slice (some ⟨gw, 0, none⟩) Bn Bn, .slice none 0 0, .int .i64 0, .bool false] 109 (0, 0)) ∧ w3.heap.size ≤ g9 ∧ gm ≠ g9 ∧ gn ≠ g9 ∧ gw ≠ g9) ∧ (b 3 = true → (m3_ : Value) = .slice (some ⟨gm, 0, none⟩) Bn Bn) ∧ (b 6 = true → (m6_ : Value) = .slice (some ⟨gn, 0, none⟩) Bn Bn) ∧ (b 9 = true → (m9_ : Value) = .slice (some ⟨gw, 0, none⟩) Bn Bn) ∧ (b 10 = true → (m10_ : Value) = .agg #[.int .i64 (Bn : Int), .int .i64 (Pn : Int), .int .i64 C, .slice (some ⟨gm, 0, none⟩) Bn Bn, .slice none 0 0, .slice (some ⟨gn, 0, none⟩) Bn Bn, .slice (some ⟨gw, 0, none⟩) Bn Bn, .slice none 0 0, .int .i64 0, .bool false]) ∧ (b 11 = true → (m11_ : Value) = .pointer (some ⟨g9, 0, none⟩)) ∧ (b 12 = true → (m12_ : Value) = .pointer (some ⟨g9, 0, none⟩))) HT_.out HW_.out (by kernel_rfl) (by kernel_rfl) ?_ ?_ ?_
    · exact ⟨0, 0, 0, 0, .bool false, .bool false, .bool false, .bool false, .bool false, .bool false, by simp only [putSel, Bool.false_eq_true, if_false], B0.out, fun h_ => absurd h_ (by decide), fun h_ => absurd h_ (by decide), fun h_ => absurd h_ (by decide), fun h_ => absurd h_ (by decide), fun h_ => absurd h_ (by decide), fun h_ => absurd h_ (by decide), fun h_ => absurd h_ (by decide), fun h_ => absurd h_ (by decide), fun h_ => absurd h_ (by decide), fun h_ => absurd h_ (by decide), fun h_ => absurd h_ (by decide), fun h_ => absurd h_ (by decide), fun h_ => absurd h_ (by decide)⟩
    · skip
      clear B0
      refine steps_cons ?_ ?_
      · rintro b a w' ⟨gm, gn, gw, g9, m3_, m6_, m9_, m10_, m11_, m12_, ha, Q_B0, Q_Zgm, Q_Zgn, Q_Zgw, Q_Nmn, Q_Nmw, Q_Nnw, Q_Z9, Q_X3_, Q_X6_, Q_X9_, Q_X10_, Q_X11_, Q_X12_⟩ hb_ hon hoff
        refine ⟨_, rfl, fun K hK => ?_⟩
        have e3 : a.tmps[3]? = some (.pointer (some ⟨g3, 0, none⟩)) := by rw [ha]; exact (putSel_off rfl).trans rfl
        replace ha := Aside0.mk ha
        have B0 := Aside0.mk Q_B0
        have c0_ := blk_cell (blk_below HZ3.out B0.out) 0
        have c1_ := blk_cell (blk_below HZ3.out B0.out) 1
        have c2_ := blk_cell (blk_below HZ3.out B0.out) 2
        refine value_ (w1 := w') (v := .agg #[.int .i64 (Bn : Int), .int .i64 (Pn : Int), .int .i64 C]) (by rfl) rfl ?_ ?_
        · go_simp
          (try simp only [i64_w])
          try rfl
        refine hK.out _ _ ⟨gm, gn, gw, g9, m3_, m6_, m9_, m10_, m11_, m12_, (by rw [ha.out]; exact putSel_upk 0 hb_ rfl rfl rfl), Q_B0, Q_Zgm, Q_Zgn, Q_Zgw, Q_Nmn, Q_Nmw, Q_Nnw, fun h0_ => absurd ((hoff 11 (by kernel_rfl)).symm.trans h0_) (by decide), Q_X3_, Q_X6_, Q_X9_, fun h0_ => absurd ((hoff 10 (by kernel_rfl)).symm.trans h0_) (by decide), fun h0_ => absurd ((hoff 11 (by kernel_rfl)).symm.trans h0_) (by decide), fun h0_ => absurd ((hoff 12 (by kernel_rfl)).symm.trans h0_) (by decide)⟩
      refine steps_cons ?_ ?_
      · rintro b a w' ⟨gm, gn, gw, g9, m3_, m6_, m9_, m10_, m11_, m12_, ha, Q_B0, Q_Zgm, Q_Zgn, Q_Zgw, Q_Nmn, Q_Nmw, Q_Nnw, Q_Z9, Q_X3_, Q_X6_, Q_X9_, Q_X10_, Q_X11_, Q_X12_⟩ hb_ hon hoff
        refine ⟨_, rfl, fun K hK => ?_⟩
        have e3 : a.tmps[3]? = some (.pointer (some ⟨g3, 0, none⟩)) := by rw [ha]; exact (putSel_off rfl).trans rfl
        replace ha := Aside0.mk ha
        have B0 := Aside0.mk Q_B0
        refine value_ (w1 := w') (v := .pointer (some ⟨g3, 0, none⟩)) (by rfl) rfl ?_ ?_
        · go_simp
          (try simp only [i64_w])
          try rfl
        refine hK.out _ _ ⟨gm, gn, gw, g9, m3_, m6_, m9_, m10_, m11_, m12_, (by rw [ha.out]; exact putSel_upk 1 hb_ rfl rfl rfl), Q_B0, fun h0_ => absurd ((hoff 3 (by kernel_rfl)).symm.trans h0_) (by decide), Q_Zgn, Q_Zgw, fun h0_ _ => absurd ((hoff 3 (by kernel_rfl)).symm.trans h0_) (by decide), fun h0_ _ => absurd ((hoff 3 (by kernel_rfl)).symm.trans h0_) (by decide), Q_Nnw, fun h0_ => absurd ((hoff 11 (by kernel_rfl)).symm.trans h0_) (by decide), fun h0_ => absurd ((hoff 3 (by kernel_rfl)).symm.trans h0_) (by decide), Q_X6_, Q_X9_, fun h0_ => absurd ((hoff 10 (by kernel_rfl)).symm.trans h0_) (by decide), fun h0_ => absurd ((hoff 11 (by kernel_rfl)).symm.trans h0_) (by decide), fun h0_ => absurd ((hoff 12 (by kernel_rfl)).symm.trans h0_) (by decide)⟩
      refine steps_cons ?_ ?_
      · rintro b a w' ⟨gm, gn, gw, g9, m3_, m6_, m9_, m10_, m11_, m12_, ha, Q_B0, Q_Zgm, Q_Zgn, Q_Zgw, Q_Nmn, Q_Nmw, Q_Nnw, Q_Z9, Q_X3_, Q_X6_, Q_X9_, Q_X10_, Q_X11_, Q_X12_⟩ hb_ hon hoff
        refine ⟨_, rfl, fun K hK => ?_⟩
        have e20 : a.tmps[20]? = some (.pointer (some ⟨g3, 0, none⟩)) := by rw [ha]; exact putSel_on (e := (1, 20, .pointer (some ⟨g3, 0, none⟩))) 1 rfl rfl (hon 1 (by kernel_rfl)) rfl
        replace ha := Aside0.mk ha
        have B0 := Aside0.mk Q_B0
        have c_ := blk_cell (blk_below HZ3.out B0.out) 0
        refine value_ (w1 := w') (v := .int .i64 (Bn : Int)) (by rfl) rfl ?_ ?_
        · go_simp
          (try simp only [i64_w])
          try rfl
        refine hK.out _ _ ⟨gm, gn, gw, g9, m3_, m6_, m9_, m10_, m11_, m12_, (by rw [ha.out]; exact putSel_upk 2 hb_ rfl rfl rfl), Q_B0, fun h0_ => absurd ((hoff 3 (by kernel_rfl)).symm.trans h0_) (by decide), Q_Zgn, Q_Zgw, fun h0_ _ => absurd ((hoff 3 (by kernel_rfl)).symm.trans h0_) (by decide), fun h0_ _ => absurd ((hoff 3 (by kernel_rfl)).symm.trans h0_) (by decide), Q_Nnw, fun h0_ => absurd ((hoff 11 (by kernel_rfl)).symm.trans h0_) (by decide), fun h0_ => absurd ((hoff 3 (by kernel_rfl)).symm.trans h0_) (by decide), Q_X6_, Q_X9_, fun h0_ => absurd ((hoff 10 (by kernel_rfl)).symm.trans h0_) (by decide), fun h0_ => absurd ((hoff 11 (by kernel_rfl)).symm.trans h0_) (by decide), fun h0_ => absurd ((hoff 12 (by kernel_rfl)).symm.trans h0_) (by decide)⟩
      refine steps_cons ?_ ?_
      · rintro b a w' ⟨gm, gn, gw, g9, m3_, m6_, m9_, m10_, m11_, m12_, ha, Q_B0, Q_Zgm, Q_Zgn, Q_Zgw, Q_Nmn, Q_Nmw, Q_Nnw, Q_Z9, Q_X3_, Q_X6_, Q_X9_, Q_X10_, Q_X11_, Q_X12_⟩ hb_ hon hoff
        refine ⟨_, rfl, fun K hK => ?_⟩
        have e21 : a.tmps[21]? = some (.int .i64 (Bn : Int)) := by rw [ha]; exact putSel_on (e := (2, 21, .int .i64 (Bn : Int))) 2 rfl rfl (hon 2 (by kernel_rfl)) rfl
        replace ha := Aside0.mk ha
        have B0 := Aside0.mk Q_B0
        have mk_ := HMB.out
        refine value_ (w1 := w'.alloc (Obj.cells (madeCells #[.bool false] Bn) 4)) (v := .slice (some ⟨w'.heap.size, 0, none⟩) Bn Bn) (by rfl) rfl (by first | (go_simp; done) | (go_simp; rfl)) ?_
        have hb := below_alloc (Below.refl w'.heap.size w') (Obj.cells (madeCells #[.bool false] Bn) 4)
        refine hK.out _ _ ⟨w'.heap.size, gn, gw, g9, (.slice (some ⟨w'.heap.size, 0, none⟩) Bn Bn), m6_, m9_, m10_, m11_, m12_, (by rw [ha.out]; exact putSel_upk 3 hb_ rfl rfl rfl), below_then B0.out B0.out.size hb, fun _ => ⟨heap_alloc_new w' _, B0.out.size⟩, fun h0_ => ⟨blk_below (Q_Zgn h0_).1 hb, (Q_Zgn h0_).2⟩, fun h0_ => ⟨blk_below (Q_Zgw h0_).1 hb, (Q_Zgw h0_).2⟩, fun h0_ h1_ => Nat.ne_of_gt (blk_lt (Q_Zgn h1_).1), fun h0_ h1_ => Nat.ne_of_gt (blk_lt (Q_Zgw h1_).1), Q_Nnw, fun h0_ => absurd ((hoff 11 (by kernel_rfl)).symm.trans h0_) (by decide), fun _ => rfl, Q_X6_, Q_X9_, fun h0_ => absurd ((hoff 10 (by kernel_rfl)).symm.trans h0_) (by decide), fun h0_ => absurd ((hoff 11 (by kernel_rfl)).symm.trans h0_) (by decide), fun h0_ => absurd ((hoff 12 (by kernel_rfl)).symm.trans h0_) (by decide)⟩
      refine steps_cons ?_ ?_
      · rintro b a w' ⟨gm, gn, gw, g9, m3_, m6_, m9_, m10_, m11_, m12_, ha, Q_B0, Q_Zgm, Q_Zgn, Q_Zgw, Q_Nmn, Q_Nmw, Q_Nnw, Q_Z9, Q_X3_, Q_X6_, Q_X9_, Q_X10_, Q_X11_, Q_X12_⟩ hb_ hon hoff
        refine ⟨_, rfl, fun K hK => ?_⟩
        have e3 : a.tmps[3]? = some (.pointer (some ⟨g3, 0, none⟩)) := by rw [ha]; exact (putSel_off rfl).trans rfl
        replace ha := Aside0.mk ha
        have B0 := Aside0.mk Q_B0
        refine value_ (w1 := w') (v := .pointer (some ⟨g3, 0, none⟩)) (by rfl) rfl ?_ ?_
        · go_simp
          (try simp only [i64_w])
          try rfl
        refine hK.out _ _ ⟨gm, gn, gw, g9, m3_, m6_, m9_, m10_, m11_, m12_, (by rw [ha.out]; exact putSel_upk 4 hb_ rfl rfl rfl), Q_B0, Q_Zgm, fun h0_ => absurd ((hoff 6 (by kernel_rfl)).symm.trans h0_) (by decide), Q_Zgw, fun _ h1_ => absurd ((hoff 6 (by kernel_rfl)).symm.trans h1_) (by decide), Q_Nmw, fun h0_ _ => absurd ((hoff 6 (by kernel_rfl)).symm.trans h0_) (by decide), fun h0_ => absurd ((hoff 11 (by kernel_rfl)).symm.trans h0_) (by decide), Q_X3_, fun h0_ => absurd ((hoff 6 (by kernel_rfl)).symm.trans h0_) (by decide), Q_X9_, fun h0_ => absurd ((hoff 10 (by kernel_rfl)).symm.trans h0_) (by decide), fun h0_ => absurd ((hoff 11 (by kernel_rfl)).symm.trans h0_) (by decide), fun h0_ => absurd ((hoff 12 (by kernel_rfl)).symm.trans h0_) (by decide)⟩
      refine steps_cons ?_ ?_
      · rintro b a w' ⟨gm, gn, gw, g9, m3_, m6_, m9_, m10_, m11_, m12_, ha, Q_B0, Q_Zgm, Q_Zgn, Q_Zgw, Q_Nmn, Q_Nmw, Q_Nnw, Q_Z9, Q_X3_, Q_X6_, Q_X9_, Q_X10_, Q_X11_, Q_X12_⟩ hb_ hon hoff
        refine ⟨_, rfl, fun K hK => ?_⟩
        have e23 : a.tmps[23]? = some (.pointer (some ⟨g3, 0, none⟩)) := by rw [ha]; exact putSel_on (e := (4, 23, .pointer (some ⟨g3, 0, none⟩))) 4 rfl rfl (hon 4 (by kernel_rfl)) rfl
        replace ha := Aside0.mk ha
        have B0 := Aside0.mk Q_B0
        have c_ := blk_cell (blk_below HZ3.out B0.out) 0
        refine value_ (w1 := w') (v := .int .i64 (Bn : Int)) (by rfl) rfl ?_ ?_
        · go_simp
          (try simp only [i64_w])
          try rfl
        refine hK.out _ _ ⟨gm, gn, gw, g9, m3_, m6_, m9_, m10_, m11_, m12_, (by rw [ha.out]; exact putSel_upk 5 hb_ rfl rfl rfl), Q_B0, Q_Zgm, fun h0_ => absurd ((hoff 6 (by kernel_rfl)).symm.trans h0_) (by decide), Q_Zgw, fun _ h1_ => absurd ((hoff 6 (by kernel_rfl)).symm.trans h1_) (by decide), Q_Nmw, fun h0_ _ => absurd ((hoff 6 (by kernel_rfl)).symm.trans h0_) (by decide), fun h0_ => absurd ((hoff 11 (by kernel_rfl)).symm.trans h0_) (by decide), Q_X3_, fun h0_ => absurd ((hoff 6 (by kernel_rfl)).symm.trans h0_) (by decide), Q_X9_, fun h0_ => absurd ((hoff 10 (by kernel_rfl)).symm.trans h0_) (by decide), fun h0_ => absurd ((hoff 11 (by kernel_rfl)).symm.trans h0_) (by decide), fun h0_ => absurd ((hoff 12 (by kernel_rfl)).symm.trans h0_) (by decide)⟩
      refine steps_cons ?_ ?_
      · rintro b a w' ⟨gm, gn, gw, g9, m3_, m6_, m9_, m10_, m11_, m12_, ha, Q_B0, Q_Zgm, Q_Zgn, Q_Zgw, Q_Nmn, Q_Nmw, Q_Nnw, Q_Z9, Q_X3_, Q_X6_, Q_X9_, Q_X10_, Q_X11_, Q_X12_⟩ hb_ hon hoff
        refine ⟨_, rfl, fun K hK => ?_⟩
        have e24 : a.tmps[24]? = some (.int .i64 (Bn : Int)) := by rw [ha]; exact putSel_on (e := (5, 24, .int .i64 (Bn : Int))) 5 rfl rfl (hon 5 (by kernel_rfl)) rfl
        replace ha := Aside0.mk ha
        have B0 := Aside0.mk Q_B0
        have mk_ := HMI.out
        refine value_ (w1 := w'.alloc (Obj.cells (madeCells #[.int .i64 0] Bn) 3)) (v := .slice (some ⟨w'.heap.size, 0, none⟩) Bn Bn) (by rfl) rfl (by first | (go_simp; done) | (go_simp; rfl)) ?_
        have hb := below_alloc (Below.refl w'.heap.size w') (Obj.cells (madeCells #[.int .i64 0] Bn) 3)
        refine hK.out _ _ ⟨gm, w'.heap.size, gw, g9, m3_, (.slice (some ⟨w'.heap.size, 0, none⟩) Bn Bn), m9_, m10_, m11_, m12_, (by rw [ha.out]; exact putSel_upk 6 hb_ rfl rfl rfl), below_then B0.out B0.out.size hb, fun h0_ => ⟨blk_below (Q_Zgm h0_).1 hb, (Q_Zgm h0_).2⟩, fun _ => ⟨heap_alloc_new w' _, B0.out.size⟩, fun h0_ => ⟨blk_below (Q_Zgw h0_).1 hb, (Q_Zgw h0_).2⟩, fun h0_ h1_ => Nat.ne_of_lt (blk_lt (Q_Zgm h0_).1), Q_Nmw, fun h0_ h1_ => Nat.ne_of_gt (blk_lt (Q_Zgw h1_).1), fun h0_ => absurd ((hoff 11 (by kernel_rfl)).symm.trans h0_) (by decide), Q_X3_, fun _ => rfl, Q_X9_, fun h0_ => absurd ((hoff 10 (by kernel_rfl)).symm.trans h0_) (by decide), fun h0_ => absurd ((hoff 11 (by kernel_rfl)).symm.trans h0_) (by decide), fun h0_ => absurd ((hoff 12 (by kernel_rfl)).symm.trans h0_) (by decide)⟩
      refine steps_cons ?_ ?_
      · rintro b a w' ⟨gm, gn, gw, g9, m3_, m6_, m9_, m10_, m11_, m12_, ha, Q_B0, Q_Zgm, Q_Zgn, Q_Zgw, Q_Nmn, Q_Nmw, Q_Nnw, Q_Z9, Q_X3_, Q_X6_, Q_X9_, Q_X10_, Q_X11_, Q_X12_⟩ hb_ hon hoff
        refine ⟨_, rfl, fun K hK => ?_⟩
        have e3 : a.tmps[3]? = some (.pointer (some ⟨g3, 0, none⟩)) := by rw [ha]; exact (putSel_off rfl).trans rfl
        replace ha := Aside0.mk ha
        have B0 := Aside0.mk Q_B0
        refine value_ (w1 := w') (v := .pointer (some ⟨g3, 0, none⟩)) (by rfl) rfl ?_ ?_
        · go_simp
          (try simp only [i64_w])
          try rfl
        refine hK.out _ _ ⟨gm, gn, gw, g9, m3_, m6_, m9_, m10_, m11_, m12_, (by rw [ha.out]; exact putSel_upk 7 hb_ rfl rfl rfl), Q_B0, Q_Zgm, Q_Zgn, fun h0_ => absurd ((hoff 9 (by kernel_rfl)).symm.trans h0_) (by decide), Q_Nmn, fun _ h1_ => absurd ((hoff 9 (by kernel_rfl)).symm.trans h1_) (by decide), fun _ h1_ => absurd ((hoff 9 (by kernel_rfl)).symm.trans h1_) (by decide), fun h0_ => absurd ((hoff 11 (by kernel_rfl)).symm.trans h0_) (by decide), Q_X3_, Q_X6_, fun h0_ => absurd ((hoff 9 (by kernel_rfl)).symm.trans h0_) (by decide), fun h0_ => absurd ((hoff 10 (by kernel_rfl)).symm.trans h0_) (by decide), fun h0_ => absurd ((hoff 11 (by kernel_rfl)).symm.trans h0_) (by decide), fun h0_ => absurd ((hoff 12 (by kernel_rfl)).symm.trans h0_) (by decide)⟩
      refine steps_cons ?_ ?_
      · rintro b a w' ⟨gm, gn, gw, g9, m3_, m6_, m9_, m10_, m11_, m12_, ha, Q_B0, Q_Zgm, Q_Zgn, Q_Zgw, Q_Nmn, Q_Nmw, Q_Nnw, Q_Z9, Q_X3_, Q_X6_, Q_X9_, Q_X10_, Q_X11_, Q_X12_⟩ hb_ hon hoff
        refine ⟨_, rfl, fun K hK => ?_⟩
        have e26 : a.tmps[26]? = some (.pointer (some ⟨g3, 0, none⟩)) := by rw [ha]; exact putSel_on (e := (7, 26, .pointer (some ⟨g3, 0, none⟩))) 7 rfl rfl (hon 7 (by kernel_rfl)) rfl
        replace ha := Aside0.mk ha
        have B0 := Aside0.mk Q_B0
        have c_ := blk_cell (blk_below HZ3.out B0.out) 0
        refine value_ (w1 := w') (v := .int .i64 (Bn : Int)) (by rfl) rfl ?_ ?_
        · go_simp
          (try simp only [i64_w])
          try rfl
        refine hK.out _ _ ⟨gm, gn, gw, g9, m3_, m6_, m9_, m10_, m11_, m12_, (by rw [ha.out]; exact putSel_upk 8 hb_ rfl rfl rfl), Q_B0, Q_Zgm, Q_Zgn, fun h0_ => absurd ((hoff 9 (by kernel_rfl)).symm.trans h0_) (by decide), Q_Nmn, fun _ h1_ => absurd ((hoff 9 (by kernel_rfl)).symm.trans h1_) (by decide), fun _ h1_ => absurd ((hoff 9 (by kernel_rfl)).symm.trans h1_) (by decide), fun h0_ => absurd ((hoff 11 (by kernel_rfl)).symm.trans h0_) (by decide), Q_X3_, Q_X6_, fun h0_ => absurd ((hoff 9 (by kernel_rfl)).symm.trans h0_) (by decide), fun h0_ => absurd ((hoff 10 (by kernel_rfl)).symm.trans h0_) (by decide), fun h0_ => absurd ((hoff 11 (by kernel_rfl)).symm.trans h0_) (by decide), fun h0_ => absurd ((hoff 12 (by kernel_rfl)).symm.trans h0_) (by decide)⟩
      refine steps_cons ?_ ?_
      · rintro b a w' ⟨gm, gn, gw, g9, m3_, m6_, m9_, m10_, m11_, m12_, ha, Q_B0, Q_Zgm, Q_Zgn, Q_Zgw, Q_Nmn, Q_Nmw, Q_Nnw, Q_Z9, Q_X3_, Q_X6_, Q_X9_, Q_X10_, Q_X11_, Q_X12_⟩ hb_ hon hoff
        refine ⟨_, rfl, fun K hK => ?_⟩
        have e27 : a.tmps[27]? = some (.int .i64 (Bn : Int)) := by rw [ha]; exact putSel_on (e := (8, 27, .int .i64 (Bn : Int))) 8 rfl rfl (hon 8 (by kernel_rfl)) rfl
        replace ha := Aside0.mk ha
        have B0 := Aside0.mk Q_B0
        have mk_ := HMI.out
        refine value_ (w1 := w'.alloc (Obj.cells (madeCells #[.int .i64 0] Bn) 3)) (v := .slice (some ⟨w'.heap.size, 0, none⟩) Bn Bn) (by rfl) rfl (by first | (go_simp; done) | (go_simp; rfl)) ?_
        have hb := below_alloc (Below.refl w'.heap.size w') (Obj.cells (madeCells #[.int .i64 0] Bn) 3)
        refine hK.out _ _ ⟨gm, gn, w'.heap.size, g9, m3_, m6_, (.slice (some ⟨w'.heap.size, 0, none⟩) Bn Bn), m10_, m11_, m12_, (by rw [ha.out]; exact putSel_upk 9 hb_ rfl rfl rfl), below_then B0.out B0.out.size hb, fun h0_ => ⟨blk_below (Q_Zgm h0_).1 hb, (Q_Zgm h0_).2⟩, fun h0_ => ⟨blk_below (Q_Zgn h0_).1 hb, (Q_Zgn h0_).2⟩, fun _ => ⟨heap_alloc_new w' _, B0.out.size⟩, Q_Nmn, fun h0_ h1_ => Nat.ne_of_lt (blk_lt (Q_Zgm h0_).1), fun h0_ h1_ => Nat.ne_of_lt (blk_lt (Q_Zgn h0_).1), fun h0_ => absurd ((hoff 11 (by kernel_rfl)).symm.trans h0_) (by decide), Q_X3_, Q_X6_, fun _ => rfl, fun h0_ => absurd ((hoff 10 (by kernel_rfl)).symm.trans h0_) (by decide), fun h0_ => absurd ((hoff 11 (by kernel_rfl)).symm.trans h0_) (by decide), fun h0_ => absurd ((hoff 12 (by kernel_rfl)).symm.trans h0_) (by decide)⟩
      refine steps_cons ?_ ?_
      · rintro b a w' ⟨gm, gn, gw, g9, m3_, m6_, m9_, m10_, m11_, m12_, ha, Q_B0, Q_Zgm, Q_Zgn, Q_Zgw, Q_Nmn, Q_Nmw, Q_Nnw, Q_Z9, Q_X3_, Q_X6_, Q_X9_, Q_X10_, Q_X11_, Q_X12_⟩ hb_ hon hoff
        refine ⟨_, rfl, fun K hK => ?_⟩
        have e19 : a.tmps[19]? = some (.agg #[.int .i64 (Bn : Int), .int .i64 (Pn : Int), .int .i64 C]) := by rw [ha]; exact putSel_on (e := (0, 19, .agg #[.int .i64 (Bn : Int), .int .i64 (Pn : Int), .int .i64 C])) 0 rfl rfl (hon 0 (by kernel_rfl)) rfl
        have e22 : a.tmps[22]? = some (m3_) := by rw [ha]; exact putSel_on (e := (3, 22, m3_)) 3 rfl rfl (hon 3 (by kernel_rfl)) rfl
        rw [Q_X3_ (hon 3 (by kernel_rfl))] at e22
        have e25 : a.tmps[25]? = some (m6_) := by rw [ha]; exact putSel_on (e := (6, 25, m6_)) 6 rfl rfl (hon 6 (by kernel_rfl)) rfl
        rw [Q_X6_ (hon 6 (by kernel_rfl))] at e25
        have e28 : a.tmps[28]? = some (m9_) := by rw [ha]; exact putSel_on (e := (9, 28, m9_)) 9 rfl rfl (hon 9 (by kernel_rfl)) rfl
        rw [Q_X9_ (hon 9 (by kernel_rfl))] at e28
        replace ha := Aside0.mk ha
        have B0 := Aside0.mk Q_B0
        have Zgm := Aside0.mk (Q_Zgm (hon 3 (by kernel_rfl)))
        have Zgn := Aside0.mk (Q_Zgn (hon 6 (by kernel_rfl)))
        have Zgw := Aside0.mk (Q_Zgw (hon 9 (by kernel_rfl)))
        have Nmn := Aside0.mk (Q_Nmn (hon 3 (by kernel_rfl)) (hon 6 (by kernel_rfl)))
        have Nmw := Aside0.mk (Q_Nmw (hon 3 (by kernel_rfl)) (hon 9 (by kernel_rfl)))
        have Nnw := Aside0.mk (Q_Nnw (hon 6 (by kernel_rfl)) (hon 9 (by kernel_rfl)))
        refine value_ (w1 := w') (v := .agg #[.int .i64 (Bn : Int), .int .i64 (Pn : Int), .int .i64 C, .slice (some ⟨gm, 0, none⟩) Bn Bn, .slice none 0 0, .slice (some ⟨gn, 0, none⟩) Bn Bn, .slice (some ⟨gw, 0, none⟩) Bn Bn, .slice none 0 0, .int .i64 0, .bool false]) (by rfl) rfl ?_ ?_
        · go_simp
          (try simp only [i64_w])
          try rfl
        refine hK.out _ _ ⟨gm, gn, gw, g9, m3_, m6_, m9_, (.agg #[.int .i64 (Bn : Int), .int .i64 (Pn : Int), .int .i64 C, .slice (some ⟨gm, 0, none⟩) Bn Bn, .slice none 0 0, .slice (some ⟨gn, 0, none⟩) Bn Bn, .slice (some ⟨gw, 0, none⟩) Bn Bn, .slice none 0 0, .int .i64 0, .bool false]), m11_, m12_, (by rw [ha.out]; exact putSel_upk 10 hb_ rfl rfl rfl), Q_B0, Q_Zgm, Q_Zgn, Q_Zgw, Q_Nmn, Q_Nmw, Q_Nnw, fun h0_ => absurd ((hoff 11 (by kernel_rfl)).symm.trans h0_) (by decide), Q_X3_, Q_X6_, Q_X9_, fun _ => rfl, fun h0_ => absurd ((hoff 11 (by kernel_rfl)).symm.trans h0_) (by decide), fun h0_ => absurd ((hoff 12 (by kernel_rfl)).symm.trans h0_) (by decide)⟩
      refine steps_cons ?_ ?_
      · rintro b a w' ⟨gm, gn, gw, g9, m3_, m6_, m9_, m10_, m11_, m12_, ha, Q_B0, Q_Zgm, Q_Zgn, Q_Zgw, Q_Nmn, Q_Nmw, Q_Nnw, Q_Z9, Q_X3_, Q_X6_, Q_X9_, Q_X10_, Q_X11_, Q_X12_⟩ hb_ hon hoff
        refine ⟨_, rfl, fun K hK => ?_⟩
        have e29 : a.tmps[29]? = some (m10_) := by rw [ha]; exact putSel_on (e := (10, 29, m10_)) 10 rfl rfl (hon 10 (by kernel_rfl)) rfl
        rw [Q_X10_ (hon 10 (by kernel_rfl))] at e29
        replace ha := Aside0.mk ha
        have B0 := Aside0.mk Q_B0
        have Zgm := Aside0.mk (Q_Zgm (hon 3 (by kernel_rfl)))
        have Zgn := Aside0.mk (Q_Zgn (hon 6 (by kernel_rfl)))
        have Zgw := Aside0.mk (Q_Zgw (hon 9 (by kernel_rfl)))
        have Nmn := Aside0.mk (Q_Nmn (hon 3 (by kernel_rfl)) (hon 6 (by kernel_rfl)))
        have Nmw := Aside0.mk (Q_Nmw (hon 3 (by kernel_rfl)) (hon 9 (by kernel_rfl)))
        have Nnw := Aside0.mk (Q_Nnw (hon 6 (by kernel_rfl)) (hon 9 (by kernel_rfl)))
        refine value_ (w1 := w'.alloc (Obj.cells #[.int .i64 (Bn : Int), .int .i64 (Pn : Int), .int .i64 C, .slice (some ⟨gm, 0, none⟩) Bn Bn, .slice none 0 0, .slice (some ⟨gn, 0, none⟩) Bn Bn, .slice (some ⟨gw, 0, none⟩) Bn Bn, .slice none 0 0, .int .i64 0, .bool false] 109)) (v := .pointer (some ⟨w'.heap.size, 0, none⟩)) (by rfl) rfl (by first | (go_simp; done) | (go_simp; rfl)) ?_
        have hb := below_alloc (Below.refl w'.heap.size w') (Obj.cells #[.int .i64 (Bn : Int), .int .i64 (Pn : Int), .int .i64 C, .slice (some ⟨gm, 0, none⟩) Bn Bn, .slice none 0 0, .slice (some ⟨gn, 0, none⟩) Bn Bn, .slice (some ⟨gw, 0, none⟩) Bn Bn, .slice none 0 0, .int .i64 0, .bool false] 109)
        refine hK.out _ _ ⟨gm, gn, gw, w'.heap.size, m3_, m6_, m9_, m10_, (.pointer (some ⟨w'.heap.size, 0, none⟩)), m12_, (by rw [ha.out]; exact putSel_upk 11 hb_ rfl rfl rfl), below_then B0.out B0.out.size hb, fun _ => ⟨blk_below Zgm.out.1 hb, Zgm.out.2⟩, fun _ => ⟨blk_below Zgn.out.1 hb, Zgn.out.2⟩, fun _ => ⟨blk_below Zgw.out.1 hb, Zgw.out.2⟩, Q_Nmn, Q_Nmw, Q_Nnw, fun _ => ⟨heap_alloc_new w' _, B0.out.size, Nat.ne_of_lt (blk_lt Zgm.out.1), Nat.ne_of_lt (blk_lt Zgn.out.1), Nat.ne_of_lt (blk_lt Zgw.out.1)⟩, Q_X3_, Q_X6_, Q_X9_, Q_X10_, fun _ => rfl, fun h0_ => absurd ((hoff 12 (by kernel_rfl)).symm.trans h0_) (by decide)⟩
      refine steps_cons ?_ ?_
      · rintro b a w' ⟨gm, gn, gw, g9, m3_, m6_, m9_, m10_, m11_, m12_, ha, Q_B0, Q_Zgm, Q_Zgn, Q_Zgw, Q_Nmn, Q_Nmw, Q_Nnw, Q_Z9, Q_X3_, Q_X6_, Q_X9_, Q_X10_, Q_X11_, Q_X12_⟩ hb_ hon hoff
        refine ⟨_, rfl, fun K hK => ?_⟩
        have e30 : a.tmps[30]? = some (m11_) := by rw [ha]; exact putSel_on (e := (11, 30, m11_)) 11 rfl rfl (hon 11 (by kernel_rfl)) rfl
        rw [Q_X11_ (hon 11 (by kernel_rfl))] at e30
        replace ha := Aside0.mk ha
        have B0 := Aside0.mk Q_B0
        have Zgm := Aside0.mk (Q_Zgm (hon 3 (by kernel_rfl)))
        have Zgn := Aside0.mk (Q_Zgn (hon 6 (by kernel_rfl)))
        have Zgw := Aside0.mk (Q_Zgw (hon 9 (by kernel_rfl)))
        have Nmn := Aside0.mk (Q_Nmn (hon 3 (by kernel_rfl)) (hon 6 (by kernel_rfl)))
        have Nmw := Aside0.mk (Q_Nmw (hon 3 (by kernel_rfl)) (hon 9 (by kernel_rfl)))
        have Nnw := Aside0.mk (Q_Nnw (hon 6 (by kernel_rfl)) (hon 9 (by kernel_rfl)))
        have Z9 := Aside0.mk (Q_Z9 (hon 11 (by kernel_rfl)))
        refine value_ (w1 := w') (v := .pointer (some ⟨g9, 0, none⟩)) (by rfl) rfl ?_ ?_
        · go_simp
          (try simp only [i64_w])
          try rfl
        refine hK.out _ _ ⟨gm, gn, gw, g9, m3_, m6_, m9_, m10_, m11_, (.pointer (some ⟨g9, 0, none⟩)), (by rw [ha.out]; exact putSel_upk 12 hb_ rfl rfl rfl), Q_B0, Q_Zgm, Q_Zgn, Q_Zgw, Q_Nmn, Q_Nmw, Q_Nnw, Q_Z9, Q_X3_, Q_X6_, Q_X9_, Q_X10_, Q_X11_, fun _ => rfl⟩
      exact steps_nil
    rintro b a w4 hall ⟨gm, gn, gw, g9, m3_, m6_, m9_, m10_, m11_, m12_, ha, Q_B0, Q_Zgm, Q_Zgn, Q_Zgw, Q_Nmn, Q_Nmw, Q_Nnw, Q_Z9, Q_X3_, Q_X6_, Q_X9_, Q_X10_, Q_X11_, Q_X12_⟩
    clear B0
    have hb0_ := hall 0 (by kernel_rfl)
    have hb1_ := hall 1 (by kernel_rfl)
    have hb2_ := hall 2 (by kernel_rfl)
    have hb3_ := hall 3 (by kernel_rfl)
    have hb4_ := hall 4 (by kernel_rfl)
    have hb5_ := hall 5 (by kernel_rfl)
    have hb6_ := hall 6 (by kernel_rfl)
    have hb7_ := hall 7 (by kernel_rfl)
    have hb8_ := hall 8 (by kernel_rfl)
    have hb9_ := hall 9 (by kernel_rfl)
    have hb10_ := hall 10 (by kernel_rfl)
    have hb11_ := hall 11 (by kernel_rfl)
    have hb12_ := hall 12 (by kernel_rfl)
    subst ha
    obtain rfl := Q_X3_ hb3_
    obtain rfl := Q_X6_ hb6_
    obtain rfl := Q_X9_ hb9_
    obtain rfl := Q_X10_ hb10_
    obtain rfl := Q_X11_ hb11_
    obtain rfl := Q_X12_ hb12_
    simp only [putSel, hb0_, hb1_, hb2_, hb3_, hb4_, hb5_, hb6_, hb7_, hb8_, hb9_, hb10_, hb11_, hb12_, if_true, Act.put, List.setIfInBounds_toArray, List.set_cons_zero, List.set_cons_succ]
    have B0 := Aside0.mk Q_B0
    clear Q_B0
    have Zgm := Aside0.mk (Q_Zgm hb3_)
    clear Q_Zgm
    have Zgn := Aside0.mk (Q_Zgn hb6_)
    clear Q_Zgn
    have Zgw := Aside0.mk (Q_Zgw hb9_)
    clear Q_Zgw
    have Nmn := Aside0.mk (Q_Nmn hb3_ hb6_)
    clear Q_Nmn
    have Nmw := Aside0.mk (Q_Nmw hb3_ hb9_)
    clear Q_Nmw
    have Nnw := Aside0.mk (Q_Nnw hb6_ hb9_)
    clear Q_Nnw
    have Z9 := Aside0.mk (Q_Z9 hb11_)
    clear Q_Z9
    clear hall hb0_ hb1_ hb2_ hb3_ hb4_ hb5_ hb6_ hb7_ hb8_ hb9_ hb10_ hb11_ hb12_
    have HB4 := Aside0.mk (below_then HB3.out HB3.out.size B0.out)
    have HZ4 := Aside0.mk (blk_below HZ3.out B0.out)
    have HG3S : Aside0 (g3 < w3.heap.size ∧ W.heap.size ≤ w3.heap.size) := ⟨blk_lt HZ3.out, HB3.out.size⟩
    clear B0 HMB HMI HZ3 HB3
    go_wp2_with fail
    go_loopg [33] (bad.length + 1) (fun kq v33 w' => ∃ i : Nat, v33 = .int .i64 (i : Int) ∧ Aside0 (i ≤ bad.length ∧ kq + i = bad.length + 1) ∧ Aside0 (Cells w' gm 4 (marksTo Bn bad i)) ∧ Aside0 (Turn w4 w' (fun k => k = gm)))
    case atStart => exact ⟨0, rfl, ⟨Nat.zero_le _, rfl⟩, ⟨by rw [marksTo_zero]; exact made_cells _ _ Zgm.out.1⟩, ⟨Turn.refl _ _⟩⟩
    case round =>
      obtain ⟨i, rfl, HI, HC, HT⟩ := hrel
      by_cases hi : i < bad.length
      case neg =>
        have t1 : decide ((i : Int) < (bad.length : Int)) = false := decide_eq_false (by omega)
        have t2 : decide (i < bad.length) = false := decide_eq_false (by omega)
        have hie : i = bad.length := by have := HI.out.1; omega
        have hM := HC.out
        have e0 : marksTo Bn bad bad.length = marks (newDv (Bn : Int) (Pn : Int) C bad fs) := marksTo_all (B := (Bn : Int)) (P := (Pn : Int)) (C := C) (fs := fs)
        rw [hie, e0] at hM
        clear e0
        have hB5 : Below W.heap.size W wr := HT.out.to_below HB4.out HB4.out.size (fun k hk => by have := Zgm.out.2; have := HG3S.out.2; omega)
        have hz3 := blk_turn HZ4.out HT.out (fun e => by have := Zgm.out.2; have := HG3S.out.1; omega)
        have hz9 := blk_turn Z9.out.1 HT.out (fun e => Z9.out.2.2.1 e.symm)
        have hzn := blk_turn Zgn.out.1 HT.out (fun e => Nmn.out e.symm)
        have hzw := blk_turn Zgw.out.1 HT.out (fun e => Nmw.out e.symm)
        clear hi hie HI HC HT
        generalize wr = W5 at hM hB5 hz3 hz9 hzn hzw ⊢
        have HM5 := Aside0.mk hM
        have HB5 := Aside0.mk hB5
        have Z3_5 := Aside0.mk hz3
        have Z9_5 := Aside0.mk hz9
        have Zn_5 := Aside0.mk hzn
        have Zw_5 := Aside0.mk hzw
        obtain ⟨NP, hNP⟩ : ∃ x, x = Bn * Pn := ⟨_, rfl⟩
        have hNI : (NP : Int) = (Bn : Int) * (Pn : Int) := by rw [hNP, Int.natCast_mul]
        have hNL : NP ≤ 34 * 32 := by rw [hNP]; exact Nat.mul_le_mul (by have := HGM.out; omega) (by have := HGM.out; omega)
        have HNP := Aside0.mk (And.intro hNI hNL)
        obtain ⟨hw1, hw2⟩ := wrap_id (x := (Bn : Int) * (Pn : Int)) (by omega) (by omega)
        rw [← hNI] at hw1 hw2
        have hw1' : IntKind.i64.wrap ((Bn : Int) * (Pn : Int)) = (NP : Int) := by rw [← hNI]; exact hw1
        have hw2' : wrap64 ((Bn : Int) * (Pn : Int)) = (NP : Int) := by rw [← hNI]; exact hw2
        have z0 := blk_cell hz3 0
        have z1 := blk_cell hz3 1
        clear hw1 hw2 hM hB5 hz3 hz9 hzn hzw hNP hNI hNL HB4 HZ4
        go_wp2_with fail
        clear hw1' hw2' z0 z1 t1 t2
        go_loopg [57] (NP + 1) (fun kq v57 w' => ∃ j : Nat, v57 = .int .i64 (j : Int) ∧ Aside0 (j ≤ NP ∧ kq + j = NP + 1) ∧ ∃ vp vs, Aside0 (w'.heap[g9]? = some (.cells #[.int .i64 (Bn : Int), .int .i64 (Pn : Int), .int .i64 C, .slice (some ⟨gm, 0, none⟩) Bn Bn, vp, .slice (some ⟨gn, 0, none⟩) Bn Bn, .slice (some ⟨gw, 0, none⟩) Bn Bn, .slice none 0 0, .int .i64 0, .bool false] 109 (0, 0))) ∧ Aside0 (w'.ownsRow W5.heap.size 38 1 vp j vs ∧ Pages w' (okv W5 vp) vs (List.replicate j (List.replicate 256 255))) ∧ Aside0 (Turn W5 w' (fun k => k = g9)))
        case atStart => exact ⟨0, rfl, ⟨Nat.zero_le _, rfl⟩, .slice none 0 0, [], Z9_5, ⟨World.ownsRow_nil _ _ _ _, rfl, fun i v l hv _ => by simp at hv⟩, ⟨Turn.refl _ _⟩⟩
        case round =>
          obtain ⟨j, rfl, HJ, vp, vs, Z9r, HP, HTr⟩ := hrel
          by_cases hj : j < NP
          case neg =>
            have t1 : decide ((j : Int) < (NP : Int)) = false := decide_eq_false (by omega)
            have t2 : decide (j < NP) = false := decide_eq_false (by omega)
            obtain rfl : j = NP := by have := HJ.out.1; omega
            have hnp : 0 < j := by have := HNP.out.1; have := HGM.out; have h8 : 8 * (Pn : Int) ≤ (Bn : Int) * (Pn : Int) := Int.mul_le_mul_of_nonneg_right (by omega) (by omega); omega
            obtain ⟨gp, cp, rfl, hgp, hgp2⟩ := HP.out.1.form hnp
            have hB6 : Below W.heap.size W wr := HTr.out.to_below HB5.out HB5.out.size (fun k hk => by have := Z9.out.2.1; have := HG3S.out.2; omega)
            have hM6 := HM5.out.turn HTr.out (fun e => Z9.out.2.2.1 e)
            have hzn := blk_turn Zn_5.out HTr.out (fun e => Z9.out.2.2.2.1 e)
            have hzw := blk_turn Zw_5.out HTr.out (fun e => Z9.out.2.2.2.2 e)
            have HLT9 : Aside0 (g9 < W5.heap.size ∧ gm < W5.heap.size ∧ gn < W5.heap.size ∧ gw < W5.heap.size ∧ W5.heap.size ≤ gp ∧ W.heap.size ≤ W5.heap.size) := ⟨blk_lt Z9_5.out, HM5.out.lt, blk_lt Zn_5.out, blk_lt Zw_5.out, hgp, HB5.out.size⟩
            have hz9 := Z9r.out
            have hP := HP.out
            clear hnp hgp HP HTr HJ hj Z9r
            generalize wr = W6 at hB6 hM6 hzn hzw hz9 hP hgp2 ⊢
            have HB6 := Aside0.mk hB6
            have HM6 := Aside0.mk hM6
            have Zn_6 := Aside0.mk hzn
            have Zw_6 := Aside0.mk hzw
            have Z9_6 := Aside0.mk hz9
            have HP6 := Aside0.mk hP
            have HGP6 := Aside0.mk hgp2
            clear hB6 hM6 hzn hzw hz9 hP hgp2 HM5 HB5 Z3_5 Z9_5 Zn_5 Zw_5
            go_wp2_with fail
            clear t1 t2
            go_loopg [72] (fs.length + 1) (fun kq v72 w' => ∃ i : Nat, v72 = .int .i64 (i : Int) ∧ Aside0 (i ≤ fs.length ∧ kq + i = fs.length + 1) ∧ ∃ (vf : Value) (ps : List Fp), Aside0 (ps.map (·.1) = fs.take i) ∧ Aside0 (w'.heap[g9]? = some (.cells #[.int .i64 (Bn : Int), .int .i64 (Pn : Int), .int .i64 C, .slice (some ⟨gm, 0, none⟩) Bn Bn, .slice (some ⟨gp, 0, none⟩) j cp, .slice (some ⟨gn, 0, none⟩) Bn Bn, .slice (some ⟨gw, 0, none⟩) Bn Bn, vf, .int .i64 0, .bool false] 109 (0, 0))) ∧ Aside0 (w'.ownsRow W6.heap.size 65 3 vf i (ps.flatMap encF) ∧ FRow w' (okw W6 vf) ps) ∧ Aside0 (Turn W6 w' (fun k => k = g9)))
            case atStart => exact ⟨0, rfl, ⟨Nat.zero_le _, rfl⟩, .slice none 0 0, [], ⟨rfl⟩, Z9_6, ⟨World.ownsRow_nil _ _ _ _, fun p hp => by simp at hp⟩, ⟨Turn.refl _ _⟩⟩
            case round =>
              obtain ⟨i, rfl, HI, vf, ps, HPS, Z9r, HF, HTr⟩ := hrel
              by_cases hi : i < fs.length
              case neg =>
                have t1 : decide ((i : Int) < (fs.length : Int)) = false := decide_eq_false (by omega)
                have t2 : decide (i < fs.length) = false := decide_eq_false (by omega)
                have hie : i = fs.length := by have := HI.out.1; omega
                have hps : ps.map (·.1) = fs := by have := HPS.out; rwa [hie, List.take_length] at this
                have hpl : ps.length = fs.length := by rw [← hps, List.length_map]
                have ho : wr.ownsRow W6.heap.size 65 3 vf ps.length (ps.flatMap encF) := by rw [hpl, ← hie]; exact HF.out.1
                have hro : FRow wr (fun k => W6.heap.size ≤ k) ps := fun p hp => ⟨(HF.out.2 p hp).1, Kd.F_mono (HF.out.2 p hp).2 (fun k hk => hk.1)⟩
                obtain ⟨Af', cf', rfl, hcf, hFF⟩ := faults_F ho hro (fun k hk => own_base ho k hk) (by rw [hpl]; exact HIN.out.2.2.2.1)
                rw [hps] at hFF
                rw [hpl] at hFF hcf
                have hBW : Below W.heap.size W wr := HTr.out.to_below HB6.out HB6.out.size (fun k hk => by have := Z9.out.2.1; have := HG3S.out.2; omega)
                have h6 := HB6.out.size
                have hlt := HLT9.out
                have hsn := blk_lt Zn_6.out
                have hsw := blk_lt Zw_6.out
                have hs9 := blk_lt Z9_6.out
                have hg6 := HGP6.out
                have hpn : ((Bn : Int) * (Pn : Int)).toNat = j := by rw [← HNP.out.1]; exact Int.toNat_natCast _
                have hw : W.heap.size ≤ g9 ∧ W.heap.size ≤ gm ∧ W.heap.size ≤ gn ∧ W.heap.size ≤ gw := ⟨Nat.le_trans HG3S.out.2 Z9.out.2.1, Nat.le_trans HG3S.out.2 Zgm.out.2, Nat.le_trans HG3S.out.2 Zgn.out.2, Nat.le_trans HG3S.out.2 Zgw.out.2⟩
                have e9 := Z9.out.2.2
                have emn := Nmn.out
                have emw := Nmw.out
                have enw := Nnw.out
                obtain ⟨L, hL⟩ : ∃ L : Lay, L = ⟨g9, gm, gp, gn, gw, Bn, cp, Bn, Bn, Af', cf'⟩ := ⟨_, rfl⟩
                have hS : ∀ k, L.S k ↔ (k = g9 ∨ k = gp ∨ k = gn ∨ k = gw) := fun k => by rw [hL]; exact Iff.rfl
                have hDV : DV wr (fun k => W.heap.size ≤ k ∧ ¬ L.S k) L (newDv (Bn : Int) (Pn : Int) C bad fs) := {
                  top := by
                    rw [hL]
                    have := Z9r.out
                    rw [hpl] at this
                    rw [this]
                    unfold Lay.top
                    rw [marks_len]
                    show some (Obj.cells #[_, _, _, _, _, _, _, _, _, _] _ _) = some (Obj.cells #[.int .i64 (Bn : Int), .int .i64 (Pn : Int), .int .i64 C, .slice (some ⟨gm, 0, none⟩) (Bn : Int).toNat Bn, .slice (some ⟨gp, 0, none⟩) (List.replicate ((Bn : Int) * (Pn : Int)).toNat (List.replicate 256 (255 : Int))).length cp, .slice (some ⟨gn, 0, none⟩) (List.replicate (Bn : Int).toNat (0 : Int)).length Bn, .slice (some ⟨gw, 0, none⟩) (List.replicate (Bn : Int).toNat (0 : Int)).length Bn, .slice Af' fs.length cf', .int .i64 0, .bool false] _ _)
                    rw [List.length_replicate, List.length_replicate, hpn]
                    rfl
                  nx := by
                    rw [hL]
                    have := made_cells _ _ (blk_turn Zn_6.out HTr.out (fun e => e9.2.1 e))
                    show Cells wr gn _ ((List.replicate (Bn : Int).toNat (0 : Int)).map (Value.int .i64))
                    rw [List.map_replicate]
                    exact this
                  we := by
                    rw [hL]
                    have := made_cells _ _ (blk_turn Zw_6.out HTr.out (fun e => e9.2.2 e))
                    show Cells wr gw _ ((List.replicate (Bn : Int).toNat (0 : Int)).map (Value.int .i64))
                    rw [List.map_replicate]
                    exact this
                  pg := by
                    refine ⟨vs, by rw [hL]; exact (Cells.of_own HP6.out.1).turn HTr.out (fun e => by have e' : gp = g9 := e; omega), ?_⟩
                    show Pages wr _ vs (List.replicate ((Bn : Int) * (Pn : Int)).toNat (List.replicate 256 255))
                    rw [hpn]
                    refine (HP6.out.2.step (fun k hk hl => HTr.out.block k hl (fun e => by have e' : k = g9 := e; have := hk.1; omega))).mono (fun k hk => ⟨Nat.le_trans hlt.2.2.2.2.2 hk.1, fun hs => ?_⟩)
                    have h1 := hk.1
                    rcases (hS k).1 hs with e | e | e | e
                    · omega
                    · exact hk.2 (by rw [e]; rfl)
                    · omega
                    · omega
                  mb := by rw [hL]; exact HM6.out.turn HTr.out (fun e => e9.1 e)
                  fl := by
                    rw [hL]
                    exact ⟨Kd.F_mono hFF (fun k hk => ⟨Nat.le_trans h6 hk, fun hs => by
                      have hk' : W6.heap.size ≤ k := hk
                      rw [← hL] at hs
                      rcases (hS k).1 hs with e | e | e | e <;> omega⟩), hcf⟩
                  ne := by rw [hL]; exact ⟨by show gp ≠ g9; omega, fun e => e9.2.1 e, fun e => e9.2.2 e, by show gp ≠ gn; omega, by show gp ≠ gw; omega, enw⟩
                  nm := fun hs => by
                    rcases (hS L.gm).1 hs with e | e | e | e <;> rw [hL] at e
                    · exact e9.1 e
                    · have e' : gm = gp := e; omega
                    · exact emn e
                    · exact emw e
                  no := fun k hk _ => hk.2
                  ok := newDv_ok HRG.out HIN.out.2.2.1 HIN.out.2.2.2.1 HIN.out.2.2.2.2 }
                have hLL : ∀ k, L.S k ∨ k = L.gm → W.heap.size ≤ k := fun k hk => by
                  rcases hk with hk | hk
                  · rcases (hS k).1 hk with e | e | e | e <;> omega
                  · rw [hk, hL]; exact hw.2.1
                have hLg : L.g = g9 := by rw [hL]
                have HFIN := Aside0.mk (And.intro hBW (And.intro hDV (And.intro hLL hLg)))
                clear hi hie hps hpl ho hro hcf hFF hBW h6 hlt hsn hsw hs9 hg6 hpn hw e9 emn emw enw hL hS hDV hLL hLg
                go_wp2_with fail
                go_ret2
                refine ⟨HFIN.out.1, ⟨fun _ => ⟨L, ?_, HFIN.out.2.1, HFIN.out.2.2.1⟩, fun h => ?_⟩⟩
                · rw [HFIN.out.2.2.2]; rfl
                · rw [HRG.out] at h; cases h
              case pos =>
                have t1 : decide ((i : Int) < (fs.length : Int)) = true := decide_eq_true (by omega)
                have t2 : decide (i < fs.length) = true := decide_eq_true (by omega)
                have p1 := eq_true (show (0 : Int) ≤ (i : Int) by omega)
                have q1 := eq_true (show (i : Int) < (fs.length : Int) by omega)
                obtain ⟨hw5, hw6⟩ := wrap_id (x := (i : Int) + 1) (by omega) (by have := HIN.out.2.2.2.1; omega)
                have HI2 := Aside0.mk hi
                have hBW : Below W.heap.size W wr := HTr.out.to_below HB6.out HB6.out.size (fun k hk => by have := Z9.out.2.1; have := HG3S.out.2; omega)
                obtain ⟨ad, A2, c2, hA, hx0, hx1, hx2, l2, g2⟩ := at_T65 (Kd.C_below HIN.out.2.1 hBW) (i : Int) (by omega) (by omega)
                obtain ⟨x, hx⟩ : ∃ x, x = rd_T65 fs (i : Int) := ⟨_, rfl⟩
                rw [← hx] at hx0 hx1 hx2 l2 g2
                rw [Int.toNat_natCast] at hx0 hx1 hx2
                have hxe : fs[i]? = some x := by
                  rw [hx]
                  unfold rd_T65
                  rw [Int.toNat_natCast, List.getD_eq_getElem?_getD, List.getElem?_eq_getElem hi]
                  rfl
                have HXE := Aside0.mk hxe
                have HML : Aside0 (x.f2.length ≤ 1000) := ⟨(HIN.out.2.2.2.2 x (List.mem_of_getElem? hxe)).2⟩
                have HAA := Aside0.mk hA
                rw [hA]
                have hz13 := heap_alloc_new wr (.cells #[.int .i64 x.f0, .int .i64 x.f1, .slice A2 x.f2.length c2] 65)
                have hb13 := below_alloc (Below.refl wr.heap.size wr) (.cells #[.int .i64 x.f0, .int .i64 x.f1, .slice A2 x.f2.length c2] 65)
                have hg13 := Kd.C_below g2 hb13
                clear hA hx hxe l2 g2 hBW hi
                go_upto_region 18 with fail
                rw [show (some ad : Option Addr) = Af from HAA.out.symm]
                generalize wr.alloc (.cells #[.int .i64 x.f0, .int .i64 x.f1, .slice A2 x.f2.length c2] 65) = W18 at hz13 hb13 hg13 ⊢
                obtain ⟨g13, hgg⟩ : ∃ g, g = wr.heap.size := ⟨_, rfl⟩
                rw [← hgg] at hz13 ⊢
                obtain ⟨v78, w78, hr, ho, hb⟩ := bytes_copy (c := c2) hg13 HML.out
                obtain ⟨A78, c78, rfl, hc78, hF78⟩ := own_F ho
                have HR := Aside0.mk hr
                have hZ13 := blk_below hz13 hb
                have H13 := Aside0.mk (blk_put hZ13 2 (.slice A78 x.f2.length c78) rfl)
                have hbw := hb13.trans (hb.mono hb13.size)
                have hF := Kd.F_step (W1 := w78.setCell ⟨g13, 2, none⟩ (.slice A78 x.f2.length c78)) hF78 (fun k hk _ => Below.heap_setCell w78 ⟨g13, 2, none⟩ _ k (fun e => by have h1_ : W18.heap.size ≤ k := hk; have h2_ := blk_lt hz13; have e' : k = g13 := e; omega))
                have hB19 : Below wr.heap.size wr (w78.setCell ⟨g13, 2, none⟩ (.slice A78 x.f2.length c78)) := hbw.setCell (p := ⟨g13, 2, none⟩) (Nat.le_of_eq hgg.symm) _
                have HMK : Aside0 (x.f2.length ≤ c78 ∧ Kd.F (Kd.int .u8) (w78.setCell ⟨g13, 2, none⟩ (.slice A78 x.f2.length c78)) (okw W6 vf) A78 x.f2.length x.f2) := ⟨hc78, Kd.F_mono hF (fun k hk => by
                  have h1_ : W18.heap.size ≤ k := hk
                  have h2_ := hb13.size
                  exact ⟨Nat.le_trans HTr.out.size (Nat.le_trans h2_ h1_), fun e => by have := own_lt HF.out.1 k e.symm; omega⟩)⟩
                have d2 : W18.cell? ⟨g13, 2, none⟩ = some (.slice A2 x.f2.length c2) := blk_cell hz13 2
                have e2 : w78.cell? ⟨g13, 2, none⟩ = some (.slice A2 x.f2.length c2) := blk_cell hZ13 2
                have ff := blk_frozen hZ13 2
                clear hr ho hb hc78 hF78 hF hz13 hb13 hg13 hZ13 hbw hgg
                go_upto_region 19 with (at_builtin; refine app_wp rfl _ _ 38 rfl rfl rfl HR.out ?_; clear d2)
                have T0 : Aside0 (Turn W6 (w78.setCell ⟨g13, 2, none⟩ (.slice A78 x.f2.length c78)) (fun k => k = g9)) := ⟨HTr.out.below hB19⟩
                have Z9' := Aside0.mk (blk_below Z9r.out hB19)
                have OR := Aside0.mk (pw_own_below HF.out.1 hB19)
                have PG := Aside0.mk (HF.out.2.step (fun k _ hl => hB19.block k hl))
                clear e2 ff HR hB19 Z9r HF HTr
                generalize w78.setCell ⟨g13, 2, none⟩ (.slice A78 x.f2.length c78) = W19 at T0 Z9' OR PG H13 HMK ⊢
                replace T0 := Aside0.mk (T0.out.below (below_drew1 (Below.refl _ _)))
                replace Z9' := Aside0.mk (blk_drew Z9'.out)
                have OR : Aside0 (W19.drew.ownsRow W6.heap.size 65 3 vf i (ps.flatMap encF)) := ⟨World.ownsRow.drew OR.out⟩
                have PG : Aside0 (FRow W19.drew (okw W6 vf) ps) := ⟨PG.out.step (fun _ _ _ => rfl)⟩
                have H13 := Aside0.mk (blk_drew H13.out)
                have HMK : Aside0 (x.f2.length ≤ c78 ∧ Kd.F (Kd.int .u8) W19.drew (okw W6 vf) A78 x.f2.length x.f2) := ⟨HMK.out.1, Kd.F_step HMK.out.2 (fun _ _ _ => rfl)⟩
                have HLG : Aside0 (g9 < W6.heap.size) := ⟨blk_lt Z9_6.out⟩
                clear t1 t2 p1 q1 hx0 hx1 hx2
                refine start_ (n := 11) (S := fun w' => True) (ds := []) #[false, false, false, false, false, false, false, false, false, false, false] (by kernel_rfl) rfl rfl trivial (fun hHeld => ?_)
                refine with_tabW new19.tab19 new19.bits19 (fun HT_ HW_ => ?_)
                generalize W19.drew = wq at T0 Z9' OR PG HMK H13 hHeld ⊢
                refine inv_at [0, 1, 2, 3, 4, 5, 6, 7, 8, 9, 10] (fun a0_ b a w' => ∃ (gx : Nat) (A87 : Option Addr) (c87 : Nat) (m6_ : Value) (m7_ : Value), a = putSel a0_ b [(0, 80, .pointer (some ⟨g9, 0, none⟩)), (1, 81, .pointer (some ⟨g9, 0, none⟩)), (2, 82, .pointer (some ⟨g9, 0, none⟩)), (3, 83, .pointer (some ⟨g9, 7, none⟩)), (4, 84, vf), (5, 85, .agg #[.int .i64 x.f0, .int .i64 x.f1, .slice A78 x.f2.length c78]), (6, 86, m6_), (7, 87, m7_), (8, 88, .pointer (some ⟨g9, 0, none⟩)), (9, 89, .pointer (some ⟨g9, 7, none⟩))] ∧ (Turn W6 w' (fun k => k = g9)) ∧ (b 10 = false → w'.heap[g9]? = some (.cells #[.int .i64 (Bn : Int), .int .i64 (Pn : Int), .int .i64 C, .slice (some ⟨gm, 0, none⟩) Bn Bn, .slice (some ⟨gp, 0, none⟩) j cp, .slice (some ⟨gn, 0, none⟩) Bn Bn, .slice (some ⟨gw, 0, none⟩) Bn Bn, vf, .int .i64 0, .bool false] 109 (0, 0))) ∧ (b 7 = false → w'.ownsRow W6.heap.size 65 3 vf i (ps.flatMap encF)) ∧ (b 7 = false → FRow w' (okw W6 vf) ps) ∧ (b 7 = false → x.f2.length ≤ c78 ∧ Kd.F (Kd.int .u8) w' (okw W6 vf) A78 x.f2.length x.f2) ∧ (b 7 = false → w'.heap[g13]? = some (.cells #[.int .i64 x.f0, .int .i64 x.f1, .slice A78 x.f2.length c78] 65 (0, 0))) ∧ (b 6 = true → b 7 = false → w'.heap[gx]? = some (.cells #[.int .i64 x.f0, .int .i64 x.f1, .slice A78 x.f2.length c78] 65 (0, 0))) ∧ (b 7 = true → w'.ownsRow W6.heap.size 65 3 (.slice A87 (i + 1) c87) (i + 1) ((ps ++ [(x, A78, c78)]).flatMap encF) ∧ FRow w' (okw W6 (.slice A87 (i + 1) c87)) (ps ++ [(x, A78, c78)])) ∧ (b 10 = true → w'.heap[g9]? = some (.cells #[.int .i64 (Bn : Int), .int .i64 (Pn : Int), .int .i64 C, .slice (some ⟨gm, 0, none⟩) Bn Bn, .slice (some ⟨gp, 0, none⟩) j cp, .slice (some ⟨gn, 0, none⟩) Bn Bn, .slice (some ⟨gw, 0, none⟩) Bn Bn, .slice A87 (i + 1) c87, .int .i64 0, .bool false] 109 (0, 0))) ∧ (b 6 = true → (m6_ : Value) = .slice (some ⟨gx, 0, none⟩) 1 1) ∧ (b 7 = true → (m7_ : Value) = .slice A87 (i + 1) c87)) HT_.out HW_.out (by kernel_rfl) (by kernel_rfl) ?_ ?_ ?_
                · exact ⟨0, none, 0, .bool false, .bool false, by simp only [putSel, Bool.false_eq_true, if_false], T0.out, fun _ => Z9'.out, fun _ => OR.out, fun _ => PG.out, fun _ => HMK.out, fun _ => H13.out, fun h_ => absurd h_ (by decide), fun h_ => absurd h_ (by decide), fun h_ => absurd h_ (by decide), fun h_ => absurd h_ (by decide), fun h_ => absurd h_ (by decide)⟩
                · skip
                  clear H13 HMK OR PG T0 Z9'
                  refine steps_cons ?_ ?_
                  · rintro b a w' ⟨gx, A87, c87, m6_, m7_, ha, Q_T0, Q_Z9', Q_OR, Q_PG, Q_HMK, Q_H13, Q_GX, Q_O7, Q_FIN, Q_X6_, Q_X7_⟩ hb_ hon hoff
                    refine ⟨_, rfl, fun K hK => ?_⟩
                    have e9 : a.tmps[9]? = some (.pointer (some ⟨g9, 0, none⟩)) := by rw [ha]; exact (putSel_off rfl).trans rfl
                    replace ha := Aside0.mk ha
                    have T0 := Aside0.mk Q_T0
                    have Z9' := Aside0.mk (Q_Z9' (hoff 10 (by kernel_rfl)))
                    refine value_ (w1 := w') (v := .pointer (some ⟨g9, 0, none⟩)) (by rfl) rfl ?_ ?_
                    · go_simp
                      (try simp only [i64_w])
                      try rfl
                    refine hK.out _ _ ⟨gx, A87, c87, m6_, m7_, (by rw [ha.out]; exact putSel_upk 0 hb_ rfl rfl rfl), Q_T0, Q_Z9', Q_OR, Q_PG, Q_HMK, Q_H13, Q_GX, Q_O7, fun h0_ => absurd ((hoff 10 (by kernel_rfl)).symm.trans h0_) (by decide), Q_X6_, Q_X7_⟩
                  refine steps_cons ?_ ?_
                  · rintro b a w' ⟨gx, A87, c87, m6_, m7_, ha, Q_T0, Q_Z9', Q_OR, Q_PG, Q_HMK, Q_H13, Q_GX, Q_O7, Q_FIN, Q_X6_, Q_X7_⟩ hb_ hon hoff
                    refine ⟨_, rfl, fun K hK => ?_⟩
                    have e9 : a.tmps[9]? = some (.pointer (some ⟨g9, 0, none⟩)) := by rw [ha]; exact (putSel_off rfl).trans rfl
                    replace ha := Aside0.mk ha
                    have T0 := Aside0.mk Q_T0
                    have Z9' := Aside0.mk (Q_Z9' (hoff 10 (by kernel_rfl)))
                    have OR := Aside0.mk (Q_OR (hoff 7 (by kernel_rfl)))
                    have PG := Aside0.mk (Q_PG (hoff 7 (by kernel_rfl)))
                    have HMK := Aside0.mk (Q_HMK (hoff 7 (by kernel_rfl)))
                    have H13 := Aside0.mk (Q_H13 (hoff 7 (by kernel_rfl)))
                    refine value_ (w1 := w') (v := .pointer (some ⟨g9, 0, none⟩)) (by rfl) rfl ?_ ?_
                    · go_simp
                      (try simp only [i64_w])
                      try rfl
                    refine hK.out _ _ ⟨gx, A87, c87, m6_, m7_, (by rw [ha.out]; exact putSel_upk 1 hb_ rfl rfl rfl), Q_T0, Q_Z9', Q_OR, Q_PG, Q_HMK, Q_H13, Q_GX, fun h0_ => absurd ((hoff 7 (by kernel_rfl)).symm.trans h0_) (by decide), fun h0_ => absurd ((hoff 10 (by kernel_rfl)).symm.trans h0_) (by decide), Q_X6_, fun h0_ => absurd ((hoff 7 (by kernel_rfl)).symm.trans h0_) (by decide)⟩
                  refine steps_cons ?_ ?_
                  · rintro b a w' ⟨gx, A87, c87, m6_, m7_, ha, Q_T0, Q_Z9', Q_OR, Q_PG, Q_HMK, Q_H13, Q_GX, Q_O7, Q_FIN, Q_X6_, Q_X7_⟩ hb_ hon hoff
                    refine ⟨_, rfl, fun K hK => ?_⟩
                    have e81 : a.tmps[81]? = some (.pointer (some ⟨g9, 0, none⟩)) := by rw [ha]; exact putSel_on (e := (1, 81, .pointer (some ⟨g9, 0, none⟩))) 1 rfl rfl (hon 1 (by kernel_rfl)) rfl
                    replace ha := Aside0.mk ha
                    have T0 := Aside0.mk Q_T0
                    have Z9' := Aside0.mk (Q_Z9' (hoff 10 (by kernel_rfl)))
                    have OR := Aside0.mk (Q_OR (hoff 7 (by kernel_rfl)))
                    have PG := Aside0.mk (Q_PG (hoff 7 (by kernel_rfl)))
                    have HMK := Aside0.mk (Q_HMK (hoff 7 (by kernel_rfl)))
                    have H13 := Aside0.mk (Q_H13 (hoff 7 (by kernel_rfl)))
                    refine value_ (w1 := w') (v := .pointer (some ⟨g9, 0, none⟩)) (by rfl) rfl ?_ ?_
                    · go_simp
                      (try simp only [i64_w])
                      try rfl
                    refine hK.out _ _ ⟨gx, A87, c87, m6_, m7_, (by rw [ha.out]; exact putSel_upk 2 hb_ rfl rfl rfl), Q_T0, Q_Z9', Q_OR, Q_PG, Q_HMK, Q_H13, Q_GX, fun h0_ => absurd ((hoff 7 (by kernel_rfl)).symm.trans h0_) (by decide), fun h0_ => absurd ((hoff 10 (by kernel_rfl)).symm.trans h0_) (by decide), Q_X6_, fun h0_ => absurd ((hoff 7 (by kernel_rfl)).symm.trans h0_) (by decide)⟩
                  refine steps_cons ?_ ?_
                  · rintro b a w' ⟨gx, A87, c87, m6_, m7_, ha, Q_T0, Q_Z9', Q_OR, Q_PG, Q_HMK, Q_H13, Q_GX, Q_O7, Q_FIN, Q_X6_, Q_X7_⟩ hb_ hon hoff
                    refine ⟨_, rfl, fun K hK => ?_⟩
                    have e82 : a.tmps[82]? = some (.pointer (some ⟨g9, 0, none⟩)) := by rw [ha]; exact putSel_on (e := (2, 82, .pointer (some ⟨g9, 0, none⟩))) 2 rfl rfl (hon 2 (by kernel_rfl)) rfl
                    replace ha := Aside0.mk ha
                    have T0 := Aside0.mk Q_T0
                    have Z9' := Aside0.mk (Q_Z9' (hoff 10 (by kernel_rfl)))
                    have OR := Aside0.mk (Q_OR (hoff 7 (by kernel_rfl)))
                    have PG := Aside0.mk (Q_PG (hoff 7 (by kernel_rfl)))
                    have HMK := Aside0.mk (Q_HMK (hoff 7 (by kernel_rfl)))
                    have H13 := Aside0.mk (Q_H13 (hoff 7 (by kernel_rfl)))
                    refine value_ (w1 := w') (v := .pointer (some ⟨g9, 7, none⟩)) (by rfl) rfl ?_ ?_
                    · go_simp
                      (try simp only [i64_w])
                      try rfl
                    refine hK.out _ _ ⟨gx, A87, c87, m6_, m7_, (by rw [ha.out]; exact putSel_upk 3 hb_ rfl rfl rfl), Q_T0, Q_Z9', Q_OR, Q_PG, Q_HMK, Q_H13, Q_GX, fun h0_ => absurd ((hoff 7 (by kernel_rfl)).symm.trans h0_) (by decide), fun h0_ => absurd ((hoff 10 (by kernel_rfl)).symm.trans h0_) (by decide), Q_X6_, fun h0_ => absurd ((hoff 7 (by kernel_rfl)).symm.trans h0_) (by decide)⟩
                  refine steps_cons ?_ ?_
                  · rintro b a w' ⟨gx, A87, c87, m6_, m7_, ha, Q_T0, Q_Z9', Q_OR, Q_PG, Q_HMK, Q_H13, Q_GX, Q_O7, Q_FIN, Q_X6_, Q_X7_⟩ hb_ hon hoff
                    refine ⟨_, rfl, fun K hK => ?_⟩
                    have e83 : a.tmps[83]? = some (.pointer (some ⟨g9, 7, none⟩)) := by rw [ha]; exact putSel_on (e := (3, 83, .pointer (some ⟨g9, 7, none⟩))) 3 rfl rfl (hon 3 (by kernel_rfl)) rfl
                    replace ha := Aside0.mk ha
                    have T0 := Aside0.mk Q_T0
                    have Z9' := Aside0.mk (Q_Z9' (hoff 10 (by kernel_rfl)))
                    have OR := Aside0.mk (Q_OR (hoff 7 (by kernel_rfl)))
                    have PG := Aside0.mk (Q_PG (hoff 7 (by kernel_rfl)))
                    have HMK := Aside0.mk (Q_HMK (hoff 7 (by kernel_rfl)))
                    have H13 := Aside0.mk (Q_H13 (hoff 7 (by kernel_rfl)))
                    have c_ := blk_cell Z9'.out 7
                    refine value_ (w1 := w') (v := vf) (by rfl) rfl ?_ ?_
                    · go_simp
                      (try simp only [i64_w])
                      try rfl
                    refine hK.out _ _ ⟨gx, A87, c87, m6_, m7_, (by rw [ha.out]; exact putSel_upk 4 hb_ rfl rfl rfl), Q_T0, Q_Z9', Q_OR, Q_PG, Q_HMK, Q_H13, Q_GX, fun h0_ => absurd ((hoff 7 (by kernel_rfl)).symm.trans h0_) (by decide), fun h0_ => absurd ((hoff 10 (by kernel_rfl)).symm.trans h0_) (by decide), Q_X6_, fun h0_ => absurd ((hoff 7 (by kernel_rfl)).symm.trans h0_) (by decide)⟩
                  refine steps_cons ?_ ?_
                  · rintro b a w' ⟨gx, A87, c87, m6_, m7_, ha, Q_T0, Q_Z9', Q_OR, Q_PG, Q_HMK, Q_H13, Q_GX, Q_O7, Q_FIN, Q_X6_, Q_X7_⟩ hb_ hon hoff
                    refine ⟨_, rfl, fun K hK => ?_⟩
                    have e13 : a.tmps[13]? = some (.pointer (some ⟨g13, 0, none⟩)) := by rw [ha]; exact (putSel_off rfl).trans rfl
                    replace ha := Aside0.mk ha
                    have T0 := Aside0.mk Q_T0
                    have Z9' := Aside0.mk (Q_Z9' (hoff 10 (by kernel_rfl)))
                    have OR := Aside0.mk (Q_OR (hoff 7 (by kernel_rfl)))
                    have PG := Aside0.mk (Q_PG (hoff 7 (by kernel_rfl)))
                    have HMK := Aside0.mk (Q_HMK (hoff 7 (by kernel_rfl)))
                    have H13 := Aside0.mk (Q_H13 (hoff 7 (by kernel_rfl)))
                    have c0_ := blk_cell H13.out 0
                    have c1_ := blk_cell H13.out 1
                    have c2_ := blk_cell H13.out 2
                    refine value_ (w1 := w') (v := .agg #[.int .i64 x.f0, .int .i64 x.f1, .slice A78 x.f2.length c78]) (by rfl) rfl ?_ ?_
                    · go_simp
                      (try simp only [i64_w])
                      try rfl
                    refine hK.out _ _ ⟨gx, A87, c87, m6_, m7_, (by rw [ha.out]; exact putSel_upk 5 hb_ rfl rfl rfl), Q_T0, Q_Z9', Q_OR, Q_PG, Q_HMK, Q_H13, fun h0_ _ => absurd ((hoff 6 (by kernel_rfl)).symm.trans h0_) (by decide), fun h0_ => absurd ((hoff 7 (by kernel_rfl)).symm.trans h0_) (by decide), fun h0_ => absurd ((hoff 10 (by kernel_rfl)).symm.trans h0_) (by decide), fun h0_ => absurd ((hoff 6 (by kernel_rfl)).symm.trans h0_) (by decide), fun h0_ => absurd ((hoff 7 (by kernel_rfl)).symm.trans h0_) (by decide)⟩
                  refine steps_cons ?_ ?_
                  · rintro b a w' ⟨gx, A87, c87, m6_, m7_, ha, Q_T0, Q_Z9', Q_OR, Q_PG, Q_HMK, Q_H13, Q_GX, Q_O7, Q_FIN, Q_X6_, Q_X7_⟩ hb_ hon hoff
                    refine ⟨_, rfl, fun K hK => ?_⟩
                    have e85 : a.tmps[85]? = some (.agg #[.int .i64 x.f0, .int .i64 x.f1, .slice A78 x.f2.length c78]) := by rw [ha]; exact putSel_on (e := (5, 85, .agg #[.int .i64 x.f0, .int .i64 x.f1, .slice A78 x.f2.length c78])) 5 rfl rfl (hon 5 (by kernel_rfl)) rfl
                    replace ha := Aside0.mk ha
                    have T0 := Aside0.mk Q_T0
                    have Z9' := Aside0.mk (Q_Z9' (hoff 10 (by kernel_rfl)))
                    have OR := Aside0.mk (Q_OR (hoff 7 (by kernel_rfl)))
                    have PG := Aside0.mk (Q_PG (hoff 7 (by kernel_rfl)))
                    have HMK := Aside0.mk (Q_HMK (hoff 7 (by kernel_rfl)))
                    have H13 := Aside0.mk (Q_H13 (hoff 7 (by kernel_rfl)))
                    refine value_ (w1 := w'.alloc (Obj.cells #[.int .i64 x.f0, .int .i64 x.f1, .slice A78 x.f2.length c78] 65)) (v := .slice (some ⟨w'.heap.size, 0, none⟩) 1 1) (by rfl) rfl (by first | (go_simp; done) | (go_simp; rfl)) ?_
                    have hb := below_alloc (Below.refl w'.heap.size w') (Obj.cells #[.int .i64 x.f0, .int .i64 x.f1, .slice A78 x.f2.length c78] 65)
                    refine hK.out _ _ ⟨w'.heap.size, A87, c87, (.slice (some ⟨w'.heap.size, 0, none⟩) 1 1), m7_, (by rw [ha.out]; exact putSel_upk 6 hb_ rfl rfl rfl), T0.out.below hb, fun _ => blk_below Z9'.out hb, fun _ => pw_own_below OR.out hb, fun _ => PG.out.step (fun k _ hl_ => hb.block k hl_), fun _ => ⟨HMK.out.1, Kd.F_below HMK.out.2 hb⟩, fun _ => blk_below H13.out hb, fun _ _ => heap_alloc_new w' _, fun h0_ => absurd ((hoff 7 (by kernel_rfl)).symm.trans h0_) (by decide), fun h0_ => absurd ((hoff 10 (by kernel_rfl)).symm.trans h0_) (by decide), fun _ => rfl, fun h0_ => absurd ((hoff 7 (by kernel_rfl)).symm.trans h0_) (by decide)⟩
                  refine steps_cons ?_ ?_
                  · rintro b a w' ⟨gx, A87, c87, m6_, m7_, ha, Q_T0, Q_Z9', Q_OR, Q_PG, Q_HMK, Q_H13, Q_GX, Q_O7, Q_FIN, Q_X6_, Q_X7_⟩ hb_ hon hoff
                    refine ⟨_, rfl, fun K hK => ?_⟩
                    have e84 : a.tmps[84]? = some (vf) := by rw [ha]; exact putSel_on (e := (4, 84, vf)) 4 rfl rfl (hon 4 (by kernel_rfl)) rfl
                    have e86 : a.tmps[86]? = some (m6_) := by rw [ha]; exact putSel_on (e := (6, 86, m6_)) 6 rfl rfl (hon 6 (by kernel_rfl)) rfl
                    rw [Q_X6_ (hon 6 (by kernel_rfl))] at e86
                    replace ha := Aside0.mk ha
                    have T0 := Aside0.mk Q_T0
                    have Z9' := Aside0.mk (Q_Z9' (hoff 10 (by kernel_rfl)))
                    have OR := Aside0.mk (Q_OR hb_)
                    have PG := Aside0.mk (Q_PG hb_)
                    have HMK := Aside0.mk (Q_HMK hb_)
                    have H13 := Aside0.mk (Q_H13 hb_)
                    have GX := Aside0.mk (Q_GX (hon 6 (by kernel_rfl)) hb_)
                    obtain ⟨v_, w2, hr_, ho_, hp_, hg_⟩ := fault_app (p := (x, A78, c78)) OR.out PG.out HMK.out.1 HMK.out.2 GX.out (by have := HIN.out.2.2.2.1; have := HI2.out; omega) T0.out.size
                    obtain ⟨A_, c_, rfl⟩ := own_slice ho_
                    refine app_step (by rfl) rfl rfl e84 e86 hr_ ?_
                    refine hK.out _ _ ⟨gx, A_, c_, m6_, (.slice A_ (i + 1) c_), (by rw [ha.out]; exact putSel_upk 7 hb_ rfl rfl rfl), T0.out.grown hg_ (fun k hk_ => .inr (own_base OR.out k hk_)), fun _ => blk_grown Z9'.out hg_ (fun e_ => absurd (own_base OR.out g9 e_.symm) (Nat.not_le_of_lt HLG.out)), fun h0_ => absurd ((up_self b 7).symm.trans h0_) (by decide), fun h0_ => absurd ((up_self b 7).symm.trans h0_) (by decide), fun h0_ => absurd ((up_self b 7).symm.trans h0_) (by decide), fun h0_ => absurd ((up_self b 7).symm.trans h0_) (by decide), fun _ h1_ => absurd ((up_self b 7).symm.trans h1_) (by decide), fun _ => ⟨ho_, hp_⟩, fun h0_ => absurd ((hoff 10 (by kernel_rfl)).symm.trans h0_) (by decide), Q_X6_, fun _ => rfl⟩
                  refine steps_cons ?_ ?_
                  · rintro b a w' ⟨gx, A87, c87, m6_, m7_, ha, Q_T0, Q_Z9', Q_OR, Q_PG, Q_HMK, Q_H13, Q_GX, Q_O7, Q_FIN, Q_X6_, Q_X7_⟩ hb_ hon hoff
                    refine ⟨_, rfl, fun K hK => ?_⟩
                    have e80 : a.tmps[80]? = some (.pointer (some ⟨g9, 0, none⟩)) := by rw [ha]; exact putSel_on (e := (0, 80, .pointer (some ⟨g9, 0, none⟩))) 0 rfl rfl (hon 0 (by kernel_rfl)) rfl
                    replace ha := Aside0.mk ha
                    have T0 := Aside0.mk Q_T0
                    have Z9' := Aside0.mk (Q_Z9' (hoff 10 (by kernel_rfl)))
                    have O7 := Aside0.mk (Q_O7 (hon 7 (by kernel_rfl)))
                    refine value_ (w1 := w') (v := .pointer (some ⟨g9, 0, none⟩)) (by rfl) rfl ?_ ?_
                    · go_simp
                      (try simp only [i64_w])
                      try rfl
                    refine hK.out _ _ ⟨gx, A87, c87, m6_, m7_, (by rw [ha.out]; exact putSel_upk 8 hb_ rfl rfl rfl), Q_T0, Q_Z9', fun h0_ => absurd ((hon 7 (by kernel_rfl)).symm.trans h0_) (by decide), fun h0_ => absurd ((hon 7 (by kernel_rfl)).symm.trans h0_) (by decide), fun h0_ => absurd ((hon 7 (by kernel_rfl)).symm.trans h0_) (by decide), fun h0_ => absurd ((hon 7 (by kernel_rfl)).symm.trans h0_) (by decide), fun _ h1_ => absurd ((hon 7 (by kernel_rfl)).symm.trans h1_) (by decide), Q_O7, fun h0_ => absurd ((hoff 10 (by kernel_rfl)).symm.trans h0_) (by decide), Q_X6_, Q_X7_⟩
                  refine steps_cons ?_ ?_
                  · rintro b a w' ⟨gx, A87, c87, m6_, m7_, ha, Q_T0, Q_Z9', Q_OR, Q_PG, Q_HMK, Q_H13, Q_GX, Q_O7, Q_FIN, Q_X6_, Q_X7_⟩ hb_ hon hoff
                    refine ⟨_, rfl, fun K hK => ?_⟩
                    have e88 : a.tmps[88]? = some (.pointer (some ⟨g9, 0, none⟩)) := by rw [ha]; exact putSel_on (e := (8, 88, .pointer (some ⟨g9, 0, none⟩))) 8 rfl rfl (hon 8 (by kernel_rfl)) rfl
                    replace ha := Aside0.mk ha
                    have T0 := Aside0.mk Q_T0
                    have Z9' := Aside0.mk (Q_Z9' (hoff 10 (by kernel_rfl)))
                    have O7 := Aside0.mk (Q_O7 (hon 7 (by kernel_rfl)))
                    refine value_ (w1 := w') (v := .pointer (some ⟨g9, 7, none⟩)) (by rfl) rfl ?_ ?_
                    · go_simp
                      (try simp only [i64_w])
                      try rfl
                    refine hK.out _ _ ⟨gx, A87, c87, m6_, m7_, (by rw [ha.out]; exact putSel_upk 9 hb_ rfl rfl rfl), Q_T0, Q_Z9', fun h0_ => absurd ((hon 7 (by kernel_rfl)).symm.trans h0_) (by decide), fun h0_ => absurd ((hon 7 (by kernel_rfl)).symm.trans h0_) (by decide), fun h0_ => absurd ((hon 7 (by kernel_rfl)).symm.trans h0_) (by decide), fun h0_ => absurd ((hon 7 (by kernel_rfl)).symm.trans h0_) (by decide), fun _ h1_ => absurd ((hon 7 (by kernel_rfl)).symm.trans h1_) (by decide), Q_O7, fun h0_ => absurd ((hoff 10 (by kernel_rfl)).symm.trans h0_) (by decide), Q_X6_, Q_X7_⟩
                  refine steps_cons ?_ ?_
                  · rintro b a w' ⟨gx, A87, c87, m6_, m7_, ha, Q_T0, Q_Z9', Q_OR, Q_PG, Q_HMK, Q_H13, Q_GX, Q_O7, Q_FIN, Q_X6_, Q_X7_⟩ hb_ hon hoff
                    refine ⟨_, rfl, fun K hK => ?_⟩
                    have e89 : a.tmps[89]? = some (.pointer (some ⟨g9, 7, none⟩)) := by rw [ha]; exact putSel_on (e := (9, 89, .pointer (some ⟨g9, 7, none⟩))) 9 rfl rfl (hon 9 (by kernel_rfl)) rfl
                    have e87 : a.tmps[87]? = some (m7_) := by rw [ha]; exact putSel_on (e := (7, 87, m7_)) 7 rfl rfl (hon 7 (by kernel_rfl)) rfl
                    rw [Q_X7_ (hon 7 (by kernel_rfl))] at e87
                    replace ha := Aside0.mk ha
                    have T0 := Aside0.mk Q_T0
                    have Z9' := Aside0.mk (Q_Z9' hb_)
                    have O7 := Aside0.mk (Q_O7 (hon 7 (by kernel_rfl)))
                    have c_ := blk_cell Z9'.out 7
                    have fr_ := blk_frozen Z9'.out 7
                    have hne_ : some g9 ≠ (Value.slice A87 (i + 1) c87).ownBlock := fun e_ => absurd (own_base O7.out.1 g9 e_.symm) (Nat.not_le_of_lt HLG.out)
                    refine skip_ (w1 := ?_) (by rfl) rfl ?_ ?_
                    rotate_left
                    · go_simp
                      rfl
                    refine hK.out _ _ ⟨gx, A87, c87, m6_, m7_, (by rw [ha.out]; exact putSel_none (v := undef) rfl), T0.out.setCell (p := ⟨g9, 7, none⟩) (.inl rfl) _, fun h0_ => absurd ((up_self b 10).symm.trans h0_) (by decide), fun h0_ => absurd ((hon 7 (by kernel_rfl)).symm.trans h0_) (by decide), fun h0_ => absurd ((hon 7 (by kernel_rfl)).symm.trans h0_) (by decide), fun h0_ => absurd ((hon 7 (by kernel_rfl)).symm.trans h0_) (by decide), fun h0_ => absurd ((hon 7 (by kernel_rfl)).symm.trans h0_) (by decide), fun _ h1_ => absurd ((hon 7 (by kernel_rfl)).symm.trans h1_) (by decide), fun _ => ⟨own_setCell (p := ⟨g9, 7, none⟩) O7.out.1 hne_ _, O7.out.2.step (fun k hk_ _ => Below.heap_setCell w' ⟨g9, 7, none⟩ _ k (fun e_ => by have h1_ := hk_.1; rw [e_] at h1_; exact absurd h1_ (Nat.not_le_of_lt HLG.out)))⟩, fun _ => blk_put Z9'.out 7 _ rfl, Q_X6_, Q_X7_⟩
                  exact steps_nil
                rintro b a w19 hall ⟨gx, A87, c87, m6_, m7_, ha, Q_T0, Q_Z9', Q_OR, Q_PG, Q_HMK, Q_H13, Q_GX, Q_O7, Q_FIN, Q_X6_, Q_X7_⟩
                clear H13 HMK OR PG T0 Z9'
                have hb0_ := hall 0 (by kernel_rfl)
                have hb1_ := hall 1 (by kernel_rfl)
                have hb2_ := hall 2 (by kernel_rfl)
                have hb3_ := hall 3 (by kernel_rfl)
                have hb4_ := hall 4 (by kernel_rfl)
                have hb5_ := hall 5 (by kernel_rfl)
                have hb6_ := hall 6 (by kernel_rfl)
                have hb7_ := hall 7 (by kernel_rfl)
                have hb8_ := hall 8 (by kernel_rfl)
                have hb9_ := hall 9 (by kernel_rfl)
                have hb10_ := hall 10 (by kernel_rfl)
                subst ha
                obtain rfl := Q_X6_ hb6_
                obtain rfl := Q_X7_ hb7_
                simp only [putSel, hb0_, hb1_, hb2_, hb3_, hb4_, hb5_, hb6_, hb7_, hb8_, hb9_, hb10_, if_true, Act.put, List.setIfInBounds_toArray, List.set_cons_zero, List.set_cons_succ]
                have T0 := Aside0.mk Q_T0
                clear Q_T0
                clear Q_Z9'
                clear Q_OR
                clear Q_PG
                clear Q_HMK
                clear Q_H13
                clear Q_GX
                have O7 := Aside0.mk (Q_O7 hb7_)
                clear Q_O7
                have FIN := Aside0.mk (Q_FIN hb10_)
                clear Q_FIN
                clear hall hb0_ hb1_ hb2_ hb3_ hb4_ hb5_ hb6_ hb7_ hb8_ hb9_ hb10_
                go_wp2_with fail
                go_roundg (fs.length - i)
                case measure => have := HI.out; have := HI2.out; omega
                case rel => exact ⟨i + 1, by first | rfl | simp, ⟨by have := HI2.out; omega, by have := HI.out; have := HI2.out; omega⟩, .slice A87 (i + 1) c87, ps ++ [(x, A78, c78)], ⟨by rw [List.map_append, HPS.out, List.take_add_one, HXE.out]; rfl⟩, FIN, O7, T0⟩
          case pos =>
            have t1 : decide ((j : Int) < (NP : Int)) = true := decide_eq_true (by omega)
            have t2 : decide (j < NP) = true := decide_eq_true (by omega)
            obtain ⟨hw5, hw6⟩ := wrap_id (x := (j : Int) + 1) (by omega) (by have := HNP.out.2; omega)
            have HJ2 := Aside0.mk hj
            have HLT9 : Aside0 (g9 < W5.heap.size) := ⟨blk_lt Z9_5.out⟩
            have Z9 := Z9r
            have OR := Aside0.mk HP.out.1
            have PG := Aside0.mk HP.out.2
            have T0 : Aside0 (Turn W5 wr.drew (fun k => k = g9)) := ⟨HTr.out.below (below_drew1 (Below.refl _ _))⟩
            have Z9 := Aside0.mk (blk_drew Z9r.out)
            have OR : Aside0 (wr.drew.ownsRow W5.heap.size 38 1 vp j vs) := ⟨World.ownsRow.drew HP.out.1⟩
            have PG : Aside0 (Pages wr.drew (okv W5 vp) vs (List.replicate j (List.replicate 256 255))) := ⟨HP.out.2.step (fun _ _ _ => rfl)⟩
            have HON := Aside0.mk (fun w => zeros_Ones.calls 300 256 (List.replicate 256 255) w Ones_256)
            clear Z9r HP HTr hj
            go_upto_region 13 with fail
            clear t1 t2
            refine start_ (n := 11) (S := fun w' => True) (ds := []) #[false, false, false, false, false, false, false, false, false, false, false] (by kernel_rfl) rfl rfl trivial (fun hHeld => ?_)
            refine with_tabW new13.tab13 new13.bits13 (fun HT_ HW_ => ?_)
            generalize wr.drew = wq at T0 Z9 OR PG hHeld ⊢
            refine inv_at [0, 1, 2, 3, 4, 5, 6, 7, 8, 9, 10] (fun a0_ b a w' => ∃ (A64 : Option Addr) (c64 : Nat) (gx : Nat) (A66 : Option Addr) (c66 : Nat) (m5_ : Value) (m6_ : Value) (m7_ : Value), a = putSel a0_ b [(0, 59, .pointer (some ⟨g9, 0, none⟩)), (1, 60, .pointer (some ⟨g9, 0, none⟩)), (2, 61, .pointer (some ⟨g9, 0, none⟩)), (3, 62, .pointer (some ⟨g9, 4, none⟩)), (4, 63, vp), (5, 64, m5_), (6, 65, m6_), (7, 66, m7_), (8, 67, .pointer (some ⟨g9, 0, none⟩)), (9, 68, .pointer (some ⟨g9, 4, none⟩))] ∧ (Turn W5 w' (fun k => k = g9)) ∧ (b 10 = false → w'.heap[g9]? = some (.cells #[.int .i64 (Bn : Int), .int .i64 (Pn : Int), .int .i64 C, .slice (some ⟨gm, 0, none⟩) Bn Bn, vp, .slice (some ⟨gn, 0, none⟩) Bn Bn, .slice (some ⟨gw, 0, none⟩) Bn Bn, .slice none 0 0, .int .i64 0, .bool false] 109 (0, 0))) ∧ (b 7 = false → w'.ownsRow W5.heap.size 38 1 vp j vs) ∧ (b 7 = false → Pages w' (okv W5 vp) vs (List.replicate j (List.replicate 256 255))) ∧ (b 5 = true → b 7 = false → 256 ≤ c64 ∧ Kd.F (Kd.int .u8) w' (okv W5 vp) A64 256 (List.replicate 256 255)) ∧ (b 6 = true → b 7 = false → w'.heap[gx]? = some (.cells #[.slice A64 256 c64] 38 (0, 0))) ∧ (b 7 = true → w'.ownsRow W5.heap.size 38 1 (.slice A66 (j + 1) c66) (j + 1) (vs ++ [.slice A64 256 c64]) ∧ Pages w' (okv W5 (.slice A66 (j + 1) c66)) (vs ++ [.slice A64 256 c64]) (List.replicate j (List.replicate 256 255) ++ [(List.replicate 256 255)])) ∧ (b 10 = true → w'.heap[g9]? = some (.cells #[.int .i64 (Bn : Int), .int .i64 (Pn : Int), .int .i64 C, .slice (some ⟨gm, 0, none⟩) Bn Bn, .slice A66 (j + 1) c66, .slice (some ⟨gn, 0, none⟩) Bn Bn, .slice (some ⟨gw, 0, none⟩) Bn Bn, .slice none 0 0, .int .i64 0, .bool false] 109 (0, 0))) ∧ (b 5 = true → (m5_ : Value) = .slice A64 256 c64) ∧ (b 6 = true → (m6_ : Value) = .slice (some ⟨gx, 0, none⟩) 1 1) ∧ (b 7 = true → (m7_ : Value) = .slice A66 (j + 1) c66)) HT_.out HW_.out (by kernel_rfl) (by kernel_rfl) ?_ ?_ ?_
            · exact ⟨none, 0, 0, none, 0, .bool false, .bool false, .bool false, by simp only [putSel, Bool.false_eq_true, if_false], T0.out, fun _ => Z9.out, fun _ => OR.out, fun _ => PG.out, fun h_ => absurd h_ (by decide), fun h_ => absurd h_ (by decide), fun h_ => absurd h_ (by decide), fun h_ => absurd h_ (by decide), fun h_ => absurd h_ (by decide), fun h_ => absurd h_ (by decide), fun h_ => absurd h_ (by decide)⟩
            · skip
              clear OR PG T0 Z9
              refine steps_cons ?_ ?_
              · rintro b a w' ⟨A64, c64, gx, A66, c66, m5_, m6_, m7_, ha, Q_T0, Q_Z9, Q_OR, Q_PG, Q_FO, Q_GX, Q_O7, Q_FIN, Q_X5_, Q_X6_, Q_X7_⟩ hb_ hon hoff
                refine ⟨_, rfl, fun K hK => ?_⟩
                have e9 : a.tmps[9]? = some (.pointer (some ⟨g9, 0, none⟩)) := by rw [ha]; exact (putSel_off rfl).trans rfl
                replace ha := Aside0.mk ha
                have T0 := Aside0.mk Q_T0
                have Z9 := Aside0.mk (Q_Z9 (hoff 10 (by kernel_rfl)))
                refine value_ (w1 := w') (v := .pointer (some ⟨g9, 0, none⟩)) (by rfl) rfl ?_ ?_
                · go_simp
                  (try simp only [i64_w])
                  try rfl
                refine hK.out _ _ ⟨A64, c64, gx, A66, c66, m5_, m6_, m7_, (by rw [ha.out]; exact putSel_upk 0 hb_ rfl rfl rfl), Q_T0, Q_Z9, Q_OR, Q_PG, Q_FO, Q_GX, Q_O7, fun h0_ => absurd ((hoff 10 (by kernel_rfl)).symm.trans h0_) (by decide), Q_X5_, Q_X6_, Q_X7_⟩
              refine steps_cons ?_ ?_
              · rintro b a w' ⟨A64, c64, gx, A66, c66, m5_, m6_, m7_, ha, Q_T0, Q_Z9, Q_OR, Q_PG, Q_FO, Q_GX, Q_O7, Q_FIN, Q_X5_, Q_X6_, Q_X7_⟩ hb_ hon hoff
                refine ⟨_, rfl, fun K hK => ?_⟩
                have e9 : a.tmps[9]? = some (.pointer (some ⟨g9, 0, none⟩)) := by rw [ha]; exact (putSel_off rfl).trans rfl
                replace ha := Aside0.mk ha
                have T0 := Aside0.mk Q_T0
                have Z9 := Aside0.mk (Q_Z9 (hoff 10 (by kernel_rfl)))
                have OR := Aside0.mk (Q_OR (hoff 7 (by kernel_rfl)))
                have PG := Aside0.mk (Q_PG (hoff 7 (by kernel_rfl)))
                refine value_ (w1 := w') (v := .pointer (some ⟨g9, 0, none⟩)) (by rfl) rfl ?_ ?_
                · go_simp
                  (try simp only [i64_w])
                  try rfl
                refine hK.out _ _ ⟨A64, c64, gx, A66, c66, m5_, m6_, m7_, (by rw [ha.out]; exact putSel_upk 1 hb_ rfl rfl rfl), Q_T0, Q_Z9, Q_OR, Q_PG, Q_FO, Q_GX, fun h0_ => absurd ((hoff 7 (by kernel_rfl)).symm.trans h0_) (by decide), fun h0_ => absurd ((hoff 10 (by kernel_rfl)).symm.trans h0_) (by decide), Q_X5_, Q_X6_, fun h0_ => absurd ((hoff 7 (by kernel_rfl)).symm.trans h0_) (by decide)⟩
              refine steps_cons ?_ ?_
              · rintro b a w' ⟨A64, c64, gx, A66, c66, m5_, m6_, m7_, ha, Q_T0, Q_Z9, Q_OR, Q_PG, Q_FO, Q_GX, Q_O7, Q_FIN, Q_X5_, Q_X6_, Q_X7_⟩ hb_ hon hoff
                refine ⟨_, rfl, fun K hK => ?_⟩
                have e60 : a.tmps[60]? = some (.pointer (some ⟨g9, 0, none⟩)) := by rw [ha]; exact putSel_on (e := (1, 60, .pointer (some ⟨g9, 0, none⟩))) 1 rfl rfl (hon 1 (by kernel_rfl)) rfl
                replace ha := Aside0.mk ha
                have T0 := Aside0.mk Q_T0
                have Z9 := Aside0.mk (Q_Z9 (hoff 10 (by kernel_rfl)))
                have OR := Aside0.mk (Q_OR (hoff 7 (by kernel_rfl)))
                have PG := Aside0.mk (Q_PG (hoff 7 (by kernel_rfl)))
                refine value_ (w1 := w') (v := .pointer (some ⟨g9, 0, none⟩)) (by rfl) rfl ?_ ?_
                · go_simp
                  (try simp only [i64_w])
                  try rfl
                refine hK.out _ _ ⟨A64, c64, gx, A66, c66, m5_, m6_, m7_, (by rw [ha.out]; exact putSel_upk 2 hb_ rfl rfl rfl), Q_T0, Q_Z9, Q_OR, Q_PG, Q_FO, Q_GX, fun h0_ => absurd ((hoff 7 (by kernel_rfl)).symm.trans h0_) (by decide), fun h0_ => absurd ((hoff 10 (by kernel_rfl)).symm.trans h0_) (by decide), Q_X5_, Q_X6_, fun h0_ => absurd ((hoff 7 (by kernel_rfl)).symm.trans h0_) (by decide)⟩
              refine steps_cons ?_ ?_
              · rintro b a w' ⟨A64, c64, gx, A66, c66, m5_, m6_, m7_, ha, Q_T0, Q_Z9, Q_OR, Q_PG, Q_FO, Q_GX, Q_O7, Q_FIN, Q_X5_, Q_X6_, Q_X7_⟩ hb_ hon hoff
                refine ⟨_, rfl, fun K hK => ?_⟩
                have e61 : a.tmps[61]? = some (.pointer (some ⟨g9, 0, none⟩)) := by rw [ha]; exact putSel_on (e := (2, 61, .pointer (some ⟨g9, 0, none⟩))) 2 rfl rfl (hon 2 (by kernel_rfl)) rfl
                replace ha := Aside0.mk ha
                have T0 := Aside0.mk Q_T0
                have Z9 := Aside0.mk (Q_Z9 (hoff 10 (by kernel_rfl)))
                have OR := Aside0.mk (Q_OR (hoff 7 (by kernel_rfl)))
                have PG := Aside0.mk (Q_PG (hoff 7 (by kernel_rfl)))
                refine value_ (w1 := w') (v := .pointer (some ⟨g9, 4, none⟩)) (by rfl) rfl ?_ ?_
                · go_simp
                  (try simp only [i64_w])
                  try rfl
                refine hK.out _ _ ⟨A64, c64, gx, A66, c66, m5_, m6_, m7_, (by rw [ha.out]; exact putSel_upk 3 hb_ rfl rfl rfl), Q_T0, Q_Z9, Q_OR, Q_PG, Q_FO, Q_GX, fun h0_ => absurd ((hoff 7 (by kernel_rfl)).symm.trans h0_) (by decide), fun h0_ => absurd ((hoff 10 (by kernel_rfl)).symm.trans h0_) (by decide), Q_X5_, Q_X6_, fun h0_ => absurd ((hoff 7 (by kernel_rfl)).symm.trans h0_) (by decide)⟩
              refine steps_cons ?_ ?_
              · rintro b a w' ⟨A64, c64, gx, A66, c66, m5_, m6_, m7_, ha, Q_T0, Q_Z9, Q_OR, Q_PG, Q_FO, Q_GX, Q_O7, Q_FIN, Q_X5_, Q_X6_, Q_X7_⟩ hb_ hon hoff
                refine ⟨_, rfl, fun K hK => ?_⟩
                have e62 : a.tmps[62]? = some (.pointer (some ⟨g9, 4, none⟩)) := by rw [ha]; exact putSel_on (e := (3, 62, .pointer (some ⟨g9, 4, none⟩))) 3 rfl rfl (hon 3 (by kernel_rfl)) rfl
                replace ha := Aside0.mk ha
                have T0 := Aside0.mk Q_T0
                have Z9 := Aside0.mk (Q_Z9 (hoff 10 (by kernel_rfl)))
                have OR := Aside0.mk (Q_OR (hoff 7 (by kernel_rfl)))
                have PG := Aside0.mk (Q_PG (hoff 7 (by kernel_rfl)))
                have c_ := blk_cell Z9.out 4
                refine value_ (w1 := w') (v := vp) (by rfl) rfl ?_ ?_
                · go_simp
                  (try simp only [i64_w])
                  try rfl
                refine hK.out _ _ ⟨A64, c64, gx, A66, c66, m5_, m6_, m7_, (by rw [ha.out]; exact putSel_upk 4 hb_ rfl rfl rfl), Q_T0, Q_Z9, Q_OR, Q_PG, Q_FO, Q_GX, fun h0_ => absurd ((hoff 7 (by kernel_rfl)).symm.trans h0_) (by decide), fun h0_ => absurd ((hoff 10 (by kernel_rfl)).symm.trans h0_) (by decide), Q_X5_, Q_X6_, fun h0_ => absurd ((hoff 7 (by kernel_rfl)).symm.trans h0_) (by decide)⟩
              refine steps_cons ?_ ?_
              · rintro b a w' ⟨A64, c64, gx, A66, c66, m5_, m6_, m7_, ha, Q_T0, Q_Z9, Q_OR, Q_PG, Q_FO, Q_GX, Q_O7, Q_FIN, Q_X5_, Q_X6_, Q_X7_⟩ hb_ hon hoff
                refine ⟨_, rfl, fun K hK => ?_⟩
                replace ha := Aside0.mk ha
                have T0 := Aside0.mk Q_T0
                have Z9 := Aside0.mk (Q_Z9 (hoff 10 (by kernel_rfl)))
                have OR := Aside0.mk (Q_OR (hoff 7 (by kernel_rfl)))
                have PG := Aside0.mk (Q_PG (hoff 7 (by kernel_rfl)))
                refine goes_ Try.func61 (by kernel_rfl) rfl #[.int .i64 256] (by rfl) rfl rfl (by first | (simp only [List.map_toArray, List.map_cons, List.map_nil, Act.eval, Array.getD_eq_getD_getElem?, Option.getD_some]; done) | (simp only [List.map_toArray, List.map_cons, List.map_nil, Act.eval, Array.getD_eq_getD_getElem?, Option.getD_some]; rfl)) ?_
                with_reducible refine (HON.out _).mono ?_
                rintro e w2 ⟨v_, rfl, hR_, hb⟩
                obtain ⟨A_, c_, rfl, hc_, hF_⟩ := ones_fresh OR.out hR_ T0.out.size
                refine ⟨_, rfl, ?_⟩
                refine hK.out _ _ ⟨A_, c_, gx, A66, c66, (.slice A_ 256 c_), m6_, m7_, (by rw [ha.out]; exact putSel_upk 5 hb_ rfl rfl rfl), T0.out.below hb, fun _ => blk_below Z9.out hb, fun _ => pw_own_below OR.out hb, fun _ => PG.out.step (fun k _ hl_ => hb.block k hl_), fun _ _ => ⟨hc_, hF_⟩, fun h0_ _ => absurd ((hoff 6 (by kernel_rfl)).symm.trans h0_) (by decide), fun h0_ => absurd ((hoff 7 (by kernel_rfl)).symm.trans h0_) (by decide), fun h0_ => absurd ((hoff 10 (by kernel_rfl)).symm.trans h0_) (by decide), fun _ => rfl, fun h0_ => absurd ((hoff 6 (by kernel_rfl)).symm.trans h0_) (by decide), fun h0_ => absurd ((hoff 7 (by kernel_rfl)).symm.trans h0_) (by decide)⟩
              refine steps_cons ?_ ?_
              · rintro b a w' ⟨A64, c64, gx, A66, c66, m5_, m6_, m7_, ha, Q_T0, Q_Z9, Q_OR, Q_PG, Q_FO, Q_GX, Q_O7, Q_FIN, Q_X5_, Q_X6_, Q_X7_⟩ hb_ hon hoff
                refine ⟨_, rfl, fun K hK => ?_⟩
                have e64 : a.tmps[64]? = some (m5_) := by rw [ha]; exact putSel_on (e := (5, 64, m5_)) 5 rfl rfl (hon 5 (by kernel_rfl)) rfl
                rw [Q_X5_ (hon 5 (by kernel_rfl))] at e64
                replace ha := Aside0.mk ha
                have T0 := Aside0.mk Q_T0
                have Z9 := Aside0.mk (Q_Z9 (hoff 10 (by kernel_rfl)))
                have OR := Aside0.mk (Q_OR (hoff 7 (by kernel_rfl)))
                have PG := Aside0.mk (Q_PG (hoff 7 (by kernel_rfl)))
                have FO := Aside0.mk (Q_FO (hon 5 (by kernel_rfl)) (hoff 7 (by kernel_rfl)))
                refine value_ (w1 := w'.alloc (Obj.cells #[.slice A64 256 c64] 38)) (v := .slice (some ⟨w'.heap.size, 0, none⟩) 1 1) (by rfl) rfl (by first | (go_simp; done) | (go_simp; rfl)) ?_
                have hb := below_alloc (Below.refl w'.heap.size w') (Obj.cells #[.slice A64 256 c64] 38)
                refine hK.out _ _ ⟨A64, c64, w'.heap.size, A66, c66, m5_, (.slice (some ⟨w'.heap.size, 0, none⟩) 1 1), m7_, (by rw [ha.out]; exact putSel_upk 6 hb_ rfl rfl rfl), T0.out.below hb, fun _ => blk_below Z9.out hb, fun _ => pw_own_below OR.out hb, fun _ => PG.out.step (fun k _ hl_ => hb.block k hl_), fun _ _ => ⟨FO.out.1, Kd.F_below FO.out.2 hb⟩, fun _ _ => heap_alloc_new w' _, fun h0_ => absurd ((hoff 7 (by kernel_rfl)).symm.trans h0_) (by decide), fun h0_ => absurd ((hoff 10 (by kernel_rfl)).symm.trans h0_) (by decide), Q_X5_, fun _ => rfl, fun h0_ => absurd ((hoff 7 (by kernel_rfl)).symm.trans h0_) (by decide)⟩
              refine steps_cons ?_ ?_
              · rintro b a w' ⟨A64, c64, gx, A66, c66, m5_, m6_, m7_, ha, Q_T0, Q_Z9, Q_OR, Q_PG, Q_FO, Q_GX, Q_O7, Q_FIN, Q_X5_, Q_X6_, Q_X7_⟩ hb_ hon hoff
                refine ⟨_, rfl, fun K hK => ?_⟩
                have e63 : a.tmps[63]? = some (vp) := by rw [ha]; exact putSel_on (e := (4, 63, vp)) 4 rfl rfl (hon 4 (by kernel_rfl)) rfl
                have e65 : a.tmps[65]? = some (m6_) := by rw [ha]; exact putSel_on (e := (6, 65, m6_)) 6 rfl rfl (hon 6 (by kernel_rfl)) rfl
                rw [Q_X6_ (hon 6 (by kernel_rfl))] at e65
                replace ha := Aside0.mk ha
                have T0 := Aside0.mk Q_T0
                have Z9 := Aside0.mk (Q_Z9 (hoff 10 (by kernel_rfl)))
                have OR := Aside0.mk (Q_OR hb_)
                have PG := Aside0.mk (Q_PG hb_)
                have FO := Aside0.mk (Q_FO (hon 5 (by kernel_rfl)) hb_)
                have GX := Aside0.mk (Q_GX (hon 6 (by kernel_rfl)) hb_)
                obtain ⟨v_, w2, hr_, ho_, hp_, hg_⟩ := page_app OR.out PG.out FO.out.1 FO.out.2 GX.out (by have := HNP.out.2; have := HJ2.out; omega) T0.out.size
                obtain ⟨A_, c_, rfl⟩ := own_slice ho_
                refine app_step (by rfl) rfl rfl e63 e65 hr_ ?_
                refine hK.out _ _ ⟨A64, c64, gx, A_, c_, m5_, m6_, (.slice A_ (j + 1) c_), (by rw [ha.out]; exact putSel_upk 7 hb_ rfl rfl rfl), T0.out.grown hg_ (fun k hk_ => .inr (own_base OR.out k hk_)), fun _ => blk_grown Z9.out hg_ (fun e_ => absurd (own_base OR.out g9 e_.symm) (Nat.not_le_of_lt HLT9.out)), fun h0_ => absurd ((up_self b 7).symm.trans h0_) (by decide), fun h0_ => absurd ((up_self b 7).symm.trans h0_) (by decide), fun _ h1_ => absurd ((up_self b 7).symm.trans h1_) (by decide), fun _ h1_ => absurd ((up_self b 7).symm.trans h1_) (by decide), fun _ => ⟨ho_, hp_⟩, fun h0_ => absurd ((hoff 10 (by kernel_rfl)).symm.trans h0_) (by decide), Q_X5_, Q_X6_, fun _ => rfl⟩
              refine steps_cons ?_ ?_
              · rintro b a w' ⟨A64, c64, gx, A66, c66, m5_, m6_, m7_, ha, Q_T0, Q_Z9, Q_OR, Q_PG, Q_FO, Q_GX, Q_O7, Q_FIN, Q_X5_, Q_X6_, Q_X7_⟩ hb_ hon hoff
                refine ⟨_, rfl, fun K hK => ?_⟩
                have e59 : a.tmps[59]? = some (.pointer (some ⟨g9, 0, none⟩)) := by rw [ha]; exact putSel_on (e := (0, 59, .pointer (some ⟨g9, 0, none⟩))) 0 rfl rfl (hon 0 (by kernel_rfl)) rfl
                replace ha := Aside0.mk ha
                have T0 := Aside0.mk Q_T0
                have Z9 := Aside0.mk (Q_Z9 (hoff 10 (by kernel_rfl)))
                have O7 := Aside0.mk (Q_O7 (hon 7 (by kernel_rfl)))
                refine value_ (w1 := w') (v := .pointer (some ⟨g9, 0, none⟩)) (by rfl) rfl ?_ ?_
                · go_simp
                  (try simp only [i64_w])
                  try rfl
                refine hK.out _ _ ⟨A64, c64, gx, A66, c66, m5_, m6_, m7_, (by rw [ha.out]; exact putSel_upk 8 hb_ rfl rfl rfl), Q_T0, Q_Z9, fun h0_ => absurd ((hon 7 (by kernel_rfl)).symm.trans h0_) (by decide), fun h0_ => absurd ((hon 7 (by kernel_rfl)).symm.trans h0_) (by decide), fun _ h1_ => absurd ((hon 7 (by kernel_rfl)).symm.trans h1_) (by decide), fun _ h1_ => absurd ((hon 7 (by kernel_rfl)).symm.trans h1_) (by decide), Q_O7, fun h0_ => absurd ((hoff 10 (by kernel_rfl)).symm.trans h0_) (by decide), Q_X5_, Q_X6_, Q_X7_⟩
              refine steps_cons ?_ ?_
              · rintro b a w' ⟨A64, c64, gx, A66, c66, m5_, m6_, m7_, ha, Q_T0, Q_Z9, Q_OR, Q_PG, Q_FO, Q_GX, Q_O7, Q_FIN, Q_X5_, Q_X6_, Q_X7_⟩ hb_ hon hoff
                refine ⟨_, rfl, fun K hK => ?_⟩
                have e67 : a.tmps[67]? = some (.pointer (some ⟨g9, 0, none⟩)) := by rw [ha]; exact putSel_on (e := (8, 67, .pointer (some ⟨g9, 0, none⟩))) 8 rfl rfl (hon 8 (by kernel_rfl)) rfl
                replace ha := Aside0.mk ha
                have T0 := Aside0.mk Q_T0
                have Z9 := Aside0.mk (Q_Z9 (hoff 10 (by kernel_rfl)))
                have O7 := Aside0.mk (Q_O7 (hon 7 (by kernel_rfl)))
                refine value_ (w1 := w') (v := .pointer (some ⟨g9, 4, none⟩)) (by rfl) rfl ?_ ?_
                · go_simp
                  (try simp only [i64_w])
                  try rfl
                refine hK.out _ _ ⟨A64, c64, gx, A66, c66, m5_, m6_, m7_, (by rw [ha.out]; exact putSel_upk 9 hb_ rfl rfl rfl), Q_T0, Q_Z9, fun h0_ => absurd ((hon 7 (by kernel_rfl)).symm.trans h0_) (by decide), fun h0_ => absurd ((hon 7 (by kernel_rfl)).symm.trans h0_) (by decide), fun _ h1_ => absurd ((hon 7 (by kernel_rfl)).symm.trans h1_) (by decide), fun _ h1_ => absurd ((hon 7 (by kernel_rfl)).symm.trans h1_) (by decide), Q_O7, fun h0_ => absurd ((hoff 10 (by kernel_rfl)).symm.trans h0_) (by decide), Q_X5_, Q_X6_, Q_X7_⟩
              refine steps_cons ?_ ?_
              · rintro b a w' ⟨A64, c64, gx, A66, c66, m5_, m6_, m7_, ha, Q_T0, Q_Z9, Q_OR, Q_PG, Q_FO, Q_GX, Q_O7, Q_FIN, Q_X5_, Q_X6_, Q_X7_⟩ hb_ hon hoff
                refine ⟨_, rfl, fun K hK => ?_⟩
                have e68 : a.tmps[68]? = some (.pointer (some ⟨g9, 4, none⟩)) := by rw [ha]; exact putSel_on (e := (9, 68, .pointer (some ⟨g9, 4, none⟩))) 9 rfl rfl (hon 9 (by kernel_rfl)) rfl
                have e66 : a.tmps[66]? = some (m7_) := by rw [ha]; exact putSel_on (e := (7, 66, m7_)) 7 rfl rfl (hon 7 (by kernel_rfl)) rfl
                rw [Q_X7_ (hon 7 (by kernel_rfl))] at e66
                replace ha := Aside0.mk ha
                have T0 := Aside0.mk Q_T0
                have Z9 := Aside0.mk (Q_Z9 hb_)
                have O7 := Aside0.mk (Q_O7 (hon 7 (by kernel_rfl)))
                have c_ := blk_cell Z9.out 4
                have fr_ := blk_frozen Z9.out 4
                have hne_ : some g9 ≠ (Value.slice A66 (j + 1) c66).ownBlock := fun e_ => absurd (own_base O7.out.1 g9 e_.symm) (Nat.not_le_of_lt HLT9.out)
                refine skip_ (w1 := ?_) (by rfl) rfl ?_ ?_
                rotate_left
                · go_simp
                  rfl
                refine hK.out _ _ ⟨A64, c64, gx, A66, c66, m5_, m6_, m7_, (by rw [ha.out]; exact putSel_none (v := undef) rfl), T0.out.setCell (p := ⟨g9, 4, none⟩) (.inl rfl) _, fun h0_ => absurd ((up_self b 10).symm.trans h0_) (by decide), fun h0_ => absurd ((hon 7 (by kernel_rfl)).symm.trans h0_) (by decide), fun h0_ => absurd ((hon 7 (by kernel_rfl)).symm.trans h0_) (by decide), fun _ h1_ => absurd ((hon 7 (by kernel_rfl)).symm.trans h1_) (by decide), fun _ h1_ => absurd ((hon 7 (by kernel_rfl)).symm.trans h1_) (by decide), fun _ => ⟨own_setCell (p := ⟨g9, 4, none⟩) O7.out.1 hne_ _, O7.out.2.step (fun k hk_ _ => Below.heap_setCell w' ⟨g9, 4, none⟩ _ k (fun e_ => by have h1_ := hk_.1; rw [e_] at h1_; exact absurd h1_ (Nat.not_le_of_lt HLT9.out)))⟩, fun _ => blk_put Z9.out 4 _ rfl, Q_X5_, Q_X6_, Q_X7_⟩
              exact steps_nil
            rintro b a w13 hall ⟨A64, c64, gx, A66, c66, m5_, m6_, m7_, ha, Q_T0, Q_Z9, Q_OR, Q_PG, Q_FO, Q_GX, Q_O7, Q_FIN, Q_X5_, Q_X6_, Q_X7_⟩
            clear OR PG T0 Z9
            have hb0_ := hall 0 (by kernel_rfl)
            have hb1_ := hall 1 (by kernel_rfl)
            have hb2_ := hall 2 (by kernel_rfl)
            have hb3_ := hall 3 (by kernel_rfl)
            have hb4_ := hall 4 (by kernel_rfl)
            have hb5_ := hall 5 (by kernel_rfl)
            have hb6_ := hall 6 (by kernel_rfl)
            have hb7_ := hall 7 (by kernel_rfl)
            have hb8_ := hall 8 (by kernel_rfl)
            have hb9_ := hall 9 (by kernel_rfl)
            have hb10_ := hall 10 (by kernel_rfl)
            subst ha
            obtain rfl := Q_X5_ hb5_
            obtain rfl := Q_X6_ hb6_
            obtain rfl := Q_X7_ hb7_
            simp only [putSel, hb0_, hb1_, hb2_, hb3_, hb4_, hb5_, hb6_, hb7_, hb8_, hb9_, hb10_, if_true, Act.put, List.setIfInBounds_toArray, List.set_cons_zero, List.set_cons_succ]
            have T0 := Aside0.mk Q_T0
            clear Q_T0
            clear Q_Z9
            clear Q_OR
            clear Q_PG
            clear Q_FO
            clear Q_GX
            have O7 := Aside0.mk (Q_O7 hb7_)
            clear Q_O7
            have FIN := Aside0.mk (Q_FIN hb10_)
            clear Q_FIN
            clear hall hb0_ hb1_ hb2_ hb3_ hb4_ hb5_ hb6_ hb7_ hb8_ hb9_ hb10_
            go_wp2_with fail
            go_roundg (NP - j)
            case measure => have := HJ.out; have := HJ2.out; omega
            case rel => exact ⟨j + 1, by first | rfl | simp, ⟨by have := HJ2.out; omega, by have := HJ.out; have := HJ2.out; omega⟩, .slice A66 (j + 1) c66, _, FIN, ⟨O7.out.1, by have := O7.out.2; rwa [← List.replicate_succ'] at this⟩, T0⟩
      case pos =>
        have t1 : decide ((i : Int) < (bad.length : Int)) = true := decide_eq_true (by omega)
        have t2 : decide (i < bad.length) = true := decide_eq_true (by omega)
        have p1 := eq_true (show (0 : Int) ≤ (i : Int) by omega)
        have q1 := eq_true (show (i : Int) < (bad.length : Int) by omega)
        have hBW : Below W.heap.size W wr := HT.out.to_below HB4.out HB4.out.size (fun k hk => by have := Zgm.out.2; have := HG3S.out.2; omega)
        obtain ⟨ad, cs, hA, hcl, hK, hcc⟩ := Kd.C_get (Kd.C_below HIN.out.1 hBW) 0 (i : Int) (by omega) (by omega)
        obtain ⟨x, hx⟩ : ∃ x, bad[i]? = some x := ⟨_, List.getElem?_eq_getElem hi⟩
        have hx0 : wr.cell? (ad.add i) = some (.int .i64 x) := by
          have hk : cs = [.int .i64 (bad.getD (i : Int).toNat 0)] := hK
          subst hk
          have := hcc 0 _ rfl
          rw [Int.toNat_natCast, List.getD_eq_getElem?_getD, hx] at this
          have h' : wr.cell? (ad.add (i * 1 + 0)) = some (.int .i64 x) := this
          rwa [Nat.mul_one, Nat.add_zero] at h'
        have HX := Aside0.mk hx
        have HI2 := Aside0.mk hi
        have HAA := Aside0.mk hA
        have hz3 := blk_turn HZ4.out HT.out (fun e => by have := Zgm.out.2; have := HG3S.out.1; omega)
        have z0 := blk_cell hz3 0
        obtain ⟨hw5, hw6⟩ := wrap_id (x := (i : Int) + 1) (by omega) (by have := HIN.out.2.2.1; omega)
        rw [hA]
        clear hA hcl hK hcc hx hi hBW hz3
        by_cases h0 : x ≥ 0
        case neg =>
          have t3 : decide (x ≥ 0) = false := decide_eq_false h0
          have HMS := Aside0.mk (marksTo_miss (B := Bn) HX.out (fun h => h0 h.1))
          clear h0
          go_wp2_with fail
          rw [show (some ad : Option Addr) = Ab from HAA.out.symm]
          go_roundg (bad.length - i)
          case measure => have := HI.out; have := HI2.out; omega
          case rel => exact ⟨i + 1, by first | rfl | simp, ⟨by have := HI2.out; omega, by have := HI.out; have := HI2.out; omega⟩, ⟨by rw [HMS.out]; exact HC.out⟩, HT⟩
        case pos =>
          have t3 : decide (x ≥ 0) = true := decide_eq_true h0
          by_cases h1 : x < (Bn : Int)
          case neg =>
            have t4 : decide (x < (Bn : Int)) = false := decide_eq_false h1
            have HMS := Aside0.mk (marksTo_miss (B := Bn) HX.out (fun h => h1 h.2))
            clear h0 h1
            go_wp2_with fail
            rw [show (some ad : Option Addr) = Ab from HAA.out.symm]
            go_roundg (bad.length - i)
            case measure => have := HI.out; have := HI2.out; omega
            case rel => exact ⟨i + 1, by first | rfl | simp, ⟨by have := HI2.out; omega, by have := HI.out; have := HI2.out; omega⟩, ⟨by rw [HMS.out]; exact HC.out⟩, HT⟩
          case pos =>
            obtain ⟨n, rfl⟩ := Int.eq_ofNat_of_zero_le h0
            have t3' : decide ((n : Int) ≥ 0) = true := decide_eq_true h0
            have t4 : decide ((n : Int) < (Bn : Int)) = true := decide_eq_true h1
            have t5 : decide (n < Bn) = true := decide_eq_true (by omega)
            have p3 := eq_true (show (0 : Int) ≤ (n : Int) by omega)
            have q3 := eq_true (show (n : Int) < (Bn : Int) by omega)
            have HMS := Aside0.mk (marksTo_hit (B := Bn) HX.out (by omega))
            have hz9 := blk_turn Z9.out.1 HT.out (fun e => Z9.out.2.2.1 e.symm)
            have z3 := blk_cell hz9 3
            have zc := HC.out.cell (i := n) (by rw [marksTo_at, if_pos (by omega)])
            have zf := HC.out.frozen n
            have HC2 := Aside0.mk (HC.out.set n (.bool true))
            have HT2 := Aside0.mk (HT.out.setCell (p := ⟨gm, n, none⟩) (.inl rfl) (.bool true))
            clear h0 h1 hz9
            go_wp2_with fail
            rw [show (some ad : Option Addr) = Ab from HAA.out.symm]
            go_roundg (bad.length - i)
            case measure => have := HI.out; have := HI2.out; omega
            case rel => exact ⟨i + 1, by first | rfl | simp, ⟨by have := HI2.out; omega, by have := HI.out; have := HI2.out; omega⟩, ⟨by rw [HMS.out]; exact HC2.out⟩, HT2⟩
end Go.Proofs.Ytnchdmidaigheaa.ND
namespace Go.Proofs.Ytnchdmidaigheaa.ND
set_option linter.unusedVariables false
set_option linter.unusedSimpArgs false
open Go.RowKit Go.Proofs.Ytnchdmidaigheaa.Hp Go.Proofs.YtnchdmidaigheaaW.PrintWords Go.Proofs.YtnchdmidaigheaaW.PrintLast Go.Proofs.YtnchdmidaigheaaW.PrintMore
theorem lit1_int {W : World} {g T : Nat} {k : IntKind} {x : Int} (h : W.heap[g]? = some (.cells #[.int k x] T (0, 0))) : Kd.C (Kd.int k) W (some ⟨g, 0, none⟩) 1 [x] :=
  ⟨rfl, by decide, fun _ => ⟨_, rfl, fun j p hp => by
    have hj : j = 0 := by have := (List.getElem?_eq_some_iff.1 hp).1; simp at this; exact this
    subst hj
    obtain rfl : x = p := by simpa using hp
    exact ⟨[.int k x], rfl, rfl, fun i u hu => by
      have hi : i = 0 := by have := (List.getElem?_eq_some_iff.1 hu).1; simp at this; exact this
      subst hi
      rw [add_plain]
      exact (blk_cell h 0).trans hu⟩⟩⟩
def Held (W w : World) (L : Lay) (D : Dv) : Prop := (∃ ok, DV w ok L D) ∧ Below W.heap.size W w ∧ ∀ k, L.S k → W.heap.size ≤ k
theorem Held.below {W w w' : World} {L : Lay} {D : Dv} (h : Held W w L D) (hb : Below w.heap.size w w') : Held W w' L D := by
  obtain ⟨⟨ok, hD⟩, h2, h3⟩ := h
  exact ⟨⟨ok, hD.below hb⟩, below_then h2 h2.size hb, h3⟩
theorem Held.turn {W w w' : World} {L : Lay} {D D' : Dv} {ok' : Nat → Prop} (h : Held W w L D) (hD : DV w' ok' L D') (hT : Turn w w' L.S) : Held W w' L D' :=
  ⟨⟨ok', hD⟩, hT.to_below h.2.1 h.2.1.size h.2.2, h.2.2⟩
theorem Held.lt {W w : World} {L : Lay} {D : Dv} (h : Held W w L D) : ∀ k, L.S k → k < w.heap.size := by obtain ⟨⟨ok, hD⟩, _, _⟩ := h; exact hD.lt
theorem held_new {W w w' : World} {B P C : Int} {bad : List Int} {fs : List Flt} {e : Ending} (h : NewTo w B P C bad fs e w') (h0 : Below W.heap.size W w) (hg : rightG B P C = true) : ∃ L : Lay, e = .returned (.tuple #[.pointer (some ⟨L.g, 0, none⟩), .int .i64 0]) ∧ Held W w' L (newDv B P C bad fs) := by
  obtain ⟨L, e1, hD, hL⟩ := h.2.1 hg
  exact ⟨L, e1, ⟨_, hD⟩, below_then h0 h0.size h.1, fun k hk => Nat.le_trans h0.size (hL k (.inl hk))⟩
def zs : List Int := List.replicate 256 0
def aF : Flt := ⟨1, 2, [15]⟩
def a0 : Dv := newDv 8 4 0 [3] [aF]
def a1 : Dv := (a0.prog 2 1 zs).2
def a2 : Dv := (a1.prog 2 0 zs).2
def a3 : Dv := (a2.prog 2 1 zs).2
def a4 : Dv := a3.power
end Go.Proofs.Ytnchdmidaigheaa.ND
