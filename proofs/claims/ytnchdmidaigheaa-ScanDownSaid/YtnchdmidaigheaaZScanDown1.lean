/- Parts of the proof of the statement ScanDown, laid together (2 of 5). -/
import Derived.Test.YtnchdmidaigheaaZScanDown0
namespace Go.Proofs.Ytnchdmidaigheaa.Hp
open Go.RowKit Go.Proofs.YtnchdmidaigheaaW.PrintWords Go.Proofs.YtnchdmidaigheaaW.PrintLast Go.Proofs.YtnchdmidaigheaaW.PrintMore
attribute [local go_sem] max2_int min2_int max_two min_two max_three min_three max_four min_four   -- for this text's walks alone
set_option linter.unusedVariables false
set_option linter.unusedSimpArgs false
def zeros_count.f (a : Int) : Option Int := if 0 ≤ a ∧ a ≤ 255 then some (zbits a) else none
set_option maxHeartbeats 8000000 in
set_option maxRecDepth 100000 in
theorem zeros_count.calls (a0 : Int) (r : Int) (w : World) (h : zeros_count.f a0 = some r) :
    Calls Try.prog 129 #[.int .u8 a0] w fun e w' => e = .returned (.int .i64 r) ∧ Drawn0 w w' := by
  unfold zeros_count.f at h
  by_cases hr : 0 ≤ a0 ∧ a0 ≤ 255
  · rw [if_pos hr] at h
    obtain rfl := Option.some.inj h
    obtain ⟨h0, h1⟩ := hr
    clear h
    go_enter Try.func129, Try.ntmps129
    go_wp2
    go_loopg [3, 5] 9 (fun kq n i w' => ∃ k : Nat, i = .int .i64 k ∧ n = .int .i64 (zpre a0 k) ∧ Aside0 (k ≤ 8) ∧ Aside0 (kq + k = 9) ∧ Drawn0 w w')
    case atStart => exact ⟨0, rfl, rfl, ⟨by omega⟩, ⟨rfl⟩, Drawn0.refl _⟩
    case round =>
      obtain ⟨k, rfl, rfl, HK, HQ, ⟨m, rfl⟩⟩ := hrel
      by_cases hk : k < 8
      · have hb : decide ((k : Int) < 8) = true := by simp; omega
        have HS := Aside0.mk (zstep a0 h0 h1 k hk)
        go_wp2
        go_roundg (gk - 1)
        case measure => have := HQ.out; omega
        case rel => exact ⟨k + 1, by simp, by rw [HS.out], ⟨by omega⟩, ⟨by have := HQ.out; omega⟩, by repeat (first | exact Drawn0.refl _ | apply Drawn0.step)⟩
      · have hk8 : k = 8 := by have := HK.out; omega
        subst hk8
        rw [zpre_8]
        go_wp2
        go_ret
        exact ⟨rfl, by repeat (first | exact Drawn0.refl _ | apply Drawn0.step)⟩
  · rw [if_neg hr] at h
    cases h
end Go.Proofs.Ytnchdmidaigheaa.Hp
namespace Go.Proofs.Ytnchdmidaigheaa.Hp
open Go.RowKit Go.Proofs.YtnchdmidaigheaaW.PrintWords Go.Proofs.YtnchdmidaigheaaW.PrintLast Go.Proofs.YtnchdmidaigheaaW.PrintMore
attribute [local go_sem] max2_int min2_int max_two min_two max_three min_three max_four min_four   -- for this text's walks alone
set_option linter.unusedVariables false
set_option linter.unusedSimpArgs false
def zeros_Count.l0 : Nat → Int → List Int → Int → Int → Option (Int)
  | 0, _, _, _, _ => none
  | k + 1, x3, x6, x7, x8 => if x8 < x7 then (if 0 ≤ x8 then (if x8 < (x6.length : Int) then ((zeros_count.f (rd x6 x8)).bind fun t280 => (zeros_Count.l0 k (wrap64 (x3 + t280)) x6 x7 (wrap64 (x8 + 1)))) else (none)) else (none)) else (some x3)
def zeros_Count.f (k : Nat) (l0 : List Int) : Option (Int) := zeros_Count.l0 k 0 l0 (l0.length : Int) 0
theorem zeros_Count.mono_l : ∀ k, (∀ y0 y1 y2 y3, LeO (zeros_Count.l0 k y0 y1 y2 y3) (zeros_Count.l0 (k + 1) y0 y1 y2 y3))
  | 0 => fun _ _ _ _ r h => by simp [zeros_Count.l0] at h
  | k + 1 => by
    have ih0 := zeros_Count.mono_l k
    · intro y0 y1 y2 y3
      unfold zeros_Count.l0
      repeat' first
      | (with_reducible exact ih0 _ _ _ _)
      | (with_reducible exact LeO.refl _)
      | (with_reducible exact LeO.none _)
      | (with_reducible refine LeO.ite ?_ ?_)
      | (with_reducible refine LeO.bind ?_ (fun _ => ?_))
      | exact ih0 _ _ _ _
      | exact LeO.none _
      | refine LeO.ite ?_ ?_
      | refine LeO.bind ?_ (fun _ => ?_)
theorem zeros_Count.mono : ∀ a0 k, LeO (zeros_Count.f k a0) (zeros_Count.f (k + 1) a0) := by
  intro a0 k
  have ih0 := zeros_Count.mono_l k
  unfold zeros_Count.f
  repeat' first
      | (with_reducible exact ih0 _ _ _ _)
      | (with_reducible exact LeO.refl _)
      | (with_reducible exact LeO.none _)
      | (with_reducible refine LeO.ite ?_ ?_)
      | (with_reducible refine LeO.bind ?_ (fun _ => ?_))
      | exact ih0 _ _ _ _
      | exact LeO.none _
      | refine LeO.ite ?_ ?_
      | refine LeO.bind ?_ (fun _ => ?_)
set_option maxHeartbeats 8000000 in
set_option maxRecDepth 100000 in
theorem zeros_Count.calls (k : Nat) (A0 : Option Addr) (c0 : Nat) (l0 : List Int) (r : Int) (w : World) (hr0 : Kd.C (Kd.int .u8) w A0 l0.length l0) (hc0 : l0.length ≤ c0) (h : zeros_Count.f k l0 = some r) :
    Calls Try.prog 124 #[.slice A0 l0.length c0] w fun e w' => e = .returned (.int .i64 r) ∧ Drawn0 w w' := by
  have HR0 := Aside0.mk hr0
  have HC0 := Aside0.mk hc0
  clear hr0 hc0
  have H : (zeros_Count.l0 k 0 l0 (l0.length : Int) 0) = some r := h
  clear h
  have H' := Aside0.mk H
  clear H
  go_enter Try.func124, Try.ntmps124
  go_wp2
  go_loopg [3, 8] k (fun kq v3 v8 w' => ∃ (x3_1 : Int) (x8_1 : Int), v3 = .int .i64 x3_1 ∧ v8 = .int .i64 x8_1 ∧ Aside0 (zeros_Count.l0 kq x3_1 l0 (l0.length : Int) x8_1 = some r) ∧ Aside0 (kq ≤ k) ∧ Drawn0 w w')
  case atStart => exact ⟨(0), (0), (by first | rfl | (simp; done) | (simp [*]; done)), (by first | rfl | (simp; done) | (simp [*]; done)), H', ⟨Nat.le_refl _⟩, by repeat (first | exact Drawn0.refl _ | apply Drawn0.step)⟩
  case round =>
    clear H'
    try clear c1
    obtain ⟨x3_1, x8_1, rfl, rfl, HA, HK1, ⟨m1, rfl⟩⟩ := hrel
    cases gk with
    | zero => exact absurd HA.out (by simp [zeros_Count.l0])
    | succ k1 =>
      have H := HA.out
      clear HA
      simp only [zeros_Count.l0] at H
      by_cases c2 : x8_1 < (l0.length : Int)
      · rw [if_pos c2] at H
        have c2b0 : decide (x8_1 < (l0.length : Int)) = true := decide_eq_true c2
        clear c2
        by_cases c3 : 0 ≤ x8_1
        · rw [if_pos c3] at H
          have c3b0 : decide (0 ≤ x8_1) = true := decide_eq_true c3
          clear c3
          by_cases c4 : x8_1 < (l0.length : Int)
          · rw [if_pos c4] at H
            have c4b0 : decide (x8_1 < (l0.length : Int)) = true := decide_eq_true c4
            clear c4
            replace H := Option.bind_eq_some_iff.mp H
            obtain ⟨t280, A50, H⟩ := H
            replace H : (zeros_Count.l0 k1 (wrap64 (x3_1 + t280)) l0 (l0.length : Int) (wrap64 (x8_1 + 1))) = some r := H
            have A5 := Aside0.mk A50
            clear A50
            have H' := Aside0.mk H
            clear H
            have p279 : 0 ≤ (x8_1 : Int) := of_decide_eq_true (by first | (with_reducible assumption) | assumption)
            have q279 : x8_1 < (l0.length : Int) := of_decide_eq_true (by first | (with_reducible assumption) | assumption)
            obtain ⟨ad279, e279, hx279_0⟩ := Kd.at_int HR0.out x8_1 p279 q279
            cases e279
            replace p279 := eq_true p279
            replace q279 := eq_true q279
            go_wp2_with (first | ((with_reducible refine gate_callee (f := 129) rfl ?_); refine goesL_ (some 14) rfl rfl Try.func129 (by kernel_rfl) rfl #[.int .u8 (rd l0 x8_1)] rfl (by (try simp only [List.map_toArray, List.map_cons, List.map_nil]); first | done | rfl | (simp only [List.length_drop, List.length_take]; rfl)) ?_; (with_reducible refine (zeros_count.calls (rd l0 x8_1) t280 _ A5.out).mono ?_); rintro e w' ⟨rfl, ⟨nd, rfl⟩⟩; refine ⟨_, rfl, ?_⟩))
            go_roundg k1
            case measure => have := HK1.out; omega
            case rel => exact ⟨(wrap64 (x3_1 + t280)), (wrap64 (x8_1 + 1)), (by first | rfl | (simp; done) | (simp [*]; done)), (by first | rfl | (simp; done) | (simp [*]; done)), H', ⟨by have := HK1.out; omega⟩, by repeat (first | exact Drawn0.refl _ | apply Drawn0.step)⟩
          · rw [if_neg c4] at H
            exact absurd H (by simp)
        · rw [if_neg c3] at H
          exact absurd H (by simp)
      · rw [if_neg c2] at H
        have c2b0 : decide (x8_1 < (l0.length : Int)) = false := decide_eq_false c2
        clear c2
        obtain rfl := Option.some.inj H
        go_wp2
        go_ret
        exact ⟨by first | rfl | (simp; done) | (simp [*]; done), by repeat (first | exact Drawn0.refl _ | apply Drawn0.step)⟩
def page_Seal.f (k : Nat) (l0 : List Int) : Option (List Int) := if (l0.length : Int) = 252 then ((zeros_Count.f k l0).bind fun t281 => ((be_Put.f k l0 4 (IntKind.u64.wrap (t281))).bind fun t282 => (some t282))) else (some ([] : List Int))
theorem page_Seal.mono : ∀ a0 k, LeO (page_Seal.f k a0) (page_Seal.f (k + 1) a0) := by
  intro a0 k
  unfold page_Seal.f
  repeat' first
      | (with_reducible exact be_Put.mono _ _ _ _)
      | (with_reducible exact zeros_Count.mono _ _)
      | (with_reducible exact LeO.refl _)
      | (with_reducible exact LeO.none _)
      | (with_reducible refine LeO.ite ?_ ?_)
      | (with_reducible refine LeO.bind ?_ (fun _ => ?_))
      | exact be_Put.mono _ _ _ _
      | exact zeros_Count.mono _ _
      | exact LeO.none _
      | refine LeO.ite ?_ ?_
      | refine LeO.bind ?_ (fun _ => ?_)
set_option maxHeartbeats 8000000 in
set_option maxRecDepth 100000 in
theorem page_Seal.calls (k : Nat) (A0 : Option Addr) (c0 : Nat) (l0 : List Int) (r : List Int) (w : World) (hr0 : Kd.C (Kd.int .u8) w A0 l0.length l0) (hc0 : l0.length ≤ c0) (h : page_Seal.f k l0 = some r) :
    Calls Try.prog 111 #[.slice A0 l0.length c0] w fun e w' => ∃ v0_ : Value, e = .returned (v0_) ∧ Kd.R (Kd.int .u8) 5 w' w.heap.size (fun _ => True) v0_ r ∧ Below w.heap.size w w' := by
  have HR0 := Aside0.mk hr0
  have HC0 := Aside0.mk hc0
  clear hr0 hc0
  have HB := Aside0.mk (Below.refl w.heap.size w)
  have H : (if (l0.length : Int) = 252 then ((zeros_Count.f k l0).bind fun t281 => ((be_Put.f k l0 4 (IntKind.u64.wrap (t281))).bind fun t282 => (some t282))) else (some ([] : List Int))) = some r := h
  clear h
  by_cases c2 : (l0.length : Int) = 252
  · rw [if_pos c2] at H
    have c2b0 : ((l0.length : Int) == 252) = true := beq_iff_eq.mpr c2
    have c2b1 : ((l0.length : Int) != 252) = false := bne_eq_false_iff_eq.mpr c2
    clear c2
    replace H := Option.bind_eq_some_iff.mp H
    obtain ⟨t281, A30, H⟩ := H
    replace H : ((be_Put.f k l0 4 (IntKind.u64.wrap (t281))).bind fun t282 => (some t282)) = some r := H
    have A3 := Aside0.mk A30
    clear A30
    replace H := Option.bind_eq_some_iff.mp H
    obtain ⟨t282, A40, H⟩ := H
    replace H : (some t282) = some r := H
    have A4 := Aside0.mk A40
    clear A40
    obtain rfl := Option.some.inj H
    go_enter Try.func111, Try.ntmps111
    go_wp2_with (first | ((with_reducible refine gate_callee (f := 124) rfl ?_); refine goesL_ (some 8) rfl rfl Try.func124 (by kernel_rfl) rfl #[.slice A0 l0.length c0] rfl (by (try simp only [List.map_toArray, List.map_cons, List.map_nil]); first | done | rfl | (simp only [List.length_drop, List.length_take]; rfl)) ?_; (with_reducible refine (zeros_Count.calls k _ _ l0 t281 _ ?side1 ?side2 A3.out).mono ?_); (case side1 => repeat (first | exact HR0.out | (with_reducible refine Kd.C_alloc ?_ _) | (with_reducible refine Kd.C_drewN ?_ _) | (with_reducible refine Kd.C_drew ?_))); (case side2 => exact HC0.out); rintro e w' ⟨rfl, ⟨nd, rfl⟩⟩; refine ⟨_, rfl, ?_⟩) | ((with_reducible refine gate_callee (f := 123) rfl ?_); refine goesL_ (some 10) rfl rfl Try.func123 (by kernel_rfl) rfl #[.slice A0 l0.length c0, .int .i64 4, .int .u64 (IntKind.u64.wrap (t281))] rfl (by (try simp only [List.map_toArray, List.map_cons, List.map_nil]); first | done | rfl | (simp only [List.length_drop, List.length_take]; rfl)) ?_; (with_reducible refine (be_Put.calls k _ _ l0 4 (IntKind.u64.wrap (t281)) t282 _ ?side1 ?side2 A4.out).mono ?_); (case side1 => repeat (first | exact HR0.out | (with_reducible refine Kd.C_alloc ?_ _) | (with_reducible refine Kd.C_drewN ?_ _) | (with_reducible refine Kd.C_drew ?_))); (case side2 => exact HC0.out); rintro e w5 ⟨v283, rfl, ho0, hb⟩; refine ⟨_, rfl, ?_⟩; have n0_ := Aside0.mk (Kd.R_lower ho0 (below_size (by repeat (first | (with_reducible first | exact HB.out | apply below_alloc | apply pw_below_drewN | apply below_drew1) | exact HB.out)))); have n1_ := Aside0.mk (below_step (by repeat (first | (with_reducible first | exact HB.out | apply below_alloc | apply pw_below_drewN | apply below_drew1) | exact HB.out)) hb); clear HB; have HO284 := n0_; have HB := n1_; clear n0_ n1_; (try clear hb); (try clear hb2); (try clear hk); (try clear hi); (try clear ho0)))
    go_ret
    exact ⟨_, by first | rfl | (simp [errW_none, errW_some] <;> rfl) | (simp [*, errW_none, errW_some] <;> rfl), by (with_reducible repeat (first | apply Kd.R_alloc | apply Kd.R_drewN | apply Kd.R_drew)); exact HO284.out, by repeat (first | (with_reducible first | exact HB.out | apply below_alloc | apply pw_below_drewN | apply below_drew1) | exact HB.out)⟩
  · rw [if_neg c2] at H
    have c2b0 : ((l0.length : Int) == 252) = false := beq_eq_false_iff_ne.mpr c2
    have c2b1 : ((l0.length : Int) != 252) = true := bne_iff_ne.mpr c2
    obtain rfl := Option.some.inj H
    go_enter Try.func111, Try.ntmps111
    go_wp2
    go_ret
    exact ⟨_, by first | rfl | (simp [errW_none, errW_some] <;> rfl) | (simp [*, errW_none, errW_some] <;> rfl), by first | exact Kd.R_nil _ _ _ _ _ | exact Kd.N_nil _ _ _ _ _ | exact Kd.V_nil _ _ _ _ _ | exact Kd.Q_nil _ _ _ _ _ | exact Kd.S_nil _ _ _ _ _, by repeat (first | (with_reducible first | exact HB.out | apply below_alloc | apply pw_below_drewN | apply below_drew1) | exact HB.out)⟩
end Go.Proofs.Ytnchdmidaigheaa.Hp
namespace Go.Proofs.Ytnchdmidaigheaa.Hp
open Go.RowKit Go.Proofs.YtnchdmidaigheaaW.PrintWords Go.Proofs.YtnchdmidaigheaaW.PrintLast Go.Proofs.YtnchdmidaigheaaW.PrintMore
attribute [local go_sem] max2_int min2_int max_two min_two max_three min_three max_four min_four   -- for this text's walks alone
set_option linter.unusedVariables false
set_option linter.unusedSimpArgs false
def zeros_Ones.l0 : Nat → List Int → Int → Int → Option (List Int)
  | 0, _, _, _ => none
  | k + 1, x3, x5, x6 => if x6 < x5 then (if x3.length < 140737488355328 then (zeros_Ones.l0 k (x3 ++ [255]) x5 (wrap64 (x6 + 1))) else (none)) else (some x3)
def zeros_Ones.f (k : Nat) (a0 : Int) : Option (List Int) := zeros_Ones.l0 k ([] : List Int) (mn a0 1048576) 0
theorem zeros_Ones.mono_l : ∀ k, (∀ y0 y1 y2, LeO (zeros_Ones.l0 k y0 y1 y2) (zeros_Ones.l0 (k + 1) y0 y1 y2))
  | 0 => fun _ _ _ r h => by simp [zeros_Ones.l0] at h
  | k + 1 => by
    have ih0 := zeros_Ones.mono_l k
    · intro y0 y1 y2
      unfold zeros_Ones.l0
      repeat' first
      | (with_reducible exact ih0 _ _ _)
      | (with_reducible exact LeO.refl _)
      | (with_reducible exact LeO.none _)
      | (with_reducible refine LeO.ite ?_ ?_)
      | (with_reducible refine LeO.bind ?_ (fun _ => ?_))
      | exact ih0 _ _ _
      | exact LeO.none _
      | refine LeO.ite ?_ ?_
      | refine LeO.bind ?_ (fun _ => ?_)
theorem zeros_Ones.mono : ∀ a0 k, LeO (zeros_Ones.f k a0) (zeros_Ones.f (k + 1) a0) := by
  intro a0 k
  have ih0 := zeros_Ones.mono_l k
  unfold zeros_Ones.f
  repeat' first
      | (with_reducible exact ih0 _ _ _)
      | (with_reducible exact LeO.refl _)
      | (with_reducible exact LeO.none _)
      | (with_reducible refine LeO.ite ?_ ?_)
      | (with_reducible refine LeO.bind ?_ (fun _ => ?_))
      | exact ih0 _ _ _
      | exact LeO.none _
      | refine LeO.ite ?_ ?_
      | refine LeO.bind ?_ (fun _ => ?_)
set_option maxHeartbeats 8000000 in
set_option maxRecDepth 100000 in
theorem zeros_Ones.calls (k : Nat) (a0 : Int) (r : List Int) (w : World) (h : zeros_Ones.f k a0 = some r) :
    Calls Try.prog 61 #[.int .i64 a0] w fun e w' => ∃ v0_ : Value, e = .returned (v0_) ∧ Kd.R (Kd.int .u8) 5 w' w.heap.size (fun _ => True) v0_ r ∧ Below w.heap.size w w' := by
  have HB := Aside0.mk (Below.refl w.heap.size w)
  have H : (zeros_Ones.l0 k ([] : List Int) (mn a0 1048576) 0) = some r := h
  clear h
  obtain ⟨ji2, hji2⟩ : ∃ j_ : Int, (mn a0 1048576) = j_ := ⟨_, rfl⟩
  replace H : (zeros_Ones.l0 k ([] : List Int) ji2 0) = some r := by first | (rw [hji2] at H; exact H) | (simp only [hji2] at H ⊢; exact H)
  (try (have hji2h : ji2 ≤ 1048576 := by (rw [← hji2]; unfold mn; (repeat' split) <;> omega)))
  (try (have hji2g : ji2 ≤ 64 := by omega))
  have hji2_ : (if 1048576 < a0 then 1048576 else a0) = ji2 := hji2
  have H' := Aside0.mk H
  clear H
  go_enter Try.func61, Try.ntmps61
  go_wp2
  go_loopg [3, 6] k (fun kq v3 v6 w' => ∃ (x3_1 : List Int) (x6_1 : Int), v6 = .int .i64 x6_1 ∧ Aside0 (zeros_Ones.l0 kq x3_1 ji2 x6_1 = some r) ∧ Aside0 (kq ≤ k) ∧ Aside0 (Kd.R (Kd.int .u8) 5 w' w.heap.size (fun _ => True) v3 x3_1) ∧ Aside0 (Below w.heap.size w w'))
  case atStart => exact ⟨(([] : List Int)), (0), (by first | rfl | (simp; done) | (simp [*]; done)), H', ⟨Nat.le_refl _⟩, ⟨by first | exact Kd.R_nil _ _ _ _ _ | exact Kd.N_nil _ _ _ _ _ | exact Kd.V_nil _ _ _ _ _ | exact Kd.Q_nil _ _ _ _ _ | exact Kd.S_nil _ _ _ _ _⟩, ⟨by repeat (first | (with_reducible first | exact HB.out | apply below_alloc | apply pw_below_drewN | apply below_drew1) | exact HB.out)⟩⟩
  case round =>
    clear H'
    try clear p2
    obtain ⟨x3_1, x6_1, rfl, HA, HK1, HO_3, HB⟩ := hrel
    cases gk with
    | zero => exact absurd HA.out (by simp [zeros_Ones.l0])
    | succ k1 =>
      have H := HA.out
      clear HA
      simp only [zeros_Ones.l0] at H
      by_cases c3 : x6_1 < ji2
      · rw [if_pos c3] at H
        have c3b0 : decide (x6_1 < ji2) = true := decide_eq_true c3
        clear c3
        by_cases c4 : x3_1.length < 140737488355328
        · rw [if_pos c4] at H
          have LMc4 := Aside0.mk c4
          clear c4
          obtain ⟨y104, hy104⟩ : ∃ y_ : List Int, y_ = (x3_1 ++ [255]) := ⟨_, rfl⟩
          replace H : (zeros_Ones.l0 k1 y104 ji2 (wrap64 (x6_1 + 1))) = some r := by first | (rw [hy104]; with_reducible exact H) | (have H2_ := (Option.bind_some _ _).symm.trans H; rw [hy104]; with_reducible exact H2_) | (have H2_ := (Option.bind_some _ _).symm.trans H; with_reducible exact H2_) | with_reducible exact H | (rw [hy104]; exact H) | exact H
          have Ny104 := Aside0.mk hy104
          clear hy104
          have H' := Aside0.mk H
          clear H
          go_wp2_with (first | ((with_reducible refine gate_builtin (b := .append) (xs := #[.tmp 8, .tmp 9]) rfl ?_); at_builtin; refine Kd.R_append (Kd.int .u8) (w0 := w) w.heap.size rfl (.tmp 8) (.tmp 9) 38 5 (.int .u8 0) 1 rfl Try.underlying38 info5 rfl (by decide) (by omega) u3 x3_1 255 [.int .u8 255] (fun _ => True) (fun _ => False) rfl rfl ?aP (fun _ hk => hk.elim) ?aF ?aO ?aB ?aS ?aL ?_; (case aP => exact rfl); (case aB => exact (by repeat (first | (with_reducible first | exact HB.out | apply below_alloc | apply pw_below_drewN | apply below_drew1) | exact HB.out))); (case aF => exact (fun _ _ => trivial)); (case aO => exact (by (with_reducible repeat (first | apply Kd.R_alloc | apply Kd.R_drewN | apply Kd.R_drew)); exact HO_3.out)); (case aS => exact (below_size (by repeat (first | (with_reducible first | exact HB.out | apply below_alloc | apply pw_below_drewN | apply below_drew1) | exact HB.out)))); (case aL => have := LMc4.out; omega); intro v105 w5 ho hb hg hat; rw [← Ny104.out] at ho; have n0_ := Aside0.mk (hb); have n1_ := Aside0.mk (ho); clear HB; clear HO_3; have HB := n0_; have HO106 := n1_; clear n0_ n1_; clear ho hb hg hat))
          go_roundg k1
          case measure => have := HK1.out; omega
          case rel => exact ⟨(y104), (wrap64 (x6_1 + 1)), (by first | rfl | (simp; done) | (simp [*]; done)), H', ⟨by have := HK1.out; omega⟩, ⟨by (with_reducible repeat (first | apply Kd.R_alloc | apply Kd.R_drewN | apply Kd.R_drew)); exact HO106.out⟩, ⟨by repeat (first | (with_reducible first | exact HB.out | apply below_alloc | apply pw_below_drewN | apply below_drew1) | exact HB.out)⟩⟩
        · rw [if_neg c4] at H
          exact absurd H (by simp)
      · rw [if_neg c3] at H
        have c3b0 : decide (x6_1 < ji2) = false := decide_eq_false c3
        clear c3
        obtain rfl := Option.some.inj H
        go_wp2
        go_ret
        exact ⟨_, by first | rfl | (simp [errW_none, errW_some] <;> rfl) | (simp only [← hji2]; first | rfl | (simp [errW_none, errW_some] <;> rfl)) | (simp [*, errW_none, errW_some] <;> rfl), by (with_reducible repeat (first | apply Kd.R_alloc | apply Kd.R_drewN | apply Kd.R_drew)); exact HO_3.out, by repeat (first | (with_reducible first | exact HB.out | apply below_alloc | apply pw_below_drewN | apply below_drew1) | exact HB.out)⟩
def zeros_Mask.f (l0 : List Int) (a1 : Int) : Option (Int) := if a1 < 0 then (some 0) else (if (l0.length : Int) = 0 then (some 0) else (if 0 ≤ (Int.tmod a1 (l0.length : Int)) then (if (Int.tmod a1 (l0.length : Int)) < (l0.length : Int) then (some (rd l0 (Int.tmod a1 (l0.length : Int)))) else (none)) else (none)))
set_option maxHeartbeats 8000000 in
set_option maxRecDepth 100000 in
theorem zeros_Mask.calls (A0 : Option Addr) (c0 : Nat) (l0 : List Int) (a1 : Int) (r : Int) (w : World) (hr0 : Kd.C (Kd.int .u8) w A0 l0.length l0) (hc0 : l0.length ≤ c0) (h : zeros_Mask.f l0 a1 = some r) :
    Calls Try.prog 104 #[.slice A0 l0.length c0, .int .i64 a1] w fun e w' => e = .returned (.int .u8 r) ∧ Drawn0 w w' := by
  have HR0 := Aside0.mk hr0
  have HC0 := Aside0.mk hc0
  clear hr0 hc0
  have H : (if a1 < 0 then (some 0) else (if (l0.length : Int) = 0 then (some 0) else (if 0 ≤ (Int.tmod a1 (l0.length : Int)) then (if (Int.tmod a1 (l0.length : Int)) < (l0.length : Int) then (some (rd l0 (Int.tmod a1 (l0.length : Int)))) else (none)) else (none)))) = some r := h
  clear h
  by_cases c3 : a1 < 0
  · rw [if_pos c3] at H
    have c3b0 : decide (a1 < 0) = true := decide_eq_true c3
    clear c3
    obtain rfl := Option.some.inj H
    go_enter Try.func104, Try.ntmps104
    go_wp2
    go_ret
    exact ⟨by first | rfl | (simp; done) | (simp [*]; done), by repeat (first | exact Drawn0.refl _ | apply Drawn0.step)⟩
  · rw [if_neg c3] at H
    have c3b0 : decide (a1 < 0) = false := decide_eq_false c3
    clear c3
    by_cases c4 : (l0.length : Int) = 0
    · rw [if_pos c4] at H
      have c4b0 : ((l0.length : Int) == 0) = true := beq_iff_eq.mpr c4
      have c4b1 : ((l0.length : Int) != 0) = false := bne_eq_false_iff_eq.mpr c4
      clear c4
      obtain rfl := Option.some.inj H
      go_enter Try.func104, Try.ntmps104
      go_wp2
      go_ret
      exact ⟨by first | rfl | (simp; done) | (simp [*]; done), by repeat (first | exact Drawn0.refl _ | apply Drawn0.step)⟩
    · rw [if_neg c4] at H
      have c4b0 : ((l0.length : Int) == 0) = false := beq_eq_false_iff_ne.mpr c4
      have c4b1 : ((l0.length : Int) != 0) = true := bne_iff_ne.mpr c4
      have c4b2 : ¬ (l0 = []) := fun h_ => c4 (by rw [h_]; rfl)
      obtain ⟨ji5, hji5⟩ : ∃ j_ : Int, (Int.tmod a1 (l0.length : Int)) = j_ := ⟨_, rfl⟩
      replace H : (if 0 ≤ (ji5) then (if (ji5) < (l0.length : Int) then (some (rd l0 (ji5))) else (none)) else (none)) = some r := by first | (rw [hji5] at H; exact H) | (simp only [hji5] at H ⊢; exact H)
      by_cases c6 : 0 ≤ (ji5)
      · rw [if_pos c6] at H
        have c6b0 : decide (0 ≤ (ji5)) = true := decide_eq_true c6
        clear c6
        by_cases c7 : (ji5) < (l0.length : Int)
        · rw [if_pos c7] at H
          have c7b0 : decide ((ji5) < (l0.length : Int)) = true := decide_eq_true c7
          clear c7
          obtain rfl := Option.some.inj H
          have p112 : 0 ≤ ((ji5) : Int) := of_decide_eq_true (by first | (with_reducible assumption) | assumption)
          have q112 : (ji5) < (l0.length : Int) := of_decide_eq_true (by first | (with_reducible assumption) | assumption)
          obtain ⟨ad112, e112, hx112_0⟩ := Kd.at_int HR0.out (ji5) p112 q112
          cases e112
          replace p112 := eq_true p112
          replace q112 := eq_true q112
          go_enter Try.func104, Try.ntmps104
          go_wp2
          go_ret
          exact ⟨by first | rfl | (simp; done) | (simp only [← hji5] <;> (first | rfl | simp)) | (simp [*]; done), by repeat (first | exact Drawn0.refl _ | apply Drawn0.step)⟩
        · rw [if_neg c7] at H
          exact absurd H (by simp)
      · rw [if_neg c6] at H
        exact absurd H (by simp)
end Go.Proofs.Ytnchdmidaigheaa.Hp
namespace Go.Proofs.Ytnchdmidaigheaa.Hp
open Go.RowKit Go.Proofs.YtnchdmidaigheaaW.PrintWords Go.Proofs.YtnchdmidaigheaaW.PrintLast Go.Proofs.YtnchdmidaigheaaW.PrintMore
attribute [local go_sem] max2_int min2_int max_two min_two max_three min_three max_four min_four   -- for this text's walks alone
set_option linter.unusedVariables false
set_option linter.unusedSimpArgs false
def page_Check.f (k i c b o l n : Int) : Option Int := some (if headMay k i c b o l n then 0 else 3)
theorem page_Check.within_calls (n a b : Int) (r : Bool) (w : World) (h : within n a b = r) : Calls Try.prog 121 #[.int .i64 n, .int .i64 a, .int .i64 b] w fun e w' => e = .returned (.bool r) ∧ Drawn0 w w' := by
  unfold within at h
  subst h
  by_cases h1 : a ≤ n <;> by_cases h2 : n ≤ b
  all_goals
    go_enter Try.func121, Try.ntmps121
    go_wp2
    go_ret
    exact ⟨by simp [h1, h2], Drawn0.refl _⟩
set_option maxHeartbeats 8000000 in
set_option maxRecDepth 100000 in
theorem page_Check.calls (a0_0 : Int) (a0_1 : Int) (a0_2 : Int) (a0_3 : Int) (a0_4 : Int) (a0_5 : Int) (a0_6 : Int) (r : Int) (w : World) (h : page_Check.f a0_0 a0_1 a0_2 a0_3 a0_4 a0_5 a0_6 = some r) :
    Calls Try.prog 109 #[.agg #[.int .i64 a0_0, .int .i64 a0_1, .int .i64 a0_2, .int .u64 a0_3, .int .u64 a0_4, .int .i64 a0_5, .int .i64 a0_6]] w fun e w' => e = .returned (.int .i64 r) ∧ Below w.heap.size w w' := by
  have h := Option.some.inj h
  by_cases h1 : within a0_0 1 5 = true
  case neg =>
    have h1 : within a0_0 1 5 = false := by simpa using h1
    have hm : headMay a0_0 a0_1 a0_2 a0_3 a0_4 a0_5 a0_6 = false := by unfold headMay; skip; simp [h1]
    rw [hm] at h
    simp only [Bool.false_eq_true, if_false] at h
    subst h
    have H1 := Aside0.mk h1
    clear hm h1
    go_enter Try.func109, Try.ntmps109
    go_wp2_with ((go_at_call 121); (first | (with_reducible refine (page_Check.within_calls a0_0 1 5 _ _ H1.out).mono ?_)); rintro e w' ⟨rfl, ⟨n, rfl⟩⟩)
    go_ret
    exact ⟨rfl, by repeat (first | exact Below.refl _ _ | apply below_alloc | apply pw_below_drewN | apply below_drew1)⟩
  by_cases h2 : within a0_2 1 16 = true
  case neg =>
    have h2 : within a0_2 1 16 = false := by simpa using h2
    have hm : headMay a0_0 a0_1 a0_2 a0_3 a0_4 a0_5 a0_6 = false := by unfold headMay; skip; simp [h1, h2]
    rw [hm] at h
    simp only [Bool.false_eq_true, if_false] at h
    subst h
    have H1 := Aside0.mk h1
    have H2 := Aside0.mk h2
    clear hm h1 h2
    go_enter Try.func109, Try.ntmps109
    go_wp2_with ((go_at_call 121); (first | (with_reducible refine (page_Check.within_calls a0_0 1 5 _ _ H1.out).mono ?_) | (with_reducible refine (page_Check.within_calls a0_2 1 16 _ _ H2.out).mono ?_)); rintro e w' ⟨rfl, ⟨n, rfl⟩⟩)
    go_ret
    exact ⟨rfl, by repeat (first | exact Below.refl _ _ | apply below_alloc | apply pw_below_drewN | apply below_drew1)⟩
  by_cases h3 : within a0_1 0 (wrap64 (a0_2 - 1)) = true
  case neg =>
    have h3 : within a0_1 0 (wrap64 (a0_2 - 1)) = false := by simpa using h3
    have hm : headMay a0_0 a0_1 a0_2 a0_3 a0_4 a0_5 a0_6 = false := by unfold headMay; skip; simp [h1, h2, h3]
    rw [hm] at h
    simp only [Bool.false_eq_true, if_false] at h
    subst h
    have H1 := Aside0.mk h1
    have H2 := Aside0.mk h2
    have H3 := Aside0.mk h3
    clear hm h1 h2 h3
    go_enter Try.func109, Try.ntmps109
    go_wp2_with ((go_at_call 121); (first | (with_reducible refine (page_Check.within_calls a0_0 1 5 _ _ H1.out).mono ?_) | (with_reducible refine (page_Check.within_calls a0_2 1 16 _ _ H2.out).mono ?_) | (with_reducible refine (page_Check.within_calls a0_1 0 (wrap64 (a0_2 - 1)) _ _ H3.out).mono ?_)); rintro e w' ⟨rfl, ⟨n, rfl⟩⟩)
    go_ret
    exact ⟨rfl, by repeat (first | exact Below.refl _ _ | apply below_alloc | apply pw_below_drewN | apply below_drew1)⟩
  by_cases h4 : decide (2147483648 ≤ a0_3) = false
  case neg =>
    have h4 : decide (2147483648 ≤ a0_3) = true := by simpa using h4
    have hm : headMay a0_0 a0_1 a0_2 a0_3 a0_4 a0_5 a0_6 = false := by unfold headMay; skip; simp [h1, h2, h3, h4, show ¬ (a0_3 < 2147483648) from by have := of_decide_eq_true h4; omega]
    rw [hm] at h
    simp only [Bool.false_eq_true, if_false] at h
    subst h
    have H1 := Aside0.mk h1
    have H2 := Aside0.mk h2
    have H3 := Aside0.mk h3
    clear hm h1 h2 h3
    go_enter Try.func109, Try.ntmps109
    go_wp2_with ((go_at_call 121); (first | (with_reducible refine (page_Check.within_calls a0_0 1 5 _ _ H1.out).mono ?_) | (with_reducible refine (page_Check.within_calls a0_2 1 16 _ _ H2.out).mono ?_) | (with_reducible refine (page_Check.within_calls a0_1 0 (wrap64 (a0_2 - 1)) _ _ H3.out).mono ?_)); rintro e w' ⟨rfl, ⟨n, rfl⟩⟩)
    go_ret
    exact ⟨rfl, by repeat (first | exact Below.refl _ _ | apply below_alloc | apply pw_below_drewN | apply below_drew1)⟩
  by_cases h5 : decide (2147483648 ≤ a0_4) = false
  case neg =>
    have h5 : decide (2147483648 ≤ a0_4) = true := by simpa using h5
    have hm : headMay a0_0 a0_1 a0_2 a0_3 a0_4 a0_5 a0_6 = false := by unfold headMay; skip; simp [h1, h2, h3, h4, h5, show ¬ (a0_4 < 2147483648) from by have := of_decide_eq_true h5; omega]
    rw [hm] at h
    simp only [Bool.false_eq_true, if_false] at h
    subst h
    have H1 := Aside0.mk h1
    have H2 := Aside0.mk h2
    have H3 := Aside0.mk h3
    clear hm h1 h2 h3
    go_enter Try.func109, Try.ntmps109
    go_wp2_with ((go_at_call 121); (first | (with_reducible refine (page_Check.within_calls a0_0 1 5 _ _ H1.out).mono ?_) | (with_reducible refine (page_Check.within_calls a0_2 1 16 _ _ H2.out).mono ?_) | (with_reducible refine (page_Check.within_calls a0_1 0 (wrap64 (a0_2 - 1)) _ _ H3.out).mono ?_)); rintro e w' ⟨rfl, ⟨n, rfl⟩⟩)
    go_ret
    exact ⟨rfl, by repeat (first | exact Below.refl _ _ | apply below_alloc | apply pw_below_drewN | apply below_drew1)⟩
  by_cases h6 : within a0_5 0 65535 = true
  case neg =>
    have h6 : within a0_5 0 65535 = false := by simpa using h6
    have hm : headMay a0_0 a0_1 a0_2 a0_3 a0_4 a0_5 a0_6 = false := by unfold headMay; skip; simp [h1, h2, h3, h4, h5, h6]
    rw [hm] at h
    simp only [Bool.false_eq_true, if_false] at h
    subst h
    have H1 := Aside0.mk h1
    have H2 := Aside0.mk h2
    have H3 := Aside0.mk h3
    have H6 := Aside0.mk h6
    clear hm h1 h2 h3 h6
    go_enter Try.func109, Try.ntmps109
    go_wp2_with ((go_at_call 121); (first | (with_reducible refine (page_Check.within_calls a0_0 1 5 _ _ H1.out).mono ?_) | (with_reducible refine (page_Check.within_calls a0_2 1 16 _ _ H2.out).mono ?_) | (with_reducible refine (page_Check.within_calls a0_1 0 (wrap64 (a0_2 - 1)) _ _ H3.out).mono ?_) | (with_reducible refine (page_Check.within_calls a0_5 0 65535 _ _ H6.out).mono ?_)); rintro e w' ⟨rfl, ⟨n, rfl⟩⟩)
    go_ret
    exact ⟨rfl, by repeat (first | exact Below.refl _ _ | apply below_alloc | apply pw_below_drewN | apply below_drew1)⟩
  by_cases h7 : within a0_6 0 228 = true
  case neg =>
    have h7 : within a0_6 0 228 = false := by simpa using h7
    have hm : headMay a0_0 a0_1 a0_2 a0_3 a0_4 a0_5 a0_6 = false := by unfold headMay; skip; simp [h1, h2, h3, h4, h5, h6, h7]
    rw [hm] at h
    simp only [Bool.false_eq_true, if_false] at h
    subst h
    have H1 := Aside0.mk h1
    have H2 := Aside0.mk h2
    have H3 := Aside0.mk h3
    have H6 := Aside0.mk h6
    have H7 := Aside0.mk h7
    clear hm h1 h2 h3 h6 h7
    go_enter Try.func109, Try.ntmps109
    go_wp2_with ((go_at_call 121); (first | (with_reducible refine (page_Check.within_calls a0_0 1 5 _ _ H1.out).mono ?_) | (with_reducible refine (page_Check.within_calls a0_2 1 16 _ _ H2.out).mono ?_) | (with_reducible refine (page_Check.within_calls a0_1 0 (wrap64 (a0_2 - 1)) _ _ H3.out).mono ?_) | (with_reducible refine (page_Check.within_calls a0_5 0 65535 _ _ H6.out).mono ?_) | (with_reducible refine (page_Check.within_calls a0_6 0 228 _ _ H7.out).mono ?_)); rintro e w' ⟨rfl, ⟨n, rfl⟩⟩)
    go_ret
    exact ⟨rfl, by repeat (first | exact Below.refl _ _ | apply below_alloc | apply pw_below_drewN | apply below_drew1)⟩
  have hm : headMay a0_0 a0_1 a0_2 a0_3 a0_4 a0_5 a0_6 = true := by unfold headMay; simp [h1, h2, h3, h6, h7, show a0_3 < 2147483648 from by have := of_decide_eq_false h4; omega, show a0_4 < 2147483648 from by have := of_decide_eq_false h5; omega]
  rw [hm] at h
  simp only [if_true] at h
  subst h
  have H1 := Aside0.mk h1
  have H2 := Aside0.mk h2
  have H3 := Aside0.mk h3
  have H6 := Aside0.mk h6
  have H7 := Aside0.mk h7
  clear hm h1 h2 h3 h6 h7
  go_enter Try.func109, Try.ntmps109
  go_wp2_with ((go_at_call 121); (first | (with_reducible refine (page_Check.within_calls a0_0 1 5 _ _ H1.out).mono ?_) | (with_reducible refine (page_Check.within_calls a0_2 1 16 _ _ H2.out).mono ?_) | (with_reducible refine (page_Check.within_calls a0_1 0 (wrap64 (a0_2 - 1)) _ _ H3.out).mono ?_) | (with_reducible refine (page_Check.within_calls a0_5 0 65535 _ _ H6.out).mono ?_) | (with_reducible refine (page_Check.within_calls a0_6 0 228 _ _ H7.out).mono ?_)); rintro e w' ⟨rfl, ⟨n, rfl⟩⟩)
  go_ret
  exact ⟨rfl, by repeat (first | exact Below.refl _ _ | apply below_alloc | apply pw_below_drewN | apply below_drew1)⟩
end Go.Proofs.Ytnchdmidaigheaa.Hp
namespace Go.Proofs.Ytnchdmidaigheaa.Hp
open Go.RowKit Go.Proofs.YtnchdmidaigheaaW.PrintWords Go.Proofs.YtnchdmidaigheaaW.PrintLast Go.Proofs.YtnchdmidaigheaaW.PrintMore
attribute [local go_sem] max2_int min2_int max_two min_two max_three min_three max_four min_four   -- for this text's walks alone
set_option linter.unusedVariables false
set_option linter.unusedSimpArgs false
theorem put_loop (n : Int) (h0 : 0 ≤ n) (h1 : n < 18446744073709551616) (w : Nat) : ∀ (k : Nat) (out : List Int), out.length + w ≤ 2000000 → w ≤ 8 → w < k → be_Put.l0 k n out ((w : Int) - 1) = some (out ++ beBytes w n) := by
  induction w with
  | zero =>
    intro k out ho hw hk
    obtain ⟨k, rfl⟩ : ∃ m, k = m + 1 := ⟨k - 1, by omega⟩
    simp only [be_Put.l0]
    rw [if_neg (by omega)]
    simp [beBytes]
  | succ w ih =>
    intro k out ho hw hk
    obtain ⟨k, rfl⟩ : ∃ m, k = m + 1 := ⟨k - 1, by omega⟩
    simp only [be_Put.l0]
    have e1 : wrap64 (8 * (((w + 1 : Nat) : Int) - 1)) = 8 * (w : Int) := by unfold wrap64; omega
    have e2 : wrap64 ((((w + 1 : Nat) : Int) - 1) - 1) = (w : Int) - 1 := by unfold wrap64; omega
    rw [if_pos (by omega), e1, if_pos (by omega), if_pos (by omega), e2, shr_byte n h0 h1 w (by omega), ih k _ (by rw [List.length_append]; simp; omega) (by omega) (by omega), beBytes_succ]
    simp
theorem put_is (l : List Int) (w n : Int) (hl : l.length ≤ 1000000) (h0 : 0 ≤ n) (h1 : n < 18446744073709551616) : be_Put.f 10 l w n = some (l ++ beBytes (wid w) n) := by
  unfold be_Put.f be_width.f
  have e : mn (mx w 0) 8 = ((wid w : Nat) : Int) := by unfold wid mn mx; (repeat' split) <;> omega
  have e1 : wrap64 (((wid w : Nat) : Int) - 1) = ((wid w : Nat) : Int) - 1 := by have := wid_le w; unfold wrap64; omega
  have e2 : ([] : List Int).length + l.length < 140737488355328 := by simp; omega
  rw [if_pos e2]
  simp only [Option.bind_some]
  rw [e, e1, put_loop n h0 h1 (wid w) 10 _ (by have := wid_le w; simp; omega) (wid_le w) (by have := wid_le w; omega)]
  simp
set_option maxHeartbeats 1000000 in
theorem lay_calls (wv n : Int) (g : Nat) (v : Value) (xs : List Int) (w0 W : World) (hg : W.heap[g]? = some (.cells #[v] 38 (0, 0))) (hR : Kd.R (Kd.int .u8) 5 W w0.heap.size (fun _ => True) v xs) (hB : Below w0.heap.size w0 W) (hgb : w0.heap.size ≤ g)
    (hlen : xs.length ≤ 100000) (hn : 0 ≤ n ∧ n < 18446744073709551616) (hwv : 0 ≤ wv) (hw8 : wv ≤ 8) :
    Calls Try.prog 122 #[.int .u64 wv, .int .u64 n, .pointer (some ⟨g, 0, none⟩)] W fun e W' => e = .returned (.tuple #[]) ∧ ∃ v', W'.heap[g]? = some (.cells #[v'] 38 (0, 0)) ∧ Kd.R (Kd.int .u8) 5 W' w0.heap.size (fun _ => True) v' (xs ++ beBytes (wid wv) n) ∧ Below w0.heap.size w0 W' := by
  obtain ⟨A, c, rfl, hc, hC⟩ := Kd.R_reads hR
  have hcell : W.cell? ⟨g, 0, none⟩ = some (.slice A xs.length c) := by simp [World.cell?, hg]
  have hput := put_is xs wv n (by omega) hn.1 hn.2
  generalize xs ++ beBytes (wid wv) n = ys at hput ⊢
  have HP := Aside0.mk hput
  clear hput
  have HC := Aside0.mk hC
  have Hc := Aside0.mk hc
  have HG := Aside0.mk hg
  have HB := Aside0.mk hB
  have Hgb := Aside0.mk hgb
  clear hg hR hC hc hB hgb hlen hn
  go_enter Try.func122, Try.ntmps122
  go_wp2_with fail
  refine (be_Put.calls 10 A c xs wv n _ W HC.out Hc.out HP.out).mono ?_
  rintro e W1 ⟨v1, rfl, ho, hb⟩
  obtain ⟨A1, c1, hv1⟩ := Kd.R_slice ho
  have hglt : g < W.heap.size := by
    have := HG.out
    exact (Array.getElem?_eq_some_iff.1 this).1
  have hg1 : W1.heap[g]? = some (.cells #[.slice A xs.length c] 38 (0, 0)) := (hb.block g hglt).trans HG.out
  have hcell1 : W1.cell? ⟨g, 0, none⟩ = some (.slice A xs.length c) := by simp [World.cell?, hg1]
  have hfr1 : W1.frozen? ⟨g, 0, none⟩ = false := by simp [World.frozen?, hg1]
  have ho2 := Kd.R_lower ho HB.out.size
  have HF := Aside0.mk (show ∃ v', (W1.setCell ⟨g, 0, none⟩ v1).heap[g]? = some (.cells #[v'] 38 (0, 0)) ∧ Kd.R (Kd.int .u8) 5 (W1.setCell ⟨g, 0, none⟩ v1) w0.heap.size (fun _ => True) v' ys ∧ Below w0.heap.size w0 (W1.setCell ⟨g, 0, none⟩ v1) from
    ⟨v1, by simpa using blk_set hg1 0 v1, Kd.R_set ho2 hg1 (by decide) 0 v1, (below_then HB.out HB.out.size hb).setCell Hgb.out _⟩)
  clear ho hb hg1 ho2
  subst hv1
  go_wp2
  go_end0
  exact ⟨rfl, HF.out⟩
def be_Row.f (l : List Int) : Option (List Int) := if l.length ≤ 1000 ∧ rowOk l then some (beRow l) else none
set_option maxHeartbeats 8000000 in
set_option maxRecDepth 100000 in
theorem be_Row.calls (A0 : Option Addr) (c0 : Nat) (l0 : List Int) (r : List Int) (w : World) (hr0 : Kd.C (Kd.int .u64) w A0 l0.length l0) (hc0 : l0.length ≤ c0) (h : be_Row.f l0 = some r) :
    Calls Try.prog 110 #[.slice A0 l0.length c0] w fun e w' => ∃ v0_ : Value, e = .returned (v0_) ∧ Kd.R (Kd.int .u8) 5 w' w.heap.size (fun _ => True) v0_ r ∧ Below w.heap.size w w' := by
  unfold be_Row.f at h
  by_cases hb : l0.length ≤ 1000 ∧ rowOk l0
  case neg => rw [if_neg hb] at h; cases h
  rw [if_pos hb] at h
  obtain rfl := Option.some.inj h
  obtain ⟨hl, hok⟩ := hb
  have HR0 := Aside0.mk hr0
  have HL := Aside0.mk hl
  have HK := Aside0.mk hok
  clear h hr0 hc0 hl hok
  have hmf : ∀ (fn : Fn) (first cap : Array Value) (w : World), (Instr.makeFunc fn first cap).run Try.prog w = .ok (.func fn first cap) w := fun _ _ _ _ => rfl
  go_enter Try.func110, Try.ntmps110
  go_wp2
  go_loopg [5] (l0.length + 1) (fun kq v5 w' => ∃ (i j : Nat) (v : Value), v5 = .int .i64 (i : Int) ∧ Aside0 (i = 2 * j) ∧ Aside0 (i ≤ l0.length) ∧ Aside0 (kq + j = l0.length + 1) ∧ Aside0 (w'.heap[w.heap.size]? = some (.cells #[v] 38 (0, 0))) ∧ Aside0 (Kd.R (Kd.int .u8) 5 w' w.heap.size (fun _ => True) v (beRow (l0.take i))) ∧ Aside0 (Below w.heap.size w w'))
  case atStart => exact ⟨0, 0, .slice none 0 0, rfl, ⟨rfl⟩, ⟨by omega⟩, ⟨by omega⟩, ⟨heap_alloc_new w _⟩, ⟨Kd.R_nil _ _ _ _ _⟩, ⟨by repeat (first | exact Below.refl _ _ | apply below_alloc | apply pw_below_drewN | apply below_drew1)⟩⟩
  case round =>
    obtain ⟨i, j, v, rfl, HI, HJ, HQ, HG, HO, HB⟩ := hrel
    have hwr : wrap64 ((i : Int) + 1) = (i : Int) + 1 := by have := HL.out; have := HJ.out; unfold wrap64; omega
    have hwr2 : wrap64 ((i : Int) + 2) = (i : Int) + 2 := by have := HL.out; have := HJ.out; unfold wrap64; omega
    by_cases hj : i + 1 < l0.length
    · have t1 : decide ((i : Int) + 1 < (l0.length : Int)) = true := decide_eq_true (by omega)
      have p1 : 0 ≤ (i : Int) := by omega
      have q1 : (i : Int) < (l0.length : Int) := by omega
      have p2 : 0 ≤ (i : Int) + 1 := by omega
      have q2 : (i : Int) + 1 < (l0.length : Int) := by omega
      obtain ⟨ad, ead, hx⟩ := Kd.at_int HR0.out (i : Int) p1 q1
      cases ead
      obtain ⟨ad2, ead2, hy⟩ := Kd.at_int HR0.out ((i : Int) + 1) p2 q2
      cases ead2
      rw [Int.toNat_natCast] at hx
      replace hx := (HB.out.cell (World.block_lt_of_cell? w _ hx)).trans hx
      replace hy := (HB.out.cell (World.block_lt_of_cell? w _ hy)).trans hy
      have hy2 : wr.cell? (ad.add (i + 1)) = some (.int .u64 (rd l0 ((i : Int) + 1))) := by rw [← hy]; congr 2
      go_wp2
      refine region_still_tail_w 10 (by kernel_rfl) (by kernel_rfl) (fun w2 hw2 => ?_)
      have hx3 : w2.cell? (ad.add i) = some (.int .u64 (rd l0 (i : Int))) := by rw [hw2]; exact hx
      have hy3 : w2.cell? (ad.add (i + 1)) = some (.int .u64 (rd l0 ((i : Int) + 1))) := by rw [hw2]; exact hy2
      have HG2 := Aside0.mk (show w2.heap[w.heap.size]? = some (.cells #[v] 38 (0, 0)) by rw [hw2]; exact HG.out)
      have HO2 := Aside0.mk (show Kd.R (Kd.int .u8) 5 w2 w.heap.size (fun _ => True) v (beRow (l0.take i)) by rw [hw2]; exact Kd.R_drew HO.out)
      have HB2 := Aside0.mk (show Below w.heap.size w w2 by rw [hw2]; exact below_drew HB.out)
      have hy4 : w2.cell? ⟨ad.block, ad.off + (i + 1), none⟩ = some (.int .u64 (rd l0 ((i : Int) + 1))) := by rw [← hy3]; simp [Addr.add]
      clear hx hy hy2 hw2 HG HO HB
      have hwk : IntKind.i64.wrap ((i : Int) + 1) = (i : Int) + 1 := (i64_w _).trans hwr
      simp only [List.take_succ_cons, List.take_zero, List.drop_succ_cons, List.drop_zero]
      repeat still_step
      refine wpStill_nil ?_
      have hk1 := HK.out.2 i (by omega)
      have hk2 := HK.out.2 (i + 1) (by omega)
      have hrow : (beRow (l0.take i)).length ≤ 100000 := by have := beRow_len (l0.take i); have := HL.out; rw [List.length_take] at *; omega
      have hr1 : rd l0 (i : Int) = l0.getD i 0 := by unfold rd; rw [Int.toNat_natCast]
      have hr2 : rd l0 ((i : Int) + 1) = l0.getD (i + 1) 0 := by unfold rd; congr 1
      have HN := Aside0.mk (show beRow (l0.take (i + 2)) = beRow (l0.take i) ++ beBytes (wid (rd l0 (i : Int))) (rd l0 ((i : Int) + 1)) by
        have h1 := HI.out
        have h2 := beRow_take l0 j (by omega)
        rw [hr1, hr2, show i + 2 = 2 * (j + 1) by omega, h1, h2]
        have h3 := hk1.2.2 (by omega)
        rw [h1] at h3
        congr 2
        unfold mn
        rw [if_neg (by omega)])
      have HC := Aside0.mk (lay_calls (rd l0 (i : Int)) (rd l0 ((i : Int) + 1)) w.heap.size v (beRow (l0.take i)) w w2 HG2.out HO2.out HB2.out (Nat.le_refl _) hrow (by rw [hr2]; exact ⟨hk2.1, hk2.2.1⟩) (by rw [hr1]; exact hk1.1) (by rw [hr1]; exact hk1.2.2 (by have := HI.out; omega)))
      clear hk1 hk2 hr1 hr2 hrow HG2 HO2 HB2
      go_wp2_with fail
      refine HC.out.mono ?_
      rintro e W' ⟨rfl, v', hg', ho', hb'⟩
      rw [← HN.out] at ho'
      have HG3 := Aside0.mk hg'
      have HO3 := Aside0.mk ho'
      have HB3 := Aside0.mk hb'
      clear hg' ho' hb' HC hy4
      go_wp2
      go_roundg (l0.length - j)
      case measure => have := HQ.out; have := HI.out; have := HJ.out; omega
      case rel => exact ⟨i + 2, j + 1, v', by first | rfl | (simp; done) | (congr 1; done) | (congr 1; omega), ⟨by have := HI.out; omega⟩, ⟨by omega⟩, ⟨by have := HI.out; have := HJ.out; omega⟩, HG3, HO3, HB3⟩
    · have t1 : decide ((i : Int) + 1 < (l0.length : Int)) = false := decide_eq_false (by omega)
      obtain ⟨A1, c1, hv1⟩ := Kd.R_slice HO.out
      have hcell : wr.cell? ⟨w.heap.size, 0, none⟩ = some v := by have := HG.out; simp [World.cell?, this]
      have HE := Aside0.mk (show Kd.R (Kd.int .u8) 5 wr w.heap.size (fun _ => True) v (beRow l0) by
        have h1 := HI.out
        have h2 := HJ.out
        have h3 := HK.out.1
        have h4 := HO.out
        rwa [show i = l0.length by omega, List.take_length] at h4)
      subst hv1
      clear HO
      go_wp2
      go_ret
      exact ⟨_, rfl, HE.out, HB.out⟩
end Go.Proofs.Ytnchdmidaigheaa.Hp
namespace Go.Proofs.Ytnchdmidaigheaa.Hp
open Go.RowKit Go.Proofs.YtnchdmidaigheaaW.PrintWords Go.Proofs.YtnchdmidaigheaaW.PrintLast Go.Proofs.YtnchdmidaigheaaW.PrintMore
attribute [local go_sem] max2_int min2_int max_two min_two max_three min_three max_four min_four   -- for this text's walks alone
set_option linter.unusedVariables false
set_option linter.unusedSimpArgs false
def page_Put.j0 : Nat → ByteArray → Bool → Int → Int → Int → Int → Int → Int → Int → Option (List Int × Int)
  | 0, _, _, _, _, _, _, _, _, _ => none
  | k + 1, x1, x16, x286000, x286001, x286002, x286003, x286004, x286005, x286006 => if x16 = true then (some (([] : List Int), 3)) else ((be_Row.f (([1, IntKind.u64.wrap (x286000), 1, IntKind.u64.wrap (x286001), 1, IntKind.u64.wrap (x286002), 1, 0, 8, x286003, 8, x286004, 2, IntKind.u64.wrap (x286005), 2, IntKind.u64.wrap (x286006)] : List Int))).bind fun t290 => (if t290.length + x1.size < 140737488355328 then ((some (t290 ++ bytesOf x1 : List Int)).bind fun y293 => ((zeros_Ones.f k (wrap64 (252 - (y293.length : Int)))).bind fun t296 => (if y293.length + t296.length < 140737488355328 then ((page_Seal.f k (y293 ++ t296)).bind fun t302 => (some (t302, 0))) else (none)))) else (none)))
def page_Put.f (k : Nat) (a0_0 : Int) (a0_1 : Int) (a0_2 : Int) (a0_3 : Int) (a0_4 : Int) (a0_5 : Int) (a0_6 : Int) (a1 : ByteArray) : Option (List Int × Int) := (page_Check.f a0_0 a0_1 a0_2 a0_3 a0_4 a0_5 a0_6).bind fun t286 => (if t286 = 0 then (page_Put.j0 k a1 ((a1.size : Int) != a0_6) a0_0 a0_1 a0_2 a0_3 a0_4 a0_5 a0_6) else (page_Put.j0 k a1 true a0_0 a0_1 a0_2 a0_3 a0_4 a0_5 a0_6))
theorem page_Put.mono_l : ∀ k, (∀ y0 y1 y2 y3 y4 y5 y6 y7 y8, LeO (page_Put.j0 k y0 y1 y2 y3 y4 y5 y6 y7 y8) (page_Put.j0 (k + 1) y0 y1 y2 y3 y4 y5 y6 y7 y8))
  | 0 => fun _ _ _ _ _ _ _ _ _ r h => by simp [page_Put.j0] at h
  | k + 1 => by
    have ih0 := page_Put.mono_l k
    · intro y0 y1 y2 y3 y4 y5 y6 y7 y8
      unfold page_Put.j0
      repeat' first
      | (with_reducible exact ih0 _ _ _ _ _ _ _ _ _)
      | (with_reducible exact page_Seal.mono _ _)
      | (with_reducible exact zeros_Ones.mono _ _)
      | (with_reducible exact LeO.refl _)
      | (with_reducible exact LeO.none _)
      | (with_reducible refine LeO.ite ?_ ?_)
      | (with_reducible refine LeO.bind ?_ (fun _ => ?_))
      | exact ih0 _ _ _ _ _ _ _ _ _
      | exact page_Seal.mono _ _
      | exact zeros_Ones.mono _ _
      | exact LeO.none _
      | refine LeO.ite ?_ ?_
      | refine LeO.bind ?_ (fun _ => ?_)
theorem page_Put.mono : ∀ a0 a1 a2 a3 a4 a5 a6 a7 k, LeO (page_Put.f k a0 a1 a2 a3 a4 a5 a6 a7) (page_Put.f (k + 1) a0 a1 a2 a3 a4 a5 a6 a7) := by
  intro a0 a1 a2 a3 a4 a5 a6 a7 k
  have ih0 := page_Put.mono_l k
  unfold page_Put.f
  repeat' first
      | (with_reducible exact ih0 _ _ _ _ _ _ _ _ _)
      | (with_reducible exact page_Seal.mono _ _)
      | (with_reducible exact zeros_Ones.mono _ _)
      | (with_reducible exact LeO.refl _)
      | (with_reducible exact LeO.none _)
      | (with_reducible refine LeO.ite ?_ ?_)
      | (with_reducible refine LeO.bind ?_ (fun _ => ?_))
      | exact ih0 _ _ _ _ _ _ _ _ _
      | exact page_Seal.mono _ _
      | exact zeros_Ones.mono _ _
      | exact LeO.none _
      | refine LeO.ite ?_ ?_
      | refine LeO.bind ?_ (fun _ => ?_)
set_option maxHeartbeats 8000000 in
set_option maxRecDepth 100000 in
theorem page_Put.calls (k : Nat) (a0_0 : Int) (a0_1 : Int) (a0_2 : Int) (a0_3 : Int) (a0_4 : Int) (a0_5 : Int) (a0_6 : Int) (a1 : ByteArray) (r1 : List Int) (r2 : Int) (w : World) (h : page_Put.f k a0_0 a0_1 a0_2 a0_3 a0_4 a0_5 a0_6 a1 = some (r1, r2)) :
    Calls Try.prog 88 #[.agg #[.int .i64 a0_0, .int .i64 a0_1, .int .i64 a0_2, .int .u64 a0_3, .int .u64 a0_4, .int .i64 a0_5, .int .i64 a0_6], .string a1] w fun e w' => ∃ v0_ : Value, e = .returned (.tuple #[v0_, .int .i64 r2]) ∧ Kd.R (Kd.int .u8) 5 w' w.heap.size (fun _ => True) v0_ r1 ∧ Below w.heap.size w w' := by
  have hu82 := Try.underlying82
  have HB := Aside0.mk (Below.refl w.heap.size w)
  have H : ((page_Check.f a0_0 a0_1 a0_2 a0_3 a0_4 a0_5 a0_6).bind fun t286 => (if t286 = 0 then (page_Put.j0 k a1 ((a1.size : Int) != a0_6) a0_0 a0_1 a0_2 a0_3 a0_4 a0_5 a0_6) else (page_Put.j0 k a1 true a0_0 a0_1 a0_2 a0_3 a0_4 a0_5 a0_6))) = some (r1, r2) := h
  clear h
  have HC3 := Aside0.mk H
  clear H
  go_enter Try.func88, Try.ntmps88
  go_upto_region 1 with (first | ((with_reducible refine gate_dst (N := 2) rfl ?_); (try (refine gate_guard (by rfl) ?_; dsimp only)); refine box_event ?hg (N := 2) ?hd (cs := #[.int .i64 a0_0, .int .i64 a0_1, .int .i64 a0_2, .int .u64 a0_3, .int .u64 a0_4, .int .i64 a0_5, .int .i64 a0_6]) (t := 82) ?hr ?_; (case hd => rfl); (case hg => rfl); (case hr => first | (go_simp; done) | (go_simp; rfl)); intro gb285 hg w4 hbox hb; have n0_ := Aside0.mk (below_step (by repeat (first | (with_reducible first | exact HB.out | apply below_alloc | apply pw_below_drewN | apply below_drew1) | exact HB.out)) hb); have n1_ := Aside0.mk (hbox); have n2_ := Aside0.mk ((by rw [hg]; exact (below_size (by repeat (first | (with_reducible first | exact HB.out | apply below_alloc | apply pw_below_drewN | apply below_drew1) | exact HB.out))) : w.heap.size ≤ gb285)); have n3_ := Aside0.mk ((by rw [hg]; exact (below_size (by repeat (first | (with_reducible first | exact HB.out | apply below_alloc | apply pw_below_drewN | apply below_drew1) | exact HB.out))) : w.heap.size ≤ gb285)); clear HB; have HB := n0_; have BK285 := n1_; have GW285 := n2_; have GE285 := n3_; clear n0_ n1_ n2_ n3_; clear hb hbox hg))
  (try simp only [Act.put, List.setIfInBounds_toArray, List.set_cons_zero, List.set_cons_succ])
  go_cut [16] (fun v16 wc => ∃ (kq : Nat) (x16_2 : Bool), v16 = .bool x16_2 ∧ Aside0 (page_Put.j0 kq a1 x16_2 a0_0 a0_1 a0_2 a0_3 a0_4 a0_5 a0_6 = some (r1, r2)) ∧ Aside0 (kq ≤ k) ∧ Aside0 (wc.heap[gb285]? = some (.cells #[.int .i64 a0_0, .int .i64 a0_1, .int .i64 a0_2, .int .u64 a0_3, .int .u64 a0_4, .int .i64 a0_5, .int .i64 a0_6] 82 (0, 0))) ∧ Aside0 (Below w.heap.size w wc))
  case first =>
    have H := HC3.out
    clear HC3
    replace H := Option.bind_eq_some_iff.mp H
    obtain ⟨t286, A50, H⟩ := H
    replace H : (if t286 = 0 then (page_Put.j0 k a1 ((a1.size : Int) != a0_6) a0_0 a0_1 a0_2 a0_3 a0_4 a0_5 a0_6) else (page_Put.j0 k a1 true a0_0 a0_1 a0_2 a0_3 a0_4 a0_5 a0_6)) = some (r1, r2) := H
    have A5 := Aside0.mk A50
    clear A50
    by_cases c6 : t286 = 0
    · rw [if_pos c6] at H
      have c6b0 : (t286 == 0) = true := beq_iff_eq.mpr c6
      have c6b1 : (t286 != 0) = false := bne_eq_false_iff_eq.mpr c6
      clear c6
      (first | rw [c6b0] | (simp only [i64_w, i32_w]; rw [c6b0]) | skip)
      have H' := Aside0.mk H
      clear H
      have hcz7_0 : w4.cell? ⟨gb285, 0, none⟩ = some (.int .i64 a0_0) := (blk_cell BK285.out 0).trans rfl
      have hcz7_1 : w4.cell? ⟨gb285, 1, none⟩ = some (.int .i64 a0_1) := (blk_cell BK285.out 1).trans rfl
      have hcz7_2 : w4.cell? ⟨gb285, 2, none⟩ = some (.int .i64 a0_2) := (blk_cell BK285.out 2).trans rfl
      have hcz7_3 : w4.cell? ⟨gb285, 3, none⟩ = some (.int .u64 a0_3) := (blk_cell BK285.out 3).trans rfl
      have hcz7_4 : w4.cell? ⟨gb285, 4, none⟩ = some (.int .u64 a0_4) := (blk_cell BK285.out 4).trans rfl
      have hcz7_5 : w4.cell? ⟨gb285, 5, none⟩ = some (.int .i64 a0_5) := (blk_cell BK285.out 5).trans rfl
      have hcz7_6 : w4.cell? ⟨gb285, 6, none⟩ = some (.int .i64 a0_6) := (blk_cell BK285.out 6).trans rfl
      have hfz7_0 := blk_frozen BK285.out 0
      have hfz7_1 := blk_frozen BK285.out 1
      have hfz7_2 := blk_frozen BK285.out 2
      have hfz7_3 := blk_frozen BK285.out 3
      have hfz7_4 := blk_frozen BK285.out 4
      have hfz7_5 := blk_frozen BK285.out 5
      have hfz7_6 := blk_frozen BK285.out 6
      go_wp2_with (first | ((with_reducible refine gate_callee (f := 109) rfl ?_); refine goesL_ (some 8) rfl rfl Try.func109 (by kernel_rfl) rfl #[.agg #[.int .i64 a0_0, .int .i64 a0_1, .int .i64 a0_2, .int .u64 a0_3, .int .u64 a0_4, .int .i64 a0_5, .int .i64 a0_6]] rfl (by (try simp only [List.map_toArray, List.map_cons, List.map_nil]); first | done | rfl | (simp only [List.length_drop, List.length_take]; rfl)) ?_; (with_reducible refine (page_Check.calls a0_0 a0_1 a0_2 a0_3 a0_4 a0_5 a0_6 t286 _ A5.out).mono ?_); rintro e w8 ⟨rfl, hb⟩; refine ⟨_, rfl, ?_⟩; have n0_ := Aside0.mk (blk_below (g := gb285) (o := .cells #[.int .i64 a0_0, .int .i64 a0_1, .int .i64 a0_2, .int .u64 a0_3, .int .u64 a0_4, .int .i64 a0_5, .int .i64 a0_6] 82 (0, 0)) (by (with_reducible repeat (first | refine blk_drewN ?_ _ | refine blk_drew ?_ | refine blk_alloc ?_ _)); exact BK285.out) hb); have n1_ := Aside0.mk (below_step (by repeat (first | (with_reducible first | exact HB.out | apply below_alloc | apply pw_below_drewN | apply below_drew1 | refine below_set ?_ GE285.out) | exact HB.out)) hb); clear BK285; clear HB; have BK285 := n0_; have HB := n1_; clear n0_ n1_; (try clear hb); (try clear hb2); (try clear hk); (try clear hi); have hcz9_0 : w8.cell? ⟨gb285, 0, none⟩ = some (.int .i64 a0_0) := (blk_cell BK285.out 0).trans rfl; have hcz9_1 : w8.cell? ⟨gb285, 1, none⟩ = some (.int .i64 a0_1) := (blk_cell BK285.out 1).trans rfl; have hcz9_2 : w8.cell? ⟨gb285, 2, none⟩ = some (.int .i64 a0_2) := (blk_cell BK285.out 2).trans rfl; have hcz9_3 : w8.cell? ⟨gb285, 3, none⟩ = some (.int .u64 a0_3) := (blk_cell BK285.out 3).trans rfl; have hcz9_4 : w8.cell? ⟨gb285, 4, none⟩ = some (.int .u64 a0_4) := (blk_cell BK285.out 4).trans rfl; have hcz9_5 : w8.cell? ⟨gb285, 5, none⟩ = some (.int .i64 a0_5) := (blk_cell BK285.out 5).trans rfl; have hcz9_6 : w8.cell? ⟨gb285, 6, none⟩ = some (.int .i64 a0_6) := (blk_cell BK285.out 6).trans rfl; have hfz9_0 := blk_frozen BK285.out 0; have hfz9_1 := blk_frozen BK285.out 1; have hfz9_2 := blk_frozen BK285.out 2; have hfz9_3 := blk_frozen BK285.out 3; have hfz9_4 := blk_frozen BK285.out 4; have hfz9_5 := blk_frozen BK285.out 5; have hfz9_6 := blk_frozen BK285.out 6))
      go_meet
      case rel => exact ⟨_, (((a1.size : Int) != a0_6)), (by first | rfl | (simp; done) | (simp [*]; done)), H', ⟨by first | omega | exact Nat.le_refl _⟩, ⟨by (with_reducible repeat (first | refine blk_drewN ?_ _ | refine blk_drew ?_ | refine blk_alloc ?_ _)); exact BK285.out⟩, ⟨by repeat (first | (with_reducible first | exact HB.out | apply below_alloc | apply pw_below_drewN | apply below_drew1 | refine below_set ?_ GE285.out) | exact HB.out)⟩⟩
    · rw [if_neg c6] at H
      have c6b0 : (t286 == 0) = false := beq_eq_false_iff_ne.mpr c6
      have c6b1 : (t286 != 0) = true := bne_iff_ne.mpr c6
      (first | rw [c6b0] | (simp only [i64_w, i32_w]; rw [c6b0]) | skip)
      have H' := Aside0.mk H
      clear H
      have hcz10_0 : w4.cell? ⟨gb285, 0, none⟩ = some (.int .i64 a0_0) := (blk_cell BK285.out 0).trans rfl
      have hcz10_1 : w4.cell? ⟨gb285, 1, none⟩ = some (.int .i64 a0_1) := (blk_cell BK285.out 1).trans rfl
      have hcz10_2 : w4.cell? ⟨gb285, 2, none⟩ = some (.int .i64 a0_2) := (blk_cell BK285.out 2).trans rfl
      have hcz10_3 : w4.cell? ⟨gb285, 3, none⟩ = some (.int .u64 a0_3) := (blk_cell BK285.out 3).trans rfl
      have hcz10_4 : w4.cell? ⟨gb285, 4, none⟩ = some (.int .u64 a0_4) := (blk_cell BK285.out 4).trans rfl
      have hcz10_5 : w4.cell? ⟨gb285, 5, none⟩ = some (.int .i64 a0_5) := (blk_cell BK285.out 5).trans rfl
      have hcz10_6 : w4.cell? ⟨gb285, 6, none⟩ = some (.int .i64 a0_6) := (blk_cell BK285.out 6).trans rfl
      have hfz10_0 := blk_frozen BK285.out 0
      have hfz10_1 := blk_frozen BK285.out 1
      have hfz10_2 := blk_frozen BK285.out 2
      have hfz10_3 := blk_frozen BK285.out 3
      have hfz10_4 := blk_frozen BK285.out 4
      have hfz10_5 := blk_frozen BK285.out 5
      have hfz10_6 := blk_frozen BK285.out 6
      go_wp2_with (first | ((with_reducible refine gate_callee (f := 109) rfl ?_); refine goesL_ (some 8) rfl rfl Try.func109 (by kernel_rfl) rfl #[.agg #[.int .i64 a0_0, .int .i64 a0_1, .int .i64 a0_2, .int .u64 a0_3, .int .u64 a0_4, .int .i64 a0_5, .int .i64 a0_6]] rfl (by (try simp only [List.map_toArray, List.map_cons, List.map_nil]); first | done | rfl | (simp only [List.length_drop, List.length_take]; rfl)) ?_; (with_reducible refine (page_Check.calls a0_0 a0_1 a0_2 a0_3 a0_4 a0_5 a0_6 t286 _ A5.out).mono ?_); rintro e w11 ⟨rfl, hb⟩; refine ⟨_, rfl, ?_⟩; have n0_ := Aside0.mk (blk_below (g := gb285) (o := .cells #[.int .i64 a0_0, .int .i64 a0_1, .int .i64 a0_2, .int .u64 a0_3, .int .u64 a0_4, .int .i64 a0_5, .int .i64 a0_6] 82 (0, 0)) (by (with_reducible repeat (first | refine blk_drewN ?_ _ | refine blk_drew ?_ | refine blk_alloc ?_ _)); exact BK285.out) hb); have n1_ := Aside0.mk (below_step (by repeat (first | (with_reducible first | exact HB.out | apply below_alloc | apply pw_below_drewN | apply below_drew1 | refine below_set ?_ GE285.out) | exact HB.out)) hb); clear BK285; clear HB; have BK285 := n0_; have HB := n1_; clear n0_ n1_; (try clear hb); (try clear hb2); (try clear hk); (try clear hi)))
      go_meet
      case rel => exact ⟨_, (true), (by first | rfl | (simp; done) | (simp [*]; done)), H', ⟨by first | omega | exact Nat.le_refl _⟩, ⟨by (with_reducible repeat (first | refine blk_drewN ?_ _ | refine blk_drew ?_ | refine blk_alloc ?_ _)); exact BK285.out⟩, ⟨by repeat (first | (with_reducible first | exact HB.out | apply below_alloc | apply pw_below_drewN | apply below_drew1 | refine below_set ?_ GE285.out) | exact HB.out)⟩⟩
  case rest =>
    clear HC3
    try clear c1
    try clear p2
    try clear c6
    try clear c6b0
    try clear c6b1
    try clear c8
    try clear c10
    try clear hcz10_0
    try clear hcz10_1
    try clear hcz10_2
    try clear hcz10_3
    try clear hcz10_4
    try clear hcz10_5
    try clear hcz10_6
    try clear hcz7_0
    try clear hcz7_1
    try clear hcz7_2
    try clear hcz7_3
    try clear hcz7_4
    try clear hcz7_5
    try clear hcz7_6
    try clear hcz9_0
    try clear hcz9_1
    try clear hcz9_2
    try clear hcz9_3
    try clear hcz9_4
    try clear hcz9_5
    try clear hcz9_6
    try clear hfz10_0
    try clear hfz10_1
    try clear hfz10_2
    try clear hfz10_3
    try clear hfz10_4
    try clear hfz10_5
    try clear hfz10_6
    try clear hfz7_0
    try clear hfz7_1
    try clear hfz7_2
    try clear hfz7_3
    try clear hfz7_4
    try clear hfz7_5
    try clear hfz7_6
    try clear hfz9_0
    try clear hfz9_1
    try clear hfz9_2
    try clear hfz9_3
    try clear hfz9_4
    try clear hfz9_5
    try clear hfz9_6
    obtain ⟨kq, x16_2, rfl, HA, HJ2, BK285, HB⟩ := hcut
    cases kq with
    | zero => exact absurd HA.out (by simp [page_Put.j0])
    | succ kj2 =>
      have H := HA.out
      clear HA
      simp only [page_Put.j0] at H
      by_cases c12 : x16_2 = true
      · subst c12
        have H1 : (some (([] : List Int), 3)) = some (r1, r2) := by rw [if_pos rfl] at H; exact H
        clear H
        have H := H1
        clear H1
        simp only [Option.some.injEq, Prod.mk.injEq] at H
        obtain ⟨rfl, rfl⟩ := H
        go_wp2
        go_ret2
        exact ⟨_, by first | rfl | (simp [errW_none, errW_some] <;> rfl) | (simp [*, errW_none, errW_some] <;> rfl), by first | exact Kd.R_nil _ _ _ _ _ | exact Kd.N_nil _ _ _ _ _ | exact Kd.V_nil _ _ _ _ _ | exact Kd.Q_nil _ _ _ _ _ | exact Kd.S_nil _ _ _ _ _, by repeat (first | (with_reducible first | exact HB.out | apply below_alloc | apply pw_below_drewN | apply below_drew1 | refine below_set ?_ GE285.out) | exact HB.out)⟩
      · replace c12 := Bool.eq_false_iff.mpr c12
        subst c12
        have H1 : ((be_Row.f (([1, IntKind.u64.wrap (a0_0), 1, IntKind.u64.wrap (a0_1), 1, IntKind.u64.wrap (a0_2), 1, 0, 8, a0_3, 8, a0_4, 2, IntKind.u64.wrap (a0_5), 2, IntKind.u64.wrap (a0_6)] : List Int))).bind fun t290 => (if t290.length + a1.size < 140737488355328 then ((some (t290 ++ bytesOf a1 : List Int)).bind fun y293 => ((zeros_Ones.f kj2 (wrap64 (252 - (y293.length : Int)))).bind fun t296 => (if y293.length + t296.length < 140737488355328 then ((page_Seal.f kj2 (y293 ++ t296)).bind fun t302 => (some (t302, 0))) else (none)))) else (none))) = some (r1, r2) := by rw [if_neg (show ¬ (false = true) by decide)] at H; exact H
        clear H
        have H := H1
        clear H1
        obtain ⟨y287, hy287⟩ : ∃ y_ : List Int, y_ = (([1, IntKind.u64.wrap (a0_0), 1, IntKind.u64.wrap (a0_1), 1, IntKind.u64.wrap (a0_2), 1, 0, 8, a0_3, 8, a0_4, 2, IntKind.u64.wrap (a0_5), 2, IntKind.u64.wrap (a0_6)] : List Int)) := ⟨_, rfl⟩
        replace H : ((be_Row.f y287).bind fun t290 => (if t290.length + a1.size < 140737488355328 then ((some (t290 ++ bytesOf a1 : List Int)).bind fun y293 => ((zeros_Ones.f kj2 (wrap64 (252 - (y293.length : Int)))).bind fun t296 => (if y293.length + t296.length < 140737488355328 then ((page_Seal.f kj2 (y293 ++ t296)).bind fun t302 => (some (t302, 0))) else (none)))) else (none))) = some (r1, r2) := by first | (rw [hy287]; with_reducible exact H) | (have H2_ := (Option.bind_some _ _).symm.trans H; rw [hy287]; with_reducible exact H2_) | (have H2_ := (Option.bind_some _ _).symm.trans H; with_reducible exact H2_) | with_reducible exact H | (rw [hy287]; exact H) | exact H
        have Ny287 := Aside0.mk hy287
        clear hy287
        replace H := Option.bind_eq_some_iff.mp H
        obtain ⟨t290, A130, H⟩ := H
        replace H : (if t290.length + a1.size < 140737488355328 then ((some (t290 ++ bytesOf a1 : List Int)).bind fun y293 => ((zeros_Ones.f kj2 (wrap64 (252 - (y293.length : Int)))).bind fun t296 => (if y293.length + t296.length < 140737488355328 then ((page_Seal.f kj2 (y293 ++ t296)).bind fun t302 => (some (t302, 0))) else (none)))) else (none)) = some (r1, r2) := H
        have A13 := Aside0.mk A130
        clear A130
        by_cases c14 : t290.length + a1.size < 140737488355328
        · rw [if_pos c14] at H
          have LMc14 := Aside0.mk c14
          clear c14
          obtain ⟨y293, hy293⟩ : ∃ y_ : List Int, y_ = (t290 ++ bytesOf a1) := ⟨_, rfl⟩
          replace H : ((zeros_Ones.f kj2 (wrap64 (252 - (y293.length : Int)))).bind fun t296 => (if y293.length + t296.length < 140737488355328 then ((page_Seal.f kj2 (y293 ++ t296)).bind fun t302 => (some (t302, 0))) else (none))) = some (r1, r2) := by first | (rw [hy293]; with_reducible exact H) | (have H2_ := (Option.bind_some _ _).symm.trans H; rw [hy293]; with_reducible exact H2_) | (have H2_ := (Option.bind_some _ _).symm.trans H; with_reducible exact H2_) | with_reducible exact H | (rw [hy293]; exact H) | exact H
          have Ny293 := Aside0.mk hy293
          clear hy293
          replace H := Option.bind_eq_some_iff.mp H
          obtain ⟨t296, A150, H⟩ := H
          replace H : (if y293.length + t296.length < 140737488355328 then ((page_Seal.f kj2 (y293 ++ t296)).bind fun t302 => (some (t302, 0))) else (none)) = some (r1, r2) := H
          have A15 := Aside0.mk A150
          clear A150
          by_cases c16 : y293.length + t296.length < 140737488355328
          · rw [if_pos c16] at H
            have LMc16 := Aside0.mk c16
            clear c16
            obtain ⟨y299, hy299⟩ : ∃ y_ : List Int, y_ = (y293 ++ t296) := ⟨_, rfl⟩
            replace H : ((page_Seal.f kj2 y299).bind fun t302 => (some (t302, 0))) = some (r1, r2) := by first | (rw [hy299]; with_reducible exact H) | (have H2_ := (Option.bind_some _ _).symm.trans H; rw [hy299]; with_reducible exact H2_) | (have H2_ := (Option.bind_some _ _).symm.trans H; with_reducible exact H2_) | with_reducible exact H | (rw [hy299]; exact H) | exact H
            have Ny299 := Aside0.mk hy299
            clear hy299
            replace H := Option.bind_eq_some_iff.mp H
            obtain ⟨t302, A170, H⟩ := H
            replace H : (some (t302, 0)) = some (r1, r2) := H
            have A17 := Aside0.mk A170
            clear A170
            simp only [Option.some.injEq, Prod.mk.injEq] at H
            obtain ⟨rfl, rfl⟩ := H
            have hcz18_0 : wc.cell? ⟨gb285, 0, none⟩ = some (.int .i64 a0_0) := (blk_cell BK285.out 0).trans rfl
            have hcz18_1 : wc.cell? ⟨gb285, 1, none⟩ = some (.int .i64 a0_1) := (blk_cell BK285.out 1).trans rfl
            have hcz18_2 : wc.cell? ⟨gb285, 2, none⟩ = some (.int .i64 a0_2) := (blk_cell BK285.out 2).trans rfl
            have hcz18_3 : wc.cell? ⟨gb285, 3, none⟩ = some (.int .u64 a0_3) := (blk_cell BK285.out 3).trans rfl
            have hcz18_4 : wc.cell? ⟨gb285, 4, none⟩ = some (.int .u64 a0_4) := (blk_cell BK285.out 4).trans rfl
            have hcz18_5 : wc.cell? ⟨gb285, 5, none⟩ = some (.int .i64 a0_5) := (blk_cell BK285.out 5).trans rfl
            have hcz18_6 : wc.cell? ⟨gb285, 6, none⟩ = some (.int .i64 a0_6) := (blk_cell BK285.out 6).trans rfl
            have hfz18_0 := blk_frozen BK285.out 0
            have hfz18_1 := blk_frozen BK285.out 1
            have hfz18_2 := blk_frozen BK285.out 2
            have hfz18_3 := blk_frozen BK285.out 3
            have hfz18_4 := blk_frozen BK285.out 4
            have hfz18_5 := blk_frozen BK285.out 5
            have hfz18_6 := blk_frozen BK285.out 6
            go_wp2_with (first | ((with_reducible refine gate_dst (N := 36) rfl ?_); (try (refine gate_guard (by rfl) ?_; dsimp only)); refine Kd.R_lit (Kd.int .u64) _ 80 ?hg (N := 36) ?hd (xs := ([1, IntKind.u64.wrap (a0_0), 1, IntKind.u64.wrap (a0_1), 1, IntKind.u64.wrap (a0_2), 1, 0, 8, a0_3, 8, a0_4, 2, IntKind.u64.wrap (a0_5), 2, IntKind.u64.wrap (a0_6)] : List Int)) (inner := [.int .u64 1, .int .u64 (IntKind.u64.wrap (a0_0)), .int .u64 1, .int .u64 (IntKind.u64.wrap (a0_1)), .int .u64 1, .int .u64 (IntKind.u64.wrap (a0_2)), .int .u64 1, .int .u64 0, .int .u64 8, .int .u64 a0_3, .int .u64 8, .int .u64 a0_4, .int .u64 2, .int .u64 (IntKind.u64.wrap (a0_5)), .int .u64 2, .int .u64 (IntKind.u64.wrap (a0_6))]) (ok := fun _ => True) (okp := fun _ => True) ?hr ?hp (fun _ hk => hk) trivial (Below.refl _ _) (Nat.le_refl _) (by simp) ?_; (case hd => rfl); (case hg => rfl); (case hr => first | (go_simp; done) | (go_simp; rfl)); (case hp => exact (Reps.one (show Kd.M (Kd.int .u64) _ _ _ 1 [.int .u64 1] from rfl) (Reps.one (show Kd.M (Kd.int .u64) _ _ _ (IntKind.u64.wrap (a0_0)) [.int .u64 (IntKind.u64.wrap (a0_0))] from rfl) (Reps.one (show Kd.M (Kd.int .u64) _ _ _ 1 [.int .u64 1] from rfl) (Reps.one (show Kd.M (Kd.int .u64) _ _ _ (IntKind.u64.wrap (a0_1)) [.int .u64 (IntKind.u64.wrap (a0_1))] from rfl) (Reps.one (show Kd.M (Kd.int .u64) _ _ _ 1 [.int .u64 1] from rfl) (Reps.one (show Kd.M (Kd.int .u64) _ _ _ (IntKind.u64.wrap (a0_2)) [.int .u64 (IntKind.u64.wrap (a0_2))] from rfl) (Reps.one (show Kd.M (Kd.int .u64) _ _ _ 1 [.int .u64 1] from rfl) (Reps.one (show Kd.M (Kd.int .u64) _ _ _ 0 [.int .u64 0] from rfl) (Reps.one (show Kd.M (Kd.int .u64) _ _ _ 8 [.int .u64 8] from rfl) (Reps.one (show Kd.M (Kd.int .u64) _ _ _ a0_3 [.int .u64 a0_3] from rfl) (Reps.one (show Kd.M (Kd.int .u64) _ _ _ 8 [.int .u64 8] from rfl) (Reps.one (show Kd.M (Kd.int .u64) _ _ _ a0_4 [.int .u64 a0_4] from rfl) (Reps.one (show Kd.M (Kd.int .u64) _ _ _ 2 [.int .u64 2] from rfl) (Reps.one (show Kd.M (Kd.int .u64) _ _ _ (IntKind.u64.wrap (a0_5)) [.int .u64 (IntKind.u64.wrap (a0_5))] from rfl) (Reps.one (show Kd.M (Kd.int .u64) _ _ _ 2 [.int .u64 2] from rfl) (Reps.one (show Kd.M (Kd.int .u64) _ _ _ (IntKind.u64.wrap (a0_6)) [.int .u64 (IntKind.u64.wrap (a0_6))] from rfl) (Reps.none _ _)))))))))))))))))); intro v288 w19 ho20 hb hg_ hnew_; clear hg_ hnew_; (first | rw [← Ny287.out] at ho20 | (simp only [Int.reduceToNat] at ho20; rw [← Ny287.out] at ho20)); have n0_ := Aside0.mk (Kd.R_lower ho20 (below_size (by repeat (first | (with_reducible first | exact HB.out | apply below_alloc | apply pw_below_drewN | apply below_drew1 | refine below_set ?_ GE285.out) | exact HB.out)))); have n1_ := Aside0.mk (blk_below (g := gb285) (o := .cells #[.int .i64 a0_0, .int .i64 a0_1, .int .i64 a0_2, .int .u64 a0_3, .int .u64 a0_4, .int .i64 a0_5, .int .i64 a0_6] 82 (0, 0)) (by (with_reducible repeat (first | refine blk_drewN ?_ _ | refine blk_drew ?_ | refine blk_alloc ?_ _)); exact BK285.out) hb); have n2_ := Aside0.mk (below_step (by repeat (first | (with_reducible first | exact HB.out | apply below_alloc | apply pw_below_drewN | apply below_drew1 | refine below_set ?_ GE285.out) | exact HB.out)) hb); clear BK285; clear HB; have HO289 := n0_; have BK285 := n1_; have HB := n2_; clear n0_ n1_ n2_; clear hb ho20; obtain ⟨Ao21, co21, eo21⟩ := Kd.R_slice HO289.out; subst eo21) | ((with_reducible refine gate_callee (f := 110) rfl ?_); refine goesL_ (some 37) rfl rfl Try.func110 (by kernel_rfl) rfl #[.slice Ao21 y287.length co21] rfl (by (try simp only [List.map_toArray, List.map_cons, List.map_nil]); first | done | rfl | (simp only [List.length_drop, List.length_take]; rfl)) ?_; (with_reducible refine (be_Row.calls _ _ y287 t290 _ ?side1 ?side2 A13.out).mono ?_); (case side1 => repeat (first | exact (Kd.R_reads' HO289.out).2.2 | (with_reducible refine Kd.C_alloc ?_ _) | (with_reducible refine Kd.C_drewN ?_ _) | (with_reducible refine Kd.C_drew ?_))); (case side2 => exact (Kd.R_reads' HO289.out).2.1); rintro e w22 ⟨v291, rfl, ho0, hb⟩; refine ⟨_, rfl, ?_⟩; have n0_ := Aside0.mk (Kd.R_below (by (with_reducible repeat (first | apply Kd.R_alloc | apply Kd.R_drewN | apply Kd.R_drew)); exact HO289.out) hb); have n1_ := Aside0.mk (Kd.R_lower ho0 (below_size (by repeat (first | (with_reducible first | exact HB.out | apply below_alloc | apply pw_below_drewN | apply below_drew1 | refine below_set ?_ GE285.out) | exact HB.out)))); have n2_ := Aside0.mk (blk_below (g := gb285) (o := .cells #[.int .i64 a0_0, .int .i64 a0_1, .int .i64 a0_2, .int .u64 a0_3, .int .u64 a0_4, .int .i64 a0_5, .int .i64 a0_6] 82 (0, 0)) (by (with_reducible repeat (first | refine blk_drewN ?_ _ | refine blk_drew ?_ | refine blk_alloc ?_ _)); exact BK285.out) hb); have n3_ := Aside0.mk (below_step (by repeat (first | (with_reducible first | exact HB.out | apply below_alloc | apply pw_below_drewN | apply below_drew1 | refine below_set ?_ GE285.out) | exact HB.out)) hb); clear HO289; clear BK285; clear HB; have HO289 := n0_; have HO292 := n1_; have BK285 := n2_; have HB := n3_; clear n0_ n1_ n2_ n3_; (try clear hb); (try clear hb2); (try clear hk); (try clear hi); (try clear ho0)) | (at_builtin; refine print_append_str (w0 := w) w.heap.size rfl (.tmp 38) _ 38 9 5 rfl Try.underlying38 Try.underlying9 info5 v291 t290 a1 rfl rfl ?aO ?aB ?aS ?aL ?_; (case aB => exact (by repeat (first | (with_reducible first | exact HB.out | apply below_alloc | apply pw_below_drewN | apply below_drew1 | refine below_set ?_ GE285.out) | exact HB.out))); (case aO => exact (Kd.own_of_R (by (with_reducible repeat (first | apply Kd.R_alloc | apply Kd.R_drewN | apply Kd.R_drew)); exact HO292.out))); (case aS => exact (below_size (by repeat (first | (with_reducible first | exact HB.out | apply below_alloc | apply pw_below_drewN | apply below_drew1 | refine below_set ?_ GE285.out) | exact HB.out)))); (case aL => have := LMc14.out; omega); intro v294 w23 ho0 hb hg; have ho := Kd.R_of_own (h1 := fun _ => rfl) (ok := fun _ => True) ho0 (fun _ _ => trivial); clear ho0; have hat := True.intro; rw [← Ny293.out] at ho; change Kd.R (Kd.int .u8) 5 w23 w.heap.size (fun _ => True) v294 y293 at ho; have n0_ := Aside0.mk (blk_grown (g := gb285) (o := .cells #[.int .i64 a0_0, .int .i64 a0_1, .int .i64 a0_2, .int .u64 a0_3, .int .u64 a0_4, .int .i64 a0_5, .int .i64 a0_6] 82 (0, 0)) (by (with_reducible repeat (first | refine blk_drewN ?_ _ | refine blk_drew ?_ | refine blk_alloc ?_ _)); exact BK285.out) hg (Kd.R_ne HO292.out BK285.out (by decide))); have n1_ := Aside0.mk (Kd.R_over' (by (with_reducible repeat (first | apply Kd.R_alloc | apply Kd.R_drewN | apply Kd.R_drew)); exact HO289.out) (Kd.R_typed (by (with_reducible repeat (first | apply Kd.R_alloc | apply Kd.R_drewN | apply Kd.R_drew)); exact HO292.out)) (by decide) hg); have n2_ := Aside0.mk (hb); have n3_ := Aside0.mk (ho); clear BK285; clear HO289; clear HB; clear HO292; have BK285 := n0_; have HO289 := n1_; have HB := n2_; have HO295 := n3_; clear n0_ n1_ n2_ n3_; clear ho hb hg hat; obtain ⟨Ao24, co24, eo24⟩ := Kd.R_slice HO295.out; subst eo24) | ((with_reducible refine gate_callee (f := 61) rfl ?_); refine goesL_ (some 45) rfl rfl Try.func61 (by kernel_rfl) rfl #[.int .i64 (wrap64 (252 - (y293.length : Int)))] rfl (by (try simp only [List.map_toArray, List.map_cons, List.map_nil]); first | done | rfl | (simp only [List.length_drop, List.length_take]; rfl)) ?_; (with_reducible refine (zeros_Ones.calls kj2 (wrap64 (252 - (y293.length : Int))) t296 _ A15.out).mono ?_); rintro e w25 ⟨v297, rfl, ho0, hb⟩; refine ⟨_, rfl, ?_⟩; have n0_ := Aside0.mk (Kd.R_below (by (with_reducible repeat (first | apply Kd.R_alloc | apply Kd.R_drewN | apply Kd.R_drew)); exact HO289.out) hb); have n1_ := Aside0.mk (Kd.R_elder' (by (with_reducible repeat (first | apply Kd.R_alloc | apply Kd.R_drewN | apply Kd.R_drew)); exact HO295.out) (Kd.R_base ho0) hb); have n2_ := Aside0.mk (Kd.R_lower (Kd.R_new' ho0 (Kd.R_lt (by (with_reducible repeat (first | apply Kd.R_alloc | apply Kd.R_drewN | apply Kd.R_drew)); exact HO295.out))) (below_size (by repeat (first | (with_reducible first | exact HB.out | apply below_alloc | apply pw_below_drewN | apply below_drew1 | refine below_set ?_ GE285.out) | exact HB.out)))); have n3_ := Aside0.mk (blk_below (g := gb285) (o := .cells #[.int .i64 a0_0, .int .i64 a0_1, .int .i64 a0_2, .int .u64 a0_3, .int .u64 a0_4, .int .i64 a0_5, .int .i64 a0_6] 82 (0, 0)) (by (with_reducible repeat (first | refine blk_drewN ?_ _ | refine blk_drew ?_ | refine blk_alloc ?_ _)); exact BK285.out) hb); have n4_ := Aside0.mk (below_step (by repeat (first | (with_reducible first | exact HB.out | apply below_alloc | apply pw_below_drewN | apply below_drew1 | refine below_set ?_ GE285.out) | exact HB.out)) hb); clear HO289; clear HO295; clear BK285; clear HB; have HO289 := n0_; have HO295 := n1_; have HO298 := n2_; have BK285 := n3_; have HB := n4_; clear n0_ n1_ n2_ n3_ n4_; (try clear hb); (try clear hb2); (try clear hk); (try clear hi); (try clear ho0); obtain ⟨Ao27, co27, eo27⟩ := Kd.R_slice HO298.out; subst eo27) | ((with_reducible refine gate_builtin (b := .append) (xs := #[.tmp 41, .tmp 45]) rfl ?_); (try (refine gate_guard (by rfl) ?_; dsimp only)); at_builtin; refine Kd.R_append_rows (Kd.int .u8) (w0 := w) w.heap.size rfl (.tmp 41) (.tmp 45) 38 5 (.int .u8 0) 1 rfl Try.underlying38 info5 rfl (by decide) (by omega) (.slice Ao24 y293.length co24) y293 t296 _ _ _ (fun k_ => some k_ ≠ (.slice Ao27 t296.length co27 : Value).ownBlock) (fun _ => False) rfl rfl ?aO ?aR (fun _ _ h => h) (fun _ h => h.elim) ?aF ?aB ?aS ?aL ?_; (case aR => repeat (first | exact (Kd.R_reads' HO298.out).2.2 | (with_reducible refine Kd.C_alloc ?_ _) | (with_reducible refine Kd.C_drewN ?_ _) | (with_reducible refine Kd.C_drew ?_))); (case aB => exact (by repeat (first | (with_reducible first | exact HB.out | apply below_alloc | apply pw_below_drewN | apply below_drew1 | refine below_set ?_ GE285.out) | exact HB.out))); (case aF => exact (fun k_ hk => Kd.fresh' (Kd.R_lt (by (with_reducible repeat (first | apply Kd.R_alloc | apply Kd.R_drewN | apply Kd.R_drew)); exact HO298.out)) k_ hk)); (case aO => exact (by (with_reducible repeat (first | apply Kd.R_alloc | apply Kd.R_drewN | apply Kd.R_drew)); exact Kd.R_mono HO295.out (fun _ hk => hk.2))); (case aS => exact (below_size (by repeat (first | (with_reducible first | exact HB.out | apply below_alloc | apply pw_below_drewN | apply below_drew1 | refine below_set ?_ GE285.out) | exact HB.out)))); (case aL => have := LMc16.out; omega); intro v300 w26 ho hb hg hat; rw [← Ny299.out] at ho; have n0_ := Aside0.mk (blk_grown (g := gb285) (o := .cells #[.int .i64 a0_0, .int .i64 a0_1, .int .i64 a0_2, .int .u64 a0_3, .int .u64 a0_4, .int .i64 a0_5, .int .i64 a0_6] 82 (0, 0)) (by (with_reducible repeat (first | refine blk_drewN ?_ _ | refine blk_drew ?_ | refine blk_alloc ?_ _)); exact BK285.out) hg (Kd.R_ne HO295.out BK285.out (by decide))); have n1_ := Aside0.mk (Kd.R_over' (by (with_reducible repeat (first | apply Kd.R_alloc | apply Kd.R_drewN | apply Kd.R_drew)); exact HO289.out) (Kd.R_typed (by (with_reducible repeat (first | apply Kd.R_alloc | apply Kd.R_drewN | apply Kd.R_drew)); exact HO295.out)) (by decide) hg); have n2_ := Aside0.mk (Kd.R_after (ok := (fun _ => True)) (by (with_reducible repeat (first | apply Kd.R_alloc | apply Kd.R_drewN | apply Kd.R_drew)); exact HO298.out) hg hat); have n3_ := Aside0.mk (hb); have n4_ := Aside0.mk (ho); clear BK285; clear HO289; clear HO298; clear HB; clear HO295; have BK285 := n0_; have HO289 := n1_; have HO298 := n2_; have HB := n3_; have HO301 := n4_; clear n0_ n1_ n2_ n3_ n4_; clear ho hb hg hat; obtain ⟨Ao28, co28, eo28⟩ := Kd.R_slice HO301.out; subst eo28) | ((with_reducible refine gate_callee (f := 111) rfl ?_); refine goesL_ (some 47) rfl rfl Try.func111 (by kernel_rfl) rfl #[.slice Ao28 y299.length co28] rfl (by (try simp only [List.map_toArray, List.map_cons, List.map_nil]); first | done | rfl | (simp only [List.length_drop, List.length_take]; rfl)) ?_; (with_reducible refine (page_Seal.calls kj2 _ _ y299 t302 _ ?side1 ?side2 A17.out).mono ?_); (case side1 => repeat (first | exact (Kd.R_reads' HO301.out).2.2 | (with_reducible refine Kd.C_alloc ?_ _) | (with_reducible refine Kd.C_drewN ?_ _) | (with_reducible refine Kd.C_drew ?_))); (case side2 => exact (Kd.R_reads' HO301.out).2.1); rintro e w29 ⟨v303, rfl, ho0, hb⟩; refine ⟨_, rfl, ?_⟩; have n0_ := Aside0.mk (Kd.R_below (by (with_reducible repeat (first | apply Kd.R_alloc | apply Kd.R_drewN | apply Kd.R_drew)); exact HO289.out) hb); have n1_ := Aside0.mk (Kd.R_elder' (by (with_reducible repeat (first | apply Kd.R_alloc | apply Kd.R_drewN | apply Kd.R_drew)); exact HO298.out) (Kd.R_base ho0) hb); have n2_ := Aside0.mk (Kd.R_elder' (by (with_reducible repeat (first | apply Kd.R_alloc | apply Kd.R_drewN | apply Kd.R_drew)); exact HO301.out) (Kd.R_base ho0) hb); have n3_ := Aside0.mk (Kd.R_lower (Kd.R_new' (Kd.R_new' ho0 (Kd.R_lt (by (with_reducible repeat (first | apply Kd.R_alloc | apply Kd.R_drewN | apply Kd.R_drew)); exact HO298.out))) (Kd.R_lt (by (with_reducible repeat (first | apply Kd.R_alloc | apply Kd.R_drewN | apply Kd.R_drew)); exact HO301.out))) (below_size (by repeat (first | (with_reducible first | exact HB.out | apply below_alloc | apply pw_below_drewN | apply below_drew1 | refine below_set ?_ GE285.out) | exact HB.out)))); have n4_ := Aside0.mk (blk_below (g := gb285) (o := .cells #[.int .i64 a0_0, .int .i64 a0_1, .int .i64 a0_2, .int .u64 a0_3, .int .u64 a0_4, .int .i64 a0_5, .int .i64 a0_6] 82 (0, 0)) (by (with_reducible repeat (first | refine blk_drewN ?_ _ | refine blk_drew ?_ | refine blk_alloc ?_ _)); exact BK285.out) hb); have n5_ := Aside0.mk (below_step (by repeat (first | (with_reducible first | exact HB.out | apply below_alloc | apply pw_below_drewN | apply below_drew1 | refine below_set ?_ GE285.out) | exact HB.out)) hb); clear HO289; clear HO298; clear HO301; clear BK285; clear HB; have HO289 := n0_; have HO298 := n1_; have HO301 := n2_; have HO304 := n3_; have BK285 := n4_; have HB := n5_; clear n0_ n1_ n2_ n3_ n4_ n5_; (try clear hb); (try clear hb2); (try clear hk); (try clear hi); (try clear ho0)))
            go_ret2
            exact ⟨_, by first | rfl | (simp [errW_none, errW_some] <;> rfl) | (simp [*, errW_none, errW_some] <;> rfl), by (with_reducible repeat (first | apply Kd.R_alloc | apply Kd.R_drewN | apply Kd.R_drew)); exact Kd.R_mono HO304.out (fun _ hk => trivial), by repeat (first | (with_reducible first | exact HB.out | apply below_alloc | apply pw_below_drewN | apply below_drew1 | refine below_set ?_ GE285.out) | exact HB.out)⟩
          · rw [if_neg c16] at H
            exact absurd H (by simp)
        · rw [if_neg c14] at H
          exact absurd H (by simp)
end Go.Proofs.Ytnchdmidaigheaa.Hp
namespace Go.Proofs.Ytnchdmidaigheaa.Hp
open Go.RowKit Go.Proofs.YtnchdmidaigheaaW.PrintWords Go.Proofs.YtnchdmidaigheaaW.PrintLast Go.Proofs.YtnchdmidaigheaaW.PrintMore
attribute [local go_sem] max2_int min2_int max_two min_two max_three min_three max_four min_four   -- for this text's walks alone
set_option linter.unusedVariables false
set_option linter.unusedSimpArgs false
def zeros_Blank.f (k : Nat) (l0 : List Int) : Option (Bool) := (zeros_Count.f k l0).bind fun t305 => (some (t305 == 0))
theorem zeros_Blank.mono : ∀ a0 k, LeO (zeros_Blank.f k a0) (zeros_Blank.f (k + 1) a0) := by
  intro a0 k
  unfold zeros_Blank.f
  repeat' first
      | (with_reducible exact zeros_Count.mono _ _)
      | (with_reducible exact LeO.refl _)
      | (with_reducible exact LeO.none _)
      | (with_reducible refine LeO.ite ?_ ?_)
      | (with_reducible refine LeO.bind ?_ (fun _ => ?_))
      | exact zeros_Count.mono _ _
      | exact LeO.none _
      | refine LeO.ite ?_ ?_
      | refine LeO.bind ?_ (fun _ => ?_)
set_option maxHeartbeats 8000000 in
set_option maxRecDepth 100000 in
theorem zeros_Blank.calls (k : Nat) (A0 : Option Addr) (c0 : Nat) (l0 : List Int) (r : Bool) (w : World) (hr0 : Kd.C (Kd.int .u8) w A0 l0.length l0) (hc0 : l0.length ≤ c0) (h : zeros_Blank.f k l0 = some r) :
    Calls Try.prog 113 #[.slice A0 l0.length c0] w fun e w' => e = .returned (.bool r) ∧ Drawn0 w w' := by
  have HR0 := Aside0.mk hr0
  have HC0 := Aside0.mk hc0
  clear hr0 hc0
  have H : ((zeros_Count.f k l0).bind fun t305 => (some (t305 == 0))) = some r := h
  clear h
  replace H := Option.bind_eq_some_iff.mp H
  obtain ⟨t305, A20, H⟩ := H
  replace H : (some (t305 == 0)) = some r := H
  have A2 := Aside0.mk A20
  clear A20
  obtain rfl := Option.some.inj H
  go_enter Try.func113, Try.ntmps113
  go_wp2_with (first | ((with_reducible refine gate_callee (f := 124) rfl ?_); refine goesL_ (some 4) rfl rfl Try.func124 (by kernel_rfl) rfl #[.slice A0 l0.length c0] rfl (by (try simp only [List.map_toArray, List.map_cons, List.map_nil]); first | done | rfl | (simp only [List.length_drop, List.length_take]; rfl)) ?_; (with_reducible refine (zeros_Count.calls k _ _ l0 t305 _ ?side1 ?side2 A2.out).mono ?_); (case side1 => repeat (first | exact HR0.out | (with_reducible refine Kd.C_alloc ?_ _) | (with_reducible refine Kd.C_drewN ?_ _) | (with_reducible refine Kd.C_drew ?_))); (case side2 => exact HC0.out); rintro e w' ⟨rfl, ⟨nd, rfl⟩⟩; refine ⟨_, rfl, ?_⟩))
  go_ret
  exact ⟨by first | rfl | (simp; done) | (simp [*]; done), by repeat (first | exact Drawn0.refl _ | apply Drawn0.step)⟩
def page_Class.f (k : Nat) (l0 : List Int) : Option (Int) := if (l0.length : Int) = 256 then ((zeros_Blank.f k l0).bind fun t306 => (if t306 = true then (some 0) else ((page_read.f l0).bind fun bt307 => ((page_Put.f k bt307.1 bt307.2.1 bt307.2.2.1 bt307.2.2.2.1 bt307.2.2.2.2.1 bt307.2.2.2.2.2.1 bt307.2.2.2.2.2.2.1 bt307.2.2.2.2.2.2.2).bind fun bt315 => (if bt315.2 = 0 then (if (strOfNums bt315.1).toList = (strOfNums l0).toList then (some 1) else (some 2)) else (some 2)))))) else (some 2)
theorem page_Class.mono : ∀ a0 k, LeO (page_Class.f k a0) (page_Class.f (k + 1) a0) := by
  intro a0 k
  unfold page_Class.f
  repeat' first
      | (with_reducible exact page_Put.mono _ _ _ _ _ _ _ _ _)
      | (with_reducible exact zeros_Blank.mono _ _)
      | (with_reducible exact LeO.refl _)
      | (with_reducible exact LeO.none _)
      | (with_reducible refine LeO.ite ?_ ?_)
      | (with_reducible refine LeO.bind ?_ (fun _ => ?_))
      | exact page_Put.mono _ _ _ _ _ _ _ _ _
      | exact zeros_Blank.mono _ _
      | exact LeO.none _
      | refine LeO.ite ?_ ?_
      | refine LeO.bind ?_ (fun _ => ?_)
set_option maxHeartbeats 8000000 in
set_option maxRecDepth 100000 in
theorem page_Class.calls (k : Nat) (A0 : Option Addr) (c0 : Nat) (l0 : List Int) (r : Int) (w : World) (hr0 : Kd.C (Kd.int .u8) w A0 l0.length l0) (hc0 : l0.length ≤ c0) (h : page_Class.f k l0 = some r) :
    Calls Try.prog 91 #[.slice A0 l0.length c0] w fun e w' => e = .returned (.int .i64 r) ∧ Below w.heap.size w w' := by
  have HR0 := Aside0.mk hr0
  have HC0 := Aside0.mk hc0
  clear hr0 hc0
  have HB := Aside0.mk (Below.refl w.heap.size w)
  have H : (if (l0.length : Int) = 256 then ((zeros_Blank.f k l0).bind fun t306 => (if t306 = true then (some 0) else ((page_read.f l0).bind fun bt307 => ((page_Put.f k bt307.1 bt307.2.1 bt307.2.2.1 bt307.2.2.2.1 bt307.2.2.2.2.1 bt307.2.2.2.2.2.1 bt307.2.2.2.2.2.2.1 bt307.2.2.2.2.2.2.2).bind fun bt315 => (if bt315.2 = 0 then (if (strOfNums bt315.1).toList = (strOfNums l0).toList then (some 1) else (some 2)) else (some 2)))))) else (some 2)) = some r := h
  clear h
  by_cases c2 : (l0.length : Int) = 256
  · rw [if_pos c2] at H
    have c2b0 : ((l0.length : Int) == 256) = true := beq_iff_eq.mpr c2
    have c2b1 : ((l0.length : Int) != 256) = false := bne_eq_false_iff_eq.mpr c2
    clear c2
    replace H := Option.bind_eq_some_iff.mp H
    obtain ⟨t306, A30, H⟩ := H
    replace H : (if t306 = true then (some 0) else ((page_read.f l0).bind fun bt307 => ((page_Put.f k bt307.1 bt307.2.1 bt307.2.2.1 bt307.2.2.2.1 bt307.2.2.2.2.1 bt307.2.2.2.2.2.1 bt307.2.2.2.2.2.2.1 bt307.2.2.2.2.2.2.2).bind fun bt315 => (if bt315.2 = 0 then (if (strOfNums bt315.1).toList = (strOfNums l0).toList then (some 1) else (some 2)) else (some 2))))) = some r := H
    have A3 := Aside0.mk A30
    clear A30
    by_cases c4 : t306 = true
    · subst c4
      have H1 : (some 0) = some r := by rw [if_pos rfl] at H; exact H
      clear H
      have H := H1
      clear H1
      obtain rfl := Option.some.inj H
      go_enter Try.func91, Try.ntmps91
      go_wp2_with (first | ((with_reducible refine gate_callee (f := 113) rfl ?_); refine goesL_ (some 9) rfl rfl Try.func113 (by kernel_rfl) rfl #[.slice A0 l0.length c0] rfl (by (try simp only [List.map_toArray, List.map_cons, List.map_nil]); first | done | rfl | (simp only [List.length_drop, List.length_take]; rfl)) ?_; (with_reducible refine (zeros_Blank.calls k _ _ l0 true _ ?side1 ?side2 A3.out).mono ?_); (case side1 => repeat (first | exact HR0.out | (with_reducible refine Kd.C_alloc ?_ _) | (with_reducible refine Kd.C_drewN ?_ _) | (with_reducible refine Kd.C_drew ?_))); (case side2 => exact HC0.out); rintro e w' ⟨rfl, ⟨nd, rfl⟩⟩; refine ⟨_, rfl, ?_⟩))
      go_ret
      exact ⟨by first | rfl | (simp [errW_none, errW_some] <;> rfl) | (simp [*, errW_none, errW_some] <;> rfl), by repeat (first | (with_reducible first | exact HB.out | apply below_alloc | apply pw_below_drewN | apply below_drew1) | exact HB.out)⟩
    · replace c4 := Bool.eq_false_iff.mpr c4
      subst c4
      have H1 : ((page_read.f l0).bind fun bt307 => ((page_Put.f k bt307.1 bt307.2.1 bt307.2.2.1 bt307.2.2.2.1 bt307.2.2.2.2.1 bt307.2.2.2.2.2.1 bt307.2.2.2.2.2.2.1 bt307.2.2.2.2.2.2.2).bind fun bt315 => (if bt315.2 = 0 then (if (strOfNums bt315.1).toList = (strOfNums l0).toList then (some 1) else (some 2)) else (some 2)))) = some r := by rw [if_neg (show ¬ (false = true) by decide)] at H; exact H
      clear H
      have H := H1
      clear H1
      replace H := Option.bind_eq_some_iff.mp H
      obtain ⟨⟨t307, t308, t309, t310, t311, t312, t313, t314⟩, A50, H⟩ := H
      replace H : ((page_Put.f k t307 t308 t309 t310 t311 t312 t313 t314).bind fun bt315 => (if bt315.2 = 0 then (if (strOfNums bt315.1).toList = (strOfNums l0).toList then (some 1) else (some 2)) else (some 2))) = some r := H
      have A5 := Aside0.mk A50
      clear A50
      replace H := Option.bind_eq_some_iff.mp H
      obtain ⟨⟨t315, t318⟩, A60, H⟩ := H
      replace H : (if t318 = 0 then (if (strOfNums t315).toList = (strOfNums l0).toList then (some 1) else (some 2)) else (some 2)) = some r := H
      have A6 := Aside0.mk A60
      clear A60
      by_cases c7 : t318 = 0
      · rw [if_pos c7] at H
        have c7b0 : (t318 == 0) = true := beq_iff_eq.mpr c7
        have c7b1 : (t318 != 0) = false := bne_eq_false_iff_eq.mpr c7
        clear c7
        by_cases c8 : (strOfNums t315).toList = (strOfNums l0).toList
        · rw [if_pos c8] at H
          have c8b0 : ((strOfNums t315).toList == (strOfNums l0).toList) = true := beq_iff_eq.mpr c8
          have c8b1 : ((strOfNums t315).toList != (strOfNums l0).toList) = false := bne_eq_false_iff_eq.mpr c8
          clear c8
          obtain rfl := Option.some.inj H
          go_enter Try.func91, Try.ntmps91
          go_wp2_with (first | ((with_reducible refine gate_callee (f := 113) rfl ?_); refine goesL_ (some 9) rfl rfl Try.func113 (by kernel_rfl) rfl #[.slice A0 l0.length c0] rfl (by (try simp only [List.map_toArray, List.map_cons, List.map_nil]); first | done | rfl | (simp only [List.length_drop, List.length_take]; rfl)) ?_; (with_reducible refine (zeros_Blank.calls k _ _ l0 false _ ?side1 ?side2 A3.out).mono ?_); (case side1 => repeat (first | exact HR0.out | (with_reducible refine Kd.C_alloc ?_ _) | (with_reducible refine Kd.C_drewN ?_ _) | (with_reducible refine Kd.C_drew ?_))); (case side2 => exact HC0.out); rintro e w' ⟨rfl, ⟨nd, rfl⟩⟩; refine ⟨_, rfl, ?_⟩) | ((with_reducible refine gate_callee (f := 112) rfl ?_); refine goesL_ (some 12) rfl rfl Try.func112 (by kernel_rfl) rfl #[.slice A0 l0.length c0] rfl (by (try simp only [List.map_toArray, List.map_cons, List.map_nil]); first | done | rfl | (simp only [List.length_drop, List.length_take]; rfl)) ?_; (with_reducible refine (page_read.calls _ _ l0 t307 t308 t309 t310 t311 t312 t313 t314 _ ?side1 ?side2 A5.out).mono ?_); (case side1 => repeat (first | exact HR0.out | (with_reducible refine Kd.C_alloc ?_ _) | (with_reducible refine Kd.C_drewN ?_ _) | (with_reducible refine Kd.C_drew ?_))); (case side2 => exact HC0.out); rintro e w9 ⟨rfl, hb⟩; refine ⟨_, rfl, ?_⟩; have n0_ := Aside0.mk (below_step (by repeat (first | (with_reducible first | exact HB.out | apply below_alloc | apply pw_below_drewN | apply below_drew1) | exact HB.out)) hb); clear HB; have HB := n0_; clear n0_; (try clear hb); (try clear hb2); (try clear hk); (try clear hi)) | ((with_reducible refine gate_callee (f := 88) rfl ?_); refine goesL_ (some 15) rfl rfl Try.func88 (by kernel_rfl) rfl #[.agg #[.int .i64 t307, .int .i64 t308, .int .i64 t309, .int .u64 t310, .int .u64 t311, .int .i64 t312, .int .i64 t313], .string t314] rfl (by (try simp only [List.map_toArray, List.map_cons, List.map_nil]); first | done | rfl | (simp only [List.length_drop, List.length_take]; rfl)) ?_; (with_reducible refine (page_Put.calls k t307 t308 t309 t310 t311 t312 t313 t314 t315 t318 _ A6.out).mono ?_); rintro e w10 ⟨v316, rfl, ho0, hb⟩; refine ⟨_, rfl, ?_⟩; have n0_ := Aside0.mk (Kd.R_lower ho0 (below_size (by repeat (first | (with_reducible first | exact HB.out | apply below_alloc | apply pw_below_drewN | apply below_drew1) | exact HB.out)))); have n1_ := Aside0.mk (below_step (by repeat (first | (with_reducible first | exact HB.out | apply below_alloc | apply pw_below_drewN | apply below_drew1) | exact HB.out)) hb); clear HB; have HO317 := n0_; have HB := n1_; clear n0_ n1_; (try clear hb); (try clear hb2); (try clear hk); (try clear hi); (try clear ho0); have hcv11 := own_string (P := Try.prog) Try.underlying38 Try.underlying5 Try.underlying9 (Kd.own_of_R HO317.out); have hcv11d := fun m_ => own_string (P := Try.prog) Try.underlying38 Try.underlying5 Try.underlying9 (Kd.own_of_R (Kd.R_drewN HO317.out m_)); have hcv12 := Kd.C_string (P := Try.prog) (A := A0) (c := c0) Try.underlying38 Try.underlying5 Try.underlying9 (Kd.C_below HR0.out HB.out)))
          go_ret
          exact ⟨by first | rfl | (simp [errW_none, errW_some] <;> rfl) | (simp [*, errW_none, errW_some] <;> rfl), by repeat (first | (with_reducible first | exact HB.out | apply below_alloc | apply pw_below_drewN | apply below_drew1) | exact HB.out)⟩
        · rw [if_neg c8] at H
          have c8b0 : ((strOfNums t315).toList == (strOfNums l0).toList) = false := beq_eq_false_iff_ne.mpr c8
          have c8b1 : ((strOfNums t315).toList != (strOfNums l0).toList) = true := bne_iff_ne.mpr c8
          obtain rfl := Option.some.inj H
          go_enter Try.func91, Try.ntmps91
          go_wp2_with (first | ((with_reducible refine gate_callee (f := 113) rfl ?_); refine goesL_ (some 9) rfl rfl Try.func113 (by kernel_rfl) rfl #[.slice A0 l0.length c0] rfl (by (try simp only [List.map_toArray, List.map_cons, List.map_nil]); first | done | rfl | (simp only [List.length_drop, List.length_take]; rfl)) ?_; (with_reducible refine (zeros_Blank.calls k _ _ l0 false _ ?side1 ?side2 A3.out).mono ?_); (case side1 => repeat (first | exact HR0.out | (with_reducible refine Kd.C_alloc ?_ _) | (with_reducible refine Kd.C_drewN ?_ _) | (with_reducible refine Kd.C_drew ?_))); (case side2 => exact HC0.out); rintro e w' ⟨rfl, ⟨nd, rfl⟩⟩; refine ⟨_, rfl, ?_⟩) | ((with_reducible refine gate_callee (f := 112) rfl ?_); refine goesL_ (some 12) rfl rfl Try.func112 (by kernel_rfl) rfl #[.slice A0 l0.length c0] rfl (by (try simp only [List.map_toArray, List.map_cons, List.map_nil]); first | done | rfl | (simp only [List.length_drop, List.length_take]; rfl)) ?_; (with_reducible refine (page_read.calls _ _ l0 t307 t308 t309 t310 t311 t312 t313 t314 _ ?side1 ?side2 A5.out).mono ?_); (case side1 => repeat (first | exact HR0.out | (with_reducible refine Kd.C_alloc ?_ _) | (with_reducible refine Kd.C_drewN ?_ _) | (with_reducible refine Kd.C_drew ?_))); (case side2 => exact HC0.out); rintro e w13 ⟨rfl, hb⟩; refine ⟨_, rfl, ?_⟩; have n0_ := Aside0.mk (below_step (by repeat (first | (with_reducible first | exact HB.out | apply below_alloc | apply pw_below_drewN | apply below_drew1) | exact HB.out)) hb); clear HB; have HB := n0_; clear n0_; (try clear hb); (try clear hb2); (try clear hk); (try clear hi)) | ((with_reducible refine gate_callee (f := 88) rfl ?_); refine goesL_ (some 15) rfl rfl Try.func88 (by kernel_rfl) rfl #[.agg #[.int .i64 t307, .int .i64 t308, .int .i64 t309, .int .u64 t310, .int .u64 t311, .int .i64 t312, .int .i64 t313], .string t314] rfl (by (try simp only [List.map_toArray, List.map_cons, List.map_nil]); first | done | rfl | (simp only [List.length_drop, List.length_take]; rfl)) ?_; (with_reducible refine (page_Put.calls k t307 t308 t309 t310 t311 t312 t313 t314 t315 t318 _ A6.out).mono ?_); rintro e w14 ⟨v316, rfl, ho0, hb⟩; refine ⟨_, rfl, ?_⟩; have n0_ := Aside0.mk (Kd.R_lower ho0 (below_size (by repeat (first | (with_reducible first | exact HB.out | apply below_alloc | apply pw_below_drewN | apply below_drew1) | exact HB.out)))); have n1_ := Aside0.mk (below_step (by repeat (first | (with_reducible first | exact HB.out | apply below_alloc | apply pw_below_drewN | apply below_drew1) | exact HB.out)) hb); clear HB; have HO317 := n0_; have HB := n1_; clear n0_ n1_; (try clear hb); (try clear hb2); (try clear hk); (try clear hi); (try clear ho0); have hcv15 := own_string (P := Try.prog) Try.underlying38 Try.underlying5 Try.underlying9 (Kd.own_of_R HO317.out); have hcv15d := fun m_ => own_string (P := Try.prog) Try.underlying38 Try.underlying5 Try.underlying9 (Kd.own_of_R (Kd.R_drewN HO317.out m_)); have hcv16 := Kd.C_string (P := Try.prog) (A := A0) (c := c0) Try.underlying38 Try.underlying5 Try.underlying9 (Kd.C_below HR0.out HB.out)))
          go_ret
          exact ⟨by first | rfl | (simp [errW_none, errW_some] <;> rfl) | (simp [*, errW_none, errW_some] <;> rfl), by repeat (first | (with_reducible first | exact HB.out | apply below_alloc | apply pw_below_drewN | apply below_drew1) | exact HB.out)⟩
      · rw [if_neg c7] at H
        have c7b0 : (t318 == 0) = false := beq_eq_false_iff_ne.mpr c7
        have c7b1 : (t318 != 0) = true := bne_iff_ne.mpr c7
        obtain rfl := Option.some.inj H
        go_enter Try.func91, Try.ntmps91
        go_wp2_with (first | ((with_reducible refine gate_callee (f := 113) rfl ?_); refine goesL_ (some 9) rfl rfl Try.func113 (by kernel_rfl) rfl #[.slice A0 l0.length c0] rfl (by (try simp only [List.map_toArray, List.map_cons, List.map_nil]); first | done | rfl | (simp only [List.length_drop, List.length_take]; rfl)) ?_; (with_reducible refine (zeros_Blank.calls k _ _ l0 false _ ?side1 ?side2 A3.out).mono ?_); (case side1 => repeat (first | exact HR0.out | (with_reducible refine Kd.C_alloc ?_ _) | (with_reducible refine Kd.C_drewN ?_ _) | (with_reducible refine Kd.C_drew ?_))); (case side2 => exact HC0.out); rintro e w' ⟨rfl, ⟨nd, rfl⟩⟩; refine ⟨_, rfl, ?_⟩) | ((with_reducible refine gate_callee (f := 112) rfl ?_); refine goesL_ (some 12) rfl rfl Try.func112 (by kernel_rfl) rfl #[.slice A0 l0.length c0] rfl (by (try simp only [List.map_toArray, List.map_cons, List.map_nil]); first | done | rfl | (simp only [List.length_drop, List.length_take]; rfl)) ?_; (with_reducible refine (page_read.calls _ _ l0 t307 t308 t309 t310 t311 t312 t313 t314 _ ?side1 ?side2 A5.out).mono ?_); (case side1 => repeat (first | exact HR0.out | (with_reducible refine Kd.C_alloc ?_ _) | (with_reducible refine Kd.C_drewN ?_ _) | (with_reducible refine Kd.C_drew ?_))); (case side2 => exact HC0.out); rintro e w17 ⟨rfl, hb⟩; refine ⟨_, rfl, ?_⟩; have n0_ := Aside0.mk (below_step (by repeat (first | (with_reducible first | exact HB.out | apply below_alloc | apply pw_below_drewN | apply below_drew1) | exact HB.out)) hb); clear HB; have HB := n0_; clear n0_; (try clear hb); (try clear hb2); (try clear hk); (try clear hi)) | ((with_reducible refine gate_callee (f := 88) rfl ?_); refine goesL_ (some 15) rfl rfl Try.func88 (by kernel_rfl) rfl #[.agg #[.int .i64 t307, .int .i64 t308, .int .i64 t309, .int .u64 t310, .int .u64 t311, .int .i64 t312, .int .i64 t313], .string t314] rfl (by (try simp only [List.map_toArray, List.map_cons, List.map_nil]); first | done | rfl | (simp only [List.length_drop, List.length_take]; rfl)) ?_; (with_reducible refine (page_Put.calls k t307 t308 t309 t310 t311 t312 t313 t314 t315 t318 _ A6.out).mono ?_); rintro e w18 ⟨v316, rfl, ho0, hb⟩; refine ⟨_, rfl, ?_⟩; have n0_ := Aside0.mk (Kd.R_lower ho0 (below_size (by repeat (first | (with_reducible first | exact HB.out | apply below_alloc | apply pw_below_drewN | apply below_drew1) | exact HB.out)))); have n1_ := Aside0.mk (below_step (by repeat (first | (with_reducible first | exact HB.out | apply below_alloc | apply pw_below_drewN | apply below_drew1) | exact HB.out)) hb); clear HB; have HO317 := n0_; have HB := n1_; clear n0_ n1_; (try clear hb); (try clear hb2); (try clear hk); (try clear hi); (try clear ho0)))
        go_ret
        exact ⟨by first | rfl | (simp [errW_none, errW_some] <;> rfl) | (simp [*, errW_none, errW_some] <;> rfl), by repeat (first | (with_reducible first | exact HB.out | apply below_alloc | apply pw_below_drewN | apply below_drew1) | exact HB.out)⟩
  · rw [if_neg c2] at H
    have c2b0 : ((l0.length : Int) == 256) = false := beq_eq_false_iff_ne.mpr c2
    have c2b1 : ((l0.length : Int) != 256) = true := bne_iff_ne.mpr c2
    obtain rfl := Option.some.inj H
    go_enter Try.func91, Try.ntmps91
    go_wp2
    go_ret
    exact ⟨by first | rfl | (simp [errW_none, errW_some] <;> rfl) | (simp [*, errW_none, errW_some] <;> rfl), by repeat (first | (with_reducible first | exact HB.out | apply below_alloc | apply pw_below_drewN | apply below_drew1) | exact HB.out)⟩
end Go.Proofs.Ytnchdmidaigheaa.Hp
namespace Go.Proofs.Ytnchdmidaigheaa.Hp
open Go.RowKit Go.Proofs.YtnchdmidaigheaaW.PrintWords Go.Proofs.YtnchdmidaigheaaW.PrintLast Go.Proofs.YtnchdmidaigheaaW.PrintMore
attribute [local go_sem] max2_int min2_int max_two min_two max_three min_three max_four min_four   -- for this text's walks alone
set_option linter.unusedVariables false
set_option linter.unusedSimpArgs false
def page_Get.f (k : Nat) (l0 : List Int) : Option (Int × Int × Int × Int × Int × Int × Int × ByteArray × Int) := (page_Class.f k l0).bind fun t320 => (if t320 = 0 then (some (0, 0, 0, 0, 0, 0, 0, (⟨#[]⟩ : ByteArray), 8)) else (if t320 = 2 then (some (0, 0, 0, 0, 0, 0, 0, (⟨#[]⟩ : ByteArray), 6)) else ((page_read.f l0).bind fun bt321 => (some (bt321.1, bt321.2.1, bt321.2.2.1, bt321.2.2.2.1, bt321.2.2.2.2.1, bt321.2.2.2.2.2.1, bt321.2.2.2.2.2.2.1, bt321.2.2.2.2.2.2.2, 0)))))
theorem page_Get.mono : ∀ a0 k, LeO (page_Get.f k a0) (page_Get.f (k + 1) a0) := by
  intro a0 k
  unfold page_Get.f
  repeat' first
      | (with_reducible exact page_Class.mono _ _)
      | (with_reducible exact LeO.refl _)
      | (with_reducible exact LeO.none _)
      | (with_reducible refine LeO.ite ?_ ?_)
      | (with_reducible refine LeO.bind ?_ (fun _ => ?_))
      | exact page_Class.mono _ _
      | exact LeO.none _
      | refine LeO.ite ?_ ?_
      | refine LeO.bind ?_ (fun _ => ?_)
set_option maxHeartbeats 8000000 in
set_option maxRecDepth 100000 in
theorem page_Get.calls (k : Nat) (A0 : Option Addr) (c0 : Nat) (l0 : List Int) (r1 : Int) (r2 : Int) (r3 : Int) (r4 : Int) (r5 : Int) (r6 : Int) (r7 : Int) (r8 : ByteArray) (r9 : Int) (w : World) (hr0 : Kd.C (Kd.int .u8) w A0 l0.length l0) (hc0 : l0.length ≤ c0) (h : page_Get.f k l0 = some (r1, r2, r3, r4, r5, r6, r7, r8, r9)) :
    Calls Try.prog 90 #[.slice A0 l0.length c0] w fun e w' => e = .returned (.tuple #[.agg #[.int .i64 r1, .int .i64 r2, .int .i64 r3, .int .u64 r4, .int .u64 r5, .int .i64 r6, .int .i64 r7], .string r8, .int .i64 r9]) ∧ Below w.heap.size w w' := by
  have hu82 := Try.underlying82
  have HR0 := Aside0.mk hr0
  have HC0 := Aside0.mk hc0
  clear hr0 hc0
  have HB := Aside0.mk (Below.refl w.heap.size w)
  have H : ((page_Class.f k l0).bind fun t320 => (if t320 = 0 then (some (0, 0, 0, 0, 0, 0, 0, (⟨#[]⟩ : ByteArray), 8)) else (if t320 = 2 then (some (0, 0, 0, 0, 0, 0, 0, (⟨#[]⟩ : ByteArray), 6)) else ((page_read.f l0).bind fun bt321 => (some (bt321.1, bt321.2.1, bt321.2.2.1, bt321.2.2.2.1, bt321.2.2.2.2.1, bt321.2.2.2.2.2.1, bt321.2.2.2.2.2.2.1, bt321.2.2.2.2.2.2.2, 0)))))) = some (r1, r2, r3, r4, r5, r6, r7, r8, r9) := h
  clear h
  replace H := Option.bind_eq_some_iff.mp H
  obtain ⟨t320, A20, H⟩ := H
  replace H : (if t320 = 0 then (some (0, 0, 0, 0, 0, 0, 0, (⟨#[]⟩ : ByteArray), 8)) else (if t320 = 2 then (some (0, 0, 0, 0, 0, 0, 0, (⟨#[]⟩ : ByteArray), 6)) else ((page_read.f l0).bind fun bt321 => (some (bt321.1, bt321.2.1, bt321.2.2.1, bt321.2.2.2.1, bt321.2.2.2.2.1, bt321.2.2.2.2.2.1, bt321.2.2.2.2.2.2.1, bt321.2.2.2.2.2.2.2, 0))))) = some (r1, r2, r3, r4, r5, r6, r7, r8, r9) := H
  have A2 := Aside0.mk A20
  clear A20
  by_cases c3 : t320 = 0
  · rw [if_pos c3] at H
    have c3b0 : (t320 == 0) = true := beq_iff_eq.mpr c3
    have c3b1 : (t320 != 0) = false := bne_eq_false_iff_eq.mpr c3
    clear c3
    simp only [Option.some.injEq, Prod.mk.injEq] at H
    obtain ⟨rfl, rfl, rfl, rfl, rfl, rfl, rfl, rfl, rfl⟩ := H
    go_enter Try.func90, Try.ntmps90
    go_wp2_with (first | ((with_reducible refine gate_dst (N := 2) rfl ?_); refine box_event ?hg (N := 2) ?hd (cs := #[.int .i64 0, .int .i64 0, .int .i64 0, .int .u64 0, .int .u64 0, .int .i64 0, .int .i64 0]) (t := 82) ?hr ?_; (case hd => rfl); (case hg => rfl); (case hr => first | (go_simp; done) | (go_simp; rfl)); intro gb319 hg w4 hbox hb; have n0_ := Aside0.mk (below_step (by repeat (first | (with_reducible first | exact HB.out | apply below_alloc | apply pw_below_drewN | apply below_drew1) | exact HB.out)) hb); have n1_ := Aside0.mk (hbox); have n2_ := Aside0.mk ((by rw [hg]; exact (below_size (by repeat (first | (with_reducible first | exact HB.out | apply below_alloc | apply pw_below_drewN | apply below_drew1) | exact HB.out))) : w.heap.size ≤ gb319)); have n3_ := Aside0.mk ((by rw [hg]; exact (below_size (by repeat (first | (with_reducible first | exact HB.out | apply below_alloc | apply pw_below_drewN | apply below_drew1) | exact HB.out))) : w.heap.size ≤ gb319)); clear HB; have HB := n0_; have BK319 := n1_; have GW319 := n2_; have GE319 := n3_; clear n0_ n1_ n2_ n3_; clear hb hbox hg) | ((with_reducible refine gate_callee (f := 91) rfl ?_); refine goesL_ (some 8) rfl rfl Try.func91 (by kernel_rfl) rfl #[.slice A0 l0.length c0] rfl (by (try simp only [List.map_toArray, List.map_cons, List.map_nil]); first | done | rfl | (simp only [List.length_drop, List.length_take]; rfl)) ?_; (with_reducible refine (page_Class.calls k _ _ l0 t320 _ ?side1 ?side2 A2.out).mono ?_); (case side1 => repeat (first | exact (Kd.C_below HR0.out HB.out) | (with_reducible refine Kd.C_alloc ?_ _) | (with_reducible refine Kd.C_drewN ?_ _) | (with_reducible refine Kd.C_drew ?_))); (case side2 => exact HC0.out); rintro e w5 ⟨rfl, hb⟩; refine ⟨_, rfl, ?_⟩; have n0_ := Aside0.mk (blk_below (g := gb319) (o := .cells #[.int .i64 0, .int .i64 0, .int .i64 0, .int .u64 0, .int .u64 0, .int .i64 0, .int .i64 0] 82 (0, 0)) (by (with_reducible repeat (first | refine blk_drewN ?_ _ | refine blk_drew ?_ | refine blk_alloc ?_ _)); exact BK319.out) hb); have n1_ := Aside0.mk (below_step (by repeat (first | (with_reducible first | exact HB.out | apply below_alloc | apply pw_below_drewN | apply below_drew1 | refine below_set ?_ GE319.out) | exact HB.out)) hb); clear BK319; clear HB; have BK319 := n0_; have HB := n1_; clear n0_ n1_; (try clear hb); (try clear hb2); (try clear hk); (try clear hi); have hcz6_0 : w5.cell? ⟨gb319, 0, none⟩ = some (.int .i64 0) := (blk_cell BK319.out 0).trans rfl; have hcz6_1 : w5.cell? ⟨gb319, 1, none⟩ = some (.int .i64 0) := (blk_cell BK319.out 1).trans rfl; have hcz6_2 : w5.cell? ⟨gb319, 2, none⟩ = some (.int .i64 0) := (blk_cell BK319.out 2).trans rfl; have hcz6_3 : w5.cell? ⟨gb319, 3, none⟩ = some (.int .u64 0) := (blk_cell BK319.out 3).trans rfl; have hcz6_4 : w5.cell? ⟨gb319, 4, none⟩ = some (.int .u64 0) := (blk_cell BK319.out 4).trans rfl; have hcz6_5 : w5.cell? ⟨gb319, 5, none⟩ = some (.int .i64 0) := (blk_cell BK319.out 5).trans rfl; have hcz6_6 : w5.cell? ⟨gb319, 6, none⟩ = some (.int .i64 0) := (blk_cell BK319.out 6).trans rfl; have hfz6_0 := blk_frozen BK319.out 0; have hfz6_1 := blk_frozen BK319.out 1; have hfz6_2 := blk_frozen BK319.out 2; have hfz6_3 := blk_frozen BK319.out 3; have hfz6_4 := blk_frozen BK319.out 4; have hfz6_5 := blk_frozen BK319.out 5; have hfz6_6 := blk_frozen BK319.out 6))
    refine bodyPost_ret (results_ctt rfl _ _ gb319 82 #[.int .i64 0, .int .i64 0, .int .i64 0, .int .u64 0, .int .u64 0, .int .i64 0, .int .i64 0] (0, 0) _ rfl (by (with_reducible repeat (first | refine blk_drewN ?_ _ | refine blk_drew ?_ | refine blk_alloc ?_ _)); refine blk_put (cs := #[.int .i64 0, .int .i64 0, .int .i64 0, .int .u64 0, .int .u64 0, .int .i64 0, .int .i64 0]) ?_ 6 _ rfl; (with_reducible repeat (first | refine blk_drewN ?_ _ | refine blk_drew ?_ | refine blk_alloc ?_ _)); refine blk_put (cs := #[.int .i64 0, .int .i64 0, .int .i64 0, .int .u64 0, .int .u64 0, .int .i64 0, .int .i64 0]) ?_ 5 _ rfl; (with_reducible repeat (first | refine blk_drewN ?_ _ | refine blk_drew ?_ | refine blk_alloc ?_ _)); refine blk_put (cs := #[.int .i64 0, .int .i64 0, .int .i64 0, .int .u64 0, .int .u64 0, .int .i64 0, .int .i64 0]) ?_ 4 _ rfl; (with_reducible repeat (first | refine blk_drewN ?_ _ | refine blk_drew ?_ | refine blk_alloc ?_ _)); refine blk_put (cs := #[.int .i64 0, .int .i64 0, .int .i64 0, .int .u64 0, .int .u64 0, .int .i64 0, .int .i64 0]) ?_ 3 _ rfl; (with_reducible repeat (first | refine blk_drewN ?_ _ | refine blk_drew ?_ | refine blk_alloc ?_ _)); refine blk_put (cs := #[.int .i64 0, .int .i64 0, .int .i64 0, .int .u64 0, .int .u64 0, .int .i64 0, .int .i64 0]) ?_ 2 _ rfl; (with_reducible repeat (first | refine blk_drewN ?_ _ | refine blk_drew ?_ | refine blk_alloc ?_ _)); refine blk_put (cs := #[.int .i64 0, .int .i64 0, .int .i64 0, .int .u64 0, .int .u64 0, .int .i64 0, .int .i64 0]) ?_ 1 _ rfl; (with_reducible repeat (first | refine blk_drewN ?_ _ | refine blk_drew ?_ | refine blk_alloc ?_ _)); refine blk_put (cs := #[.int .i64 0, .int .i64 0, .int .i64 0, .int .u64 0, .int .u64 0, .int .i64 0, .int .i64 0]) ?_ 0 _ rfl; (with_reducible repeat (first | refine blk_drewN ?_ _ | refine blk_drew ?_ | refine blk_alloc ?_ _)); exact BK319.out) Try.underlying82 rfl (by kernel_rfl)) rfl ?_
    exact ⟨by first | rfl | (simp [errW_none, errW_some] <;> rfl) | (simp [*, errW_none, errW_some] <;> rfl), by repeat (first | (with_reducible first | exact HB.out | apply below_alloc | apply pw_below_drewN | apply below_drew1 | refine below_set ?_ GE319.out) | exact HB.out)⟩
  · rw [if_neg c3] at H
    have c3b0 : (t320 == 0) = false := beq_eq_false_iff_ne.mpr c3
    have c3b1 : (t320 != 0) = true := bne_iff_ne.mpr c3
    by_cases c7 : t320 = 2
    · rw [if_pos c7] at H
      have c7b0 : (t320 == 2) = true := beq_iff_eq.mpr c7
      have c7b1 : (t320 != 2) = false := bne_eq_false_iff_eq.mpr c7
      clear c7
      simp only [Option.some.injEq, Prod.mk.injEq] at H
      obtain ⟨rfl, rfl, rfl, rfl, rfl, rfl, rfl, rfl, rfl⟩ := H
      go_enter Try.func90, Try.ntmps90
      go_wp2_with (first | ((with_reducible refine gate_dst (N := 2) rfl ?_); refine box_event ?hg (N := 2) ?hd (cs := #[.int .i64 0, .int .i64 0, .int .i64 0, .int .u64 0, .int .u64 0, .int .i64 0, .int .i64 0]) (t := 82) ?hr ?_; (case hd => rfl); (case hg => rfl); (case hr => first | (go_simp; done) | (go_simp; rfl)); intro gb319 hg w8 hbox hb; have n0_ := Aside0.mk (below_step (by repeat (first | (with_reducible first | exact HB.out | apply below_alloc | apply pw_below_drewN | apply below_drew1) | exact HB.out)) hb); have n1_ := Aside0.mk (hbox); have n2_ := Aside0.mk ((by rw [hg]; exact (below_size (by repeat (first | (with_reducible first | exact HB.out | apply below_alloc | apply pw_below_drewN | apply below_drew1) | exact HB.out))) : w.heap.size ≤ gb319)); have n3_ := Aside0.mk ((by rw [hg]; exact (below_size (by repeat (first | (with_reducible first | exact HB.out | apply below_alloc | apply pw_below_drewN | apply below_drew1) | exact HB.out))) : w.heap.size ≤ gb319)); clear HB; have HB := n0_; have BK319 := n1_; have GW319 := n2_; have GE319 := n3_; clear n0_ n1_ n2_ n3_; clear hb hbox hg) | ((with_reducible refine gate_callee (f := 91) rfl ?_); refine goesL_ (some 8) rfl rfl Try.func91 (by kernel_rfl) rfl #[.slice A0 l0.length c0] rfl (by (try simp only [List.map_toArray, List.map_cons, List.map_nil]); first | done | rfl | (simp only [List.length_drop, List.length_take]; rfl)) ?_; (with_reducible refine (page_Class.calls k _ _ l0 t320 _ ?side1 ?side2 A2.out).mono ?_); (case side1 => repeat (first | exact (Kd.C_below HR0.out HB.out) | (with_reducible refine Kd.C_alloc ?_ _) | (with_reducible refine Kd.C_drewN ?_ _) | (with_reducible refine Kd.C_drew ?_))); (case side2 => exact HC0.out); rintro e w9 ⟨rfl, hb⟩; refine ⟨_, rfl, ?_⟩; have n0_ := Aside0.mk (blk_below (g := gb319) (o := .cells #[.int .i64 0, .int .i64 0, .int .i64 0, .int .u64 0, .int .u64 0, .int .i64 0, .int .i64 0] 82 (0, 0)) (by (with_reducible repeat (first | refine blk_drewN ?_ _ | refine blk_drew ?_ | refine blk_alloc ?_ _)); exact BK319.out) hb); have n1_ := Aside0.mk (below_step (by repeat (first | (with_reducible first | exact HB.out | apply below_alloc | apply pw_below_drewN | apply below_drew1 | refine below_set ?_ GE319.out) | exact HB.out)) hb); clear BK319; clear HB; have BK319 := n0_; have HB := n1_; clear n0_ n1_; (try clear hb); (try clear hb2); (try clear hk); (try clear hi); have hcz10_0 : w9.cell? ⟨gb319, 0, none⟩ = some (.int .i64 0) := (blk_cell BK319.out 0).trans rfl; have hcz10_1 : w9.cell? ⟨gb319, 1, none⟩ = some (.int .i64 0) := (blk_cell BK319.out 1).trans rfl; have hcz10_2 : w9.cell? ⟨gb319, 2, none⟩ = some (.int .i64 0) := (blk_cell BK319.out 2).trans rfl; have hcz10_3 : w9.cell? ⟨gb319, 3, none⟩ = some (.int .u64 0) := (blk_cell BK319.out 3).trans rfl; have hcz10_4 : w9.cell? ⟨gb319, 4, none⟩ = some (.int .u64 0) := (blk_cell BK319.out 4).trans rfl; have hcz10_5 : w9.cell? ⟨gb319, 5, none⟩ = some (.int .i64 0) := (blk_cell BK319.out 5).trans rfl; have hcz10_6 : w9.cell? ⟨gb319, 6, none⟩ = some (.int .i64 0) := (blk_cell BK319.out 6).trans rfl; have hfz10_0 := blk_frozen BK319.out 0; have hfz10_1 := blk_frozen BK319.out 1; have hfz10_2 := blk_frozen BK319.out 2; have hfz10_3 := blk_frozen BK319.out 3; have hfz10_4 := blk_frozen BK319.out 4; have hfz10_5 := blk_frozen BK319.out 5; have hfz10_6 := blk_frozen BK319.out 6))
      refine bodyPost_ret (results_ctt rfl _ _ gb319 82 #[.int .i64 0, .int .i64 0, .int .i64 0, .int .u64 0, .int .u64 0, .int .i64 0, .int .i64 0] (0, 0) _ rfl (by (with_reducible repeat (first | refine blk_drewN ?_ _ | refine blk_drew ?_ | refine blk_alloc ?_ _)); refine blk_put (cs := #[.int .i64 0, .int .i64 0, .int .i64 0, .int .u64 0, .int .u64 0, .int .i64 0, .int .i64 0]) ?_ 6 _ rfl; (with_reducible repeat (first | refine blk_drewN ?_ _ | refine blk_drew ?_ | refine blk_alloc ?_ _)); refine blk_put (cs := #[.int .i64 0, .int .i64 0, .int .i64 0, .int .u64 0, .int .u64 0, .int .i64 0, .int .i64 0]) ?_ 5 _ rfl; (with_reducible repeat (first | refine blk_drewN ?_ _ | refine blk_drew ?_ | refine blk_alloc ?_ _)); refine blk_put (cs := #[.int .i64 0, .int .i64 0, .int .i64 0, .int .u64 0, .int .u64 0, .int .i64 0, .int .i64 0]) ?_ 4 _ rfl; (with_reducible repeat (first | refine blk_drewN ?_ _ | refine blk_drew ?_ | refine blk_alloc ?_ _)); refine blk_put (cs := #[.int .i64 0, .int .i64 0, .int .i64 0, .int .u64 0, .int .u64 0, .int .i64 0, .int .i64 0]) ?_ 3 _ rfl; (with_reducible repeat (first | refine blk_drewN ?_ _ | refine blk_drew ?_ | refine blk_alloc ?_ _)); refine blk_put (cs := #[.int .i64 0, .int .i64 0, .int .i64 0, .int .u64 0, .int .u64 0, .int .i64 0, .int .i64 0]) ?_ 2 _ rfl; (with_reducible repeat (first | refine blk_drewN ?_ _ | refine blk_drew ?_ | refine blk_alloc ?_ _)); refine blk_put (cs := #[.int .i64 0, .int .i64 0, .int .i64 0, .int .u64 0, .int .u64 0, .int .i64 0, .int .i64 0]) ?_ 1 _ rfl; (with_reducible repeat (first | refine blk_drewN ?_ _ | refine blk_drew ?_ | refine blk_alloc ?_ _)); refine blk_put (cs := #[.int .i64 0, .int .i64 0, .int .i64 0, .int .u64 0, .int .u64 0, .int .i64 0, .int .i64 0]) ?_ 0 _ rfl; (with_reducible repeat (first | refine blk_drewN ?_ _ | refine blk_drew ?_ | refine blk_alloc ?_ _)); exact BK319.out) Try.underlying82 rfl (by kernel_rfl)) rfl ?_
      exact ⟨by first | rfl | (simp [errW_none, errW_some] <;> rfl) | (simp [*, errW_none, errW_some] <;> rfl), by repeat (first | (with_reducible first | exact HB.out | apply below_alloc | apply pw_below_drewN | apply below_drew1 | refine below_set ?_ GE319.out) | exact HB.out)⟩
    · rw [if_neg c7] at H
      have c7b0 : (t320 == 2) = false := beq_eq_false_iff_ne.mpr c7
      have c7b1 : (t320 != 2) = true := bne_iff_ne.mpr c7
      replace H := Option.bind_eq_some_iff.mp H
      obtain ⟨⟨t321, t322, t323, t324, t325, t326, t327, t328⟩, A110, H⟩ := H
      replace H : (some (t321, t322, t323, t324, t325, t326, t327, t328, 0)) = some (r1, r2, r3, r4, r5, r6, r7, r8, r9) := H
      have A11 := Aside0.mk A110
      clear A110
      simp only [Option.some.injEq, Prod.mk.injEq] at H
      obtain ⟨rfl, rfl, rfl, rfl, rfl, rfl, rfl, rfl, rfl⟩ := H
      go_enter Try.func90, Try.ntmps90
      go_wp2_with (first | ((with_reducible refine gate_dst (N := 2) rfl ?_); refine box_event ?hg (N := 2) ?hd (cs := #[.int .i64 0, .int .i64 0, .int .i64 0, .int .u64 0, .int .u64 0, .int .i64 0, .int .i64 0]) (t := 82) ?hr ?_; (case hd => rfl); (case hg => rfl); (case hr => first | (go_simp; done) | (go_simp; rfl)); intro gb319 hg w12 hbox hb; have n0_ := Aside0.mk (below_step (by repeat (first | (with_reducible first | exact HB.out | apply below_alloc | apply pw_below_drewN | apply below_drew1) | exact HB.out)) hb); have n1_ := Aside0.mk (hbox); have n2_ := Aside0.mk ((by rw [hg]; exact (below_size (by repeat (first | (with_reducible first | exact HB.out | apply below_alloc | apply pw_below_drewN | apply below_drew1) | exact HB.out))) : w.heap.size ≤ gb319)); have n3_ := Aside0.mk ((by rw [hg]; exact (below_size (by repeat (first | (with_reducible first | exact HB.out | apply below_alloc | apply pw_below_drewN | apply below_drew1) | exact HB.out))) : w.heap.size ≤ gb319)); clear HB; have HB := n0_; have BK319 := n1_; have GW319 := n2_; have GE319 := n3_; clear n0_ n1_ n2_ n3_; clear hb hbox hg) | ((with_reducible refine gate_callee (f := 91) rfl ?_); refine goesL_ (some 8) rfl rfl Try.func91 (by kernel_rfl) rfl #[.slice A0 l0.length c0] rfl (by (try simp only [List.map_toArray, List.map_cons, List.map_nil]); first | done | rfl | (simp only [List.length_drop, List.length_take]; rfl)) ?_; (with_reducible refine (page_Class.calls k _ _ l0 t320 _ ?side1 ?side2 A2.out).mono ?_); (case side1 => repeat (first | exact (Kd.C_below HR0.out HB.out) | (with_reducible refine Kd.C_alloc ?_ _) | (with_reducible refine Kd.C_drewN ?_ _) | (with_reducible refine Kd.C_drew ?_))); (case side2 => exact HC0.out); rintro e w13 ⟨rfl, hb⟩; refine ⟨_, rfl, ?_⟩; have n0_ := Aside0.mk (blk_below (g := gb319) (o := .cells #[.int .i64 0, .int .i64 0, .int .i64 0, .int .u64 0, .int .u64 0, .int .i64 0, .int .i64 0] 82 (0, 0)) (by (with_reducible repeat (first | refine blk_drewN ?_ _ | refine blk_drew ?_ | refine blk_alloc ?_ _)); exact BK319.out) hb); have n1_ := Aside0.mk (below_step (by repeat (first | (with_reducible first | exact HB.out | apply below_alloc | apply pw_below_drewN | apply below_drew1 | refine below_set ?_ GE319.out) | exact HB.out)) hb); clear BK319; clear HB; have BK319 := n0_; have HB := n1_; clear n0_ n1_; (try clear hb); (try clear hb2); (try clear hk); (try clear hi)) | ((with_reducible refine gate_callee (f := 112) rfl ?_); refine goesL_ (some 17) rfl rfl Try.func112 (by kernel_rfl) rfl #[.slice A0 l0.length c0] rfl (by (try simp only [List.map_toArray, List.map_cons, List.map_nil]); first | done | rfl | (simp only [List.length_drop, List.length_take]; rfl)) ?_; (with_reducible refine (page_read.calls _ _ l0 t321 t322 t323 t324 t325 t326 t327 t328 _ ?side1 ?side2 A11.out).mono ?_); (case side1 => repeat (first | exact (Kd.C_below HR0.out HB.out) | (with_reducible refine Kd.C_alloc ?_ _) | (with_reducible refine Kd.C_drewN ?_ _) | (with_reducible refine Kd.C_drew ?_))); (case side2 => exact HC0.out); rintro e w14 ⟨rfl, hb⟩; refine ⟨_, rfl, ?_⟩; have n0_ := Aside0.mk (blk_below (g := gb319) (o := .cells #[.int .i64 0, .int .i64 0, .int .i64 0, .int .u64 0, .int .u64 0, .int .i64 0, .int .i64 0] 82 (0, 0)) (by (with_reducible repeat (first | refine blk_drewN ?_ _ | refine blk_drew ?_ | refine blk_alloc ?_ _)); exact BK319.out) hb); have n1_ := Aside0.mk (below_step (by repeat (first | (with_reducible first | exact HB.out | apply below_alloc | apply pw_below_drewN | apply below_drew1 | refine below_set ?_ GE319.out) | exact HB.out)) hb); clear BK319; clear HB; have BK319 := n0_; have HB := n1_; clear n0_ n1_; (try clear hb); (try clear hb2); (try clear hk); (try clear hi)) | ((with_reducible refine gate_dst (N := 5) rfl ?_); refine box_event ?hg (N := 5) ?hd (cs := #[.int .i64 0, .int .i64 0, .int .i64 0, .int .u64 0, .int .u64 0, .int .i64 0, .int .i64 0]) (t := 82) ?hr ?_; (case hd => rfl); (case hg => rfl); (case hr => first | (go_simp; done) | (go_simp; rfl)); intro gb329 hg w15 hbox hb; have n0_ := Aside0.mk (blk_below (g := gb319) (o := .cells #[.int .i64 0, .int .i64 0, .int .i64 0, .int .u64 0, .int .u64 0, .int .i64 0, .int .i64 0] 82 (0, 0)) (by (with_reducible repeat (first | refine blk_drewN ?_ _ | refine blk_drew ?_ | refine blk_alloc ?_ _)); exact BK319.out) hb); have n1_ := Aside0.mk (below_step (by repeat (first | (with_reducible first | exact HB.out | apply below_alloc | apply pw_below_drewN | apply below_drew1 | refine below_set ?_ GE319.out) | exact HB.out)) hb); have n2_ := Aside0.mk (hbox); have n3_ := Aside0.mk ((by rw [hg]; exact (below_size (by repeat (first | (with_reducible first | exact HB.out | apply below_alloc | apply pw_below_drewN | apply below_drew1 | refine below_set ?_ GE319.out) | exact HB.out))) : w.heap.size ≤ gb329)); have n4_ := Aside0.mk ((by rw [hg]; exact (below_size (by repeat (first | (with_reducible first | exact HB.out | apply below_alloc | apply pw_below_drewN | apply below_drew1 | refine below_set ?_ GE319.out) | exact HB.out))) : w.heap.size ≤ gb329)); have n5_ := Aside0.mk ((by rw [hg]; exact Nat.ne_of_lt (blk_lt (g := gb319) (o := .cells #[.int .i64 0, .int .i64 0, .int .i64 0, .int .u64 0, .int .u64 0, .int .i64 0, .int .i64 0] 82 (0, 0)) (by (with_reducible repeat (first | refine blk_drewN ?_ _ | refine blk_drew ?_ | refine blk_alloc ?_ _)); exact BK319.out)) : gb319 ≠ gb329)); have n6_ := Aside0.mk ((by rw [hg]; exact Nat.ne_of_gt (blk_lt (g := gb319) (o := .cells #[.int .i64 0, .int .i64 0, .int .i64 0, .int .u64 0, .int .u64 0, .int .i64 0, .int .i64 0] 82 (0, 0)) (by (with_reducible repeat (first | refine blk_drewN ?_ _ | refine blk_drew ?_ | refine blk_alloc ?_ _)); exact BK319.out)) : gb329 ≠ gb319)); clear BK319; clear HB; have BK319 := n0_; have HB := n1_; have BK329 := n2_; have GW329 := n3_; have GE329 := n4_; have NB319_329 := n5_; have NB329_319 := n6_; clear n0_ n1_ n2_ n3_ n4_ n5_ n6_; clear hb hbox hg; have hnb16 := NB329_319.out; have hnc16 := NB319_329.out; have hcz17_0 : w15.cell? ⟨gb329, 0, none⟩ = some (.int .i64 0) := (blk_cell BK329.out 0).trans rfl; have hcz17_1 : w15.cell? ⟨gb329, 1, none⟩ = some (.int .i64 0) := (blk_cell BK329.out 1).trans rfl; have hcz17_2 : w15.cell? ⟨gb329, 2, none⟩ = some (.int .i64 0) := (blk_cell BK329.out 2).trans rfl; have hcz17_3 : w15.cell? ⟨gb329, 3, none⟩ = some (.int .u64 0) := (blk_cell BK329.out 3).trans rfl; have hcz17_4 : w15.cell? ⟨gb329, 4, none⟩ = some (.int .u64 0) := (blk_cell BK329.out 4).trans rfl; have hcz17_5 : w15.cell? ⟨gb329, 5, none⟩ = some (.int .i64 0) := (blk_cell BK329.out 5).trans rfl; have hcz17_6 : w15.cell? ⟨gb329, 6, none⟩ = some (.int .i64 0) := (blk_cell BK329.out 6).trans rfl; have hfz17_0 := blk_frozen BK329.out 0; have hfz17_1 := blk_frozen BK329.out 1; have hfz17_2 := blk_frozen BK329.out 2; have hfz17_3 := blk_frozen BK329.out 3; have hfz17_4 := blk_frozen BK329.out 4; have hfz17_5 := blk_frozen BK329.out 5; have hfz17_6 := blk_frozen BK329.out 6; have hcz18_0 : w15.cell? ⟨gb319, 0, none⟩ = some (.int .i64 0) := (blk_cell BK319.out 0).trans rfl; have hcz18_1 : w15.cell? ⟨gb319, 1, none⟩ = some (.int .i64 0) := (blk_cell BK319.out 1).trans rfl; have hcz18_2 : w15.cell? ⟨gb319, 2, none⟩ = some (.int .i64 0) := (blk_cell BK319.out 2).trans rfl; have hcz18_3 : w15.cell? ⟨gb319, 3, none⟩ = some (.int .u64 0) := (blk_cell BK319.out 3).trans rfl; have hcz18_4 : w15.cell? ⟨gb319, 4, none⟩ = some (.int .u64 0) := (blk_cell BK319.out 4).trans rfl; have hcz18_5 : w15.cell? ⟨gb319, 5, none⟩ = some (.int .i64 0) := (blk_cell BK319.out 5).trans rfl; have hcz18_6 : w15.cell? ⟨gb319, 6, none⟩ = some (.int .i64 0) := (blk_cell BK319.out 6).trans rfl; have hfz18_0 := blk_frozen BK319.out 0; have hfz18_1 := blk_frozen BK319.out 1; have hfz18_2 := blk_frozen BK319.out 2; have hfz18_3 := blk_frozen BK319.out 3; have hfz18_4 := blk_frozen BK319.out 4; have hfz18_5 := blk_frozen BK319.out 5; have hfz18_6 := blk_frozen BK319.out 6))
      refine bodyPost_ret (results_ctt rfl _ _ gb319 82 #[.int .i64 t321, .int .i64 t322, .int .i64 t323, .int .u64 t324, .int .u64 t325, .int .i64 t326, .int .i64 t327] (0, 0) _ rfl (by (with_reducible repeat (first | refine blk_drewN ?_ _ | refine blk_drew ?_ | refine blk_alloc ?_ _)); refine blk_put (cs := #[.int .i64 t321, .int .i64 t322, .int .i64 t323, .int .u64 t324, .int .u64 t325, .int .i64 t326, .int .i64 0]) ?_ 6 _ rfl; (with_reducible repeat (first | refine blk_drewN ?_ _ | refine blk_drew ?_ | refine blk_alloc ?_ _)); refine blk_put (cs := #[.int .i64 t321, .int .i64 t322, .int .i64 t323, .int .u64 t324, .int .u64 t325, .int .i64 0, .int .i64 0]) ?_ 5 _ rfl; (with_reducible repeat (first | refine blk_drewN ?_ _ | refine blk_drew ?_ | refine blk_alloc ?_ _)); refine blk_put (cs := #[.int .i64 t321, .int .i64 t322, .int .i64 t323, .int .u64 t324, .int .u64 0, .int .i64 0, .int .i64 0]) ?_ 4 _ rfl; (with_reducible repeat (first | refine blk_drewN ?_ _ | refine blk_drew ?_ | refine blk_alloc ?_ _)); refine blk_put (cs := #[.int .i64 t321, .int .i64 t322, .int .i64 t323, .int .u64 0, .int .u64 0, .int .i64 0, .int .i64 0]) ?_ 3 _ rfl; (with_reducible repeat (first | refine blk_drewN ?_ _ | refine blk_drew ?_ | refine blk_alloc ?_ _)); refine blk_put (cs := #[.int .i64 t321, .int .i64 t322, .int .i64 0, .int .u64 0, .int .u64 0, .int .i64 0, .int .i64 0]) ?_ 2 _ rfl; (with_reducible repeat (first | refine blk_drewN ?_ _ | refine blk_drew ?_ | refine blk_alloc ?_ _)); refine blk_put (cs := #[.int .i64 t321, .int .i64 0, .int .i64 0, .int .u64 0, .int .u64 0, .int .i64 0, .int .i64 0]) ?_ 1 _ rfl; (with_reducible repeat (first | refine blk_drewN ?_ _ | refine blk_drew ?_ | refine blk_alloc ?_ _)); refine blk_put (cs := #[.int .i64 0, .int .i64 0, .int .i64 0, .int .u64 0, .int .u64 0, .int .i64 0, .int .i64 0]) ?_ 0 _ rfl; (with_reducible repeat (first | refine blk_drewN ?_ _ | refine blk_drew ?_ | refine blk_alloc ?_ _)); refine blk_far ?_ NB319_329.out _; (with_reducible repeat (first | refine blk_drewN ?_ _ | refine blk_drew ?_ | refine blk_alloc ?_ _)); refine blk_far ?_ NB319_329.out _; (with_reducible repeat (first | refine blk_drewN ?_ _ | refine blk_drew ?_ | refine blk_alloc ?_ _)); refine blk_far ?_ NB319_329.out _; (with_reducible repeat (first | refine blk_drewN ?_ _ | refine blk_drew ?_ | refine blk_alloc ?_ _)); refine blk_far ?_ NB319_329.out _; (with_reducible repeat (first | refine blk_drewN ?_ _ | refine blk_drew ?_ | refine blk_alloc ?_ _)); refine blk_far ?_ NB319_329.out _; (with_reducible repeat (first | refine blk_drewN ?_ _ | refine blk_drew ?_ | refine blk_alloc ?_ _)); refine blk_far ?_ NB319_329.out _; (with_reducible repeat (first | refine blk_drewN ?_ _ | refine blk_drew ?_ | refine blk_alloc ?_ _)); refine blk_far ?_ NB319_329.out _; (with_reducible repeat (first | refine blk_drewN ?_ _ | refine blk_drew ?_ | refine blk_alloc ?_ _)); exact BK319.out) Try.underlying82 rfl (by kernel_rfl)) rfl ?_
      exact ⟨by first | rfl | (simp [errW_none, errW_some] <;> rfl) | (simp [*, errW_none, errW_some] <;> rfl), by repeat (first | (with_reducible first | exact HB.out | apply below_alloc | apply pw_below_drewN | apply below_drew1 | refine below_set ?_ GE319.out | refine below_set ?_ GE329.out) | exact HB.out)⟩
def wagtailref01_Ints.l0 : Nat → List Int → List Int → Int → Option (Bool)
  | 0, _, _, _ => none
  | k + 1, x0, x1, x5 => if x5 < (x0.length : Int) then (if 0 ≤ x5 then (if x5 < (x1.length : Int) then (if (rd x0 x5) = (rd x1 x5) then (wagtailref01_Ints.l0 k x0 x1 (wrap64 (x5 + 1))) else (some false)) else (none)) else (none)) else (some true)
def wagtailref01_Ints.f (k : Nat) (l0 : List Int) (l1 : List Int) : Option (Bool) := if (l0.length : Int) = (l1.length : Int) then (wagtailref01_Ints.l0 k l0 l1 0) else (some false)
theorem wagtailref01_Ints.mono_l : ∀ k, (∀ y0 y1 y2, LeO (wagtailref01_Ints.l0 k y0 y1 y2) (wagtailref01_Ints.l0 (k + 1) y0 y1 y2))
  | 0 => fun _ _ _ r h => by simp [wagtailref01_Ints.l0] at h
  | k + 1 => by
    have ih0 := wagtailref01_Ints.mono_l k
    · intro y0 y1 y2
      unfold wagtailref01_Ints.l0
      repeat' first
      | (with_reducible exact ih0 _ _ _)
      | (with_reducible exact LeO.refl _)
      | (with_reducible exact LeO.none _)
      | (with_reducible refine LeO.ite ?_ ?_)
      | (with_reducible refine LeO.bind ?_ (fun _ => ?_))
      | exact ih0 _ _ _
      | exact LeO.none _
      | refine LeO.ite ?_ ?_
      | refine LeO.bind ?_ (fun _ => ?_)
theorem wagtailref01_Ints.mono : ∀ a0 a1 k, LeO (wagtailref01_Ints.f k a0 a1) (wagtailref01_Ints.f (k + 1) a0 a1) := by
  intro a0 a1 k
  have ih0 := wagtailref01_Ints.mono_l k
  unfold wagtailref01_Ints.f
  repeat' first
      | (with_reducible exact ih0 _ _ _)
      | (with_reducible exact LeO.refl _)
      | (with_reducible exact LeO.none _)
      | (with_reducible refine LeO.ite ?_ ?_)
      | (with_reducible refine LeO.bind ?_ (fun _ => ?_))
      | exact ih0 _ _ _
      | exact LeO.none _
      | refine LeO.ite ?_ ?_
      | refine LeO.bind ?_ (fun _ => ?_)
set_option maxHeartbeats 8000000 in
set_option maxRecDepth 100000 in
theorem wagtailref01_Ints.calls (k : Nat) (A0 : Option Addr) (c0 : Nat) (l0 : List Int) (A1 : Option Addr) (c1 : Nat) (l1 : List Int) (r : Bool) (w : World) (hr0 : Kd.C (Kd.int .i64) w A0 l0.length l0) (hc0 : l0.length ≤ c0) (hr1 : Kd.C (Kd.int .i64) w A1 l1.length l1) (hc1 : l1.length ≤ c1) (h : wagtailref01_Ints.f k l0 l1 = some r) :
    Calls Try.prog 57 #[.slice A0 l0.length c0, .slice A1 l1.length c1] w fun e w' => e = .returned (.bool r) ∧ Drawn0 w w' := by
  have HR0 := Aside0.mk hr0
  have HC0 := Aside0.mk hc0
  clear hr0 hc0
  have HR1 := Aside0.mk hr1
  have HC1 := Aside0.mk hc1
  clear hr1 hc1
  have H : (if (l0.length : Int) = (l1.length : Int) then (wagtailref01_Ints.l0 k l0 l1 0) else (some false)) = some r := h
  clear h
  by_cases c3 : (l0.length : Int) = (l1.length : Int)
  · rw [if_pos c3] at H
    have c3b0 : ((l0.length : Int) == (l1.length : Int)) = true := beq_iff_eq.mpr c3
    have c3b1 : ((l0.length : Int) != (l1.length : Int)) = false := bne_eq_false_iff_eq.mpr c3
    have c3b2 : (l0.length == l1.length) = true := by first | simpa using c3 | (simp at c3 ⊢; omega)
    clear c3
    have H' := Aside0.mk H
    clear H
    go_enter Try.func57, Try.ntmps57
    go_wp2
    repeat (go_quiet (fail); try go_wp2)
    go_loopg [5] k (fun kq v5 w' => ∃ (x5_1 : Int), v5 = .int .i64 x5_1 ∧ Aside0 (wagtailref01_Ints.l0 kq l0 l1 x5_1 = some r) ∧ Aside0 (kq ≤ k) ∧ Drawn0 w w')
    case atStart => exact ⟨(0), (by first | rfl | (simp; done) | (simp [*]; done)), H', ⟨Nat.le_refl _⟩, by repeat (first | exact Drawn0.refl _ | apply Drawn0.step)⟩
    case round =>
      clear H'
      try clear c1
      try clear p2
      try clear c3
      try clear c3b0
      try clear c3b1
      try clear c3b2
      obtain ⟨x5_1, rfl, HA, HK1, ⟨m1, rfl⟩⟩ := hrel
      cases gk with
      | zero => exact absurd HA.out (by simp [wagtailref01_Ints.l0])
      | succ k1 =>
        have H := HA.out
        clear HA
        simp only [wagtailref01_Ints.l0] at H
        by_cases c4 : x5_1 < (l0.length : Int)
        · rw [if_pos c4] at H
          have c4b0 : decide (x5_1 < (l0.length : Int)) = true := decide_eq_true c4
          clear c4
          by_cases c5 : 0 ≤ x5_1
          · rw [if_pos c5] at H
            have c5b0 : decide (0 ≤ x5_1) = true := decide_eq_true c5
            clear c5
            by_cases c6 : x5_1 < (l1.length : Int)
            · rw [if_pos c6] at H
              have c6b0 : decide (x5_1 < (l1.length : Int)) = true := decide_eq_true c6
              clear c6
              by_cases c7 : (rd l0 x5_1) = (rd l1 x5_1)
              · rw [if_pos c7] at H
                have c7b0 : ((rd l0 x5_1) == (rd l1 x5_1)) = true := beq_iff_eq.mpr c7
                have c7b1 : ((rd l0 x5_1) != (rd l1 x5_1)) = false := bne_eq_false_iff_eq.mpr c7
                clear c7
                have H' := Aside0.mk H
                clear H
                have p332 : 0 ≤ (x5_1 : Int) := of_decide_eq_true (by first | (with_reducible assumption) | assumption)
                have q332 : x5_1 < (l0.length : Int) := of_decide_eq_true (by first | (with_reducible assumption) | assumption)
                obtain ⟨ad332, e332, hx332_0⟩ := Kd.at_int HR0.out x5_1 p332 q332
                cases e332
                replace p332 := eq_true p332
                replace q332 := eq_true q332
                have p333 : 0 ≤ (x5_1 : Int) := of_decide_eq_true (by first | (with_reducible assumption) | assumption)
                have q333 : x5_1 < (l1.length : Int) := of_decide_eq_true (by first | (with_reducible assumption) | assumption)
                obtain ⟨ad333, e333, hx333_0⟩ := Kd.at_int HR1.out x5_1 p333 q333
                cases e333
                replace p333 := eq_true p333
                replace q333 := eq_true q333
                go_wp2
                repeat (go_quiet (fail); try go_wp2)
                go_roundg k1
                case measure => have := HK1.out; omega
                case rel => exact ⟨(wrap64 (x5_1 + 1)), (by first | rfl | (simp; done) | (simp [*]; done)), H', ⟨by have := HK1.out; omega⟩, by repeat (first | exact Drawn0.refl _ | apply Drawn0.step)⟩
              · rw [if_neg c7] at H
                have c7b0 : ((rd l0 x5_1) == (rd l1 x5_1)) = false := beq_eq_false_iff_ne.mpr c7
                have c7b1 : ((rd l0 x5_1) != (rd l1 x5_1)) = true := bne_iff_ne.mpr c7
                obtain rfl := Option.some.inj H
                have p332 : 0 ≤ (x5_1 : Int) := of_decide_eq_true (by first | (with_reducible assumption) | assumption)
                have q332 : x5_1 < (l0.length : Int) := of_decide_eq_true (by first | (with_reducible assumption) | assumption)
                obtain ⟨ad332, e332, hx332_0⟩ := Kd.at_int HR0.out x5_1 p332 q332
                cases e332
                replace p332 := eq_true p332
                replace q332 := eq_true q332
                have p333 : 0 ≤ (x5_1 : Int) := of_decide_eq_true (by first | (with_reducible assumption) | assumption)
                have q333 : x5_1 < (l1.length : Int) := of_decide_eq_true (by first | (with_reducible assumption) | assumption)
                obtain ⟨ad333, e333, hx333_0⟩ := Kd.at_int HR1.out x5_1 p333 q333
                cases e333
                replace p333 := eq_true p333
                replace q333 := eq_true q333
                go_wp2
                repeat (go_quiet (fail); try go_wp2)
                go_ret
                exact ⟨by first | rfl | (simp; done) | (simp [*]; done), by repeat (first | exact Drawn0.refl _ | apply Drawn0.step)⟩
            · rw [if_neg c6] at H
              exact absurd H (by simp)
          · rw [if_neg c5] at H
            exact absurd H (by simp)
        · rw [if_neg c4] at H
          have c4b0 : decide (x5_1 < (l0.length : Int)) = false := decide_eq_false c4
          clear c4
          obtain rfl := Option.some.inj H
          go_wp2
          repeat (go_quiet (fail); try go_wp2)
          go_ret
          exact ⟨by first | rfl | (simp; done) | (simp [*]; done), by repeat (first | exact Drawn0.refl _ | apply Drawn0.step)⟩
  · rw [if_neg c3] at H
    have c3b0 : ((l0.length : Int) == (l1.length : Int)) = false := beq_eq_false_iff_ne.mpr c3
    have c3b1 : ((l0.length : Int) != (l1.length : Int)) = true := bne_iff_ne.mpr c3
    have c3b2 : (l0.length == l1.length) = false := by first | simpa using c3 | (simp at c3 ⊢; omega)
    obtain rfl := Option.some.inj H
    go_enter Try.func57, Try.ntmps57
    go_wp2
    repeat (go_quiet (fail); try go_wp2)
    go_ret
    exact ⟨by first | rfl | (simp; done) | (simp [*]; done), by repeat (first | exact Drawn0.refl _ | apply Drawn0.step)⟩
end Go.Proofs.Ytnchdmidaigheaa.Hp
namespace Go.Proofs.Ytnchdmidaigheaa.Hp
open Go.RowKit Go.Proofs.YtnchdmidaigheaaW.PrintWords Go.Proofs.YtnchdmidaigheaaW.PrintLast Go.Proofs.YtnchdmidaigheaaW.PrintMore
attribute [local go_sem] max2_int min2_int max_two min_two max_three min_three max_four min_four   -- for this text's walks alone
set_option linter.unusedVariables false
set_option linter.unusedSimpArgs false
def wagtailref02_Ones.l0 : Nat → Int → List Int → Int → Option (List Int)
  | 0, _, _, _ => none
  | k + 1, x0, x3, x4 => if x4 < x0 then (if x3.length < 140737488355328 then (wagtailref02_Ones.l0 k x0 (x3 ++ [255]) (wrap64 (x4 + 1))) else (none)) else (some x3)
def wagtailref02_Ones.f (k : Nat) (a0 : Int) : Option (List Int) := wagtailref02_Ones.l0 k a0 ([] : List Int) 0
theorem wagtailref02_Ones.mono_l : ∀ k, (∀ y0 y1 y2, LeO (wagtailref02_Ones.l0 k y0 y1 y2) (wagtailref02_Ones.l0 (k + 1) y0 y1 y2))
  | 0 => fun _ _ _ r h => by simp [wagtailref02_Ones.l0] at h
  | k + 1 => by
    have ih0 := wagtailref02_Ones.mono_l k
    · intro y0 y1 y2
      unfold wagtailref02_Ones.l0
      repeat' first
      | (with_reducible exact ih0 _ _ _)
      | (with_reducible exact LeO.refl _)
      | (with_reducible exact LeO.none _)
      | (with_reducible refine LeO.ite ?_ ?_)
      | (with_reducible refine LeO.bind ?_ (fun _ => ?_))
      | exact ih0 _ _ _
      | exact LeO.none _
      | refine LeO.ite ?_ ?_
      | refine LeO.bind ?_ (fun _ => ?_)
theorem wagtailref02_Ones.mono : ∀ a0 k, LeO (wagtailref02_Ones.f k a0) (wagtailref02_Ones.f (k + 1) a0) := by
  intro a0 k
  have ih0 := wagtailref02_Ones.mono_l k
  unfold wagtailref02_Ones.f
  repeat' first
      | (with_reducible exact ih0 _ _ _)
      | (with_reducible exact LeO.refl _)
      | (with_reducible exact LeO.none _)
      | (with_reducible refine LeO.ite ?_ ?_)
      | (with_reducible refine LeO.bind ?_ (fun _ => ?_))
      | exact ih0 _ _ _
      | exact LeO.none _
      | refine LeO.ite ?_ ?_
      | refine LeO.bind ?_ (fun _ => ?_)
set_option maxHeartbeats 8000000 in
set_option maxRecDepth 100000 in
theorem wagtailref02_Ones.calls (k : Nat) (a0 : Int) (r : List Int) (w : World) (h : wagtailref02_Ones.f k a0 = some r) :
    Calls Try.prog 73 #[.int .i64 a0] w fun e w' => ∃ v0_ : Value, e = .returned (v0_) ∧ Kd.R (Kd.int .u8) 5 w' w.heap.size (fun _ => True) v0_ r ∧ Below w.heap.size w w' := by
  have HB := Aside0.mk (Below.refl w.heap.size w)
  have H : (wagtailref02_Ones.l0 k a0 ([] : List Int) 0) = some r := h
  clear h
  have H' := Aside0.mk H
  clear H
  go_enter Try.func73, Try.ntmps73
  go_wp2
  go_loopg [3, 4] k (fun kq v3 v4 w' => ∃ (x3_1 : List Int) (x4_1 : Int), v4 = .int .i64 x4_1 ∧ Aside0 (wagtailref02_Ones.l0 kq a0 x3_1 x4_1 = some r) ∧ Aside0 (kq ≤ k) ∧ Aside0 (Kd.R (Kd.int .u8) 5 w' w.heap.size (fun _ => True) v3 x3_1) ∧ Aside0 (Below w.heap.size w w'))
  case atStart => exact ⟨(([] : List Int)), (0), (by first | rfl | (simp; done) | (simp [*]; done)), H', ⟨Nat.le_refl _⟩, ⟨by first | exact Kd.R_nil _ _ _ _ _ | exact Kd.N_nil _ _ _ _ _ | exact Kd.V_nil _ _ _ _ _ | exact Kd.Q_nil _ _ _ _ _ | exact Kd.S_nil _ _ _ _ _⟩, ⟨by repeat (first | (with_reducible first | exact HB.out | apply below_alloc | apply pw_below_drewN | apply below_drew1) | exact HB.out)⟩⟩
  case round =>
    clear H'
    obtain ⟨x3_1, x4_1, rfl, HA, HK1, HO_3, HB⟩ := hrel
    cases gk with
    | zero => exact absurd HA.out (by simp [wagtailref02_Ones.l0])
    | succ k1 =>
      have H := HA.out
      clear HA
      simp only [wagtailref02_Ones.l0] at H
      by_cases c2 : x4_1 < a0
      · rw [if_pos c2] at H
        have c2b0 : decide (x4_1 < a0) = true := decide_eq_true c2
        clear c2
        by_cases c3 : x3_1.length < 140737488355328
        · rw [if_pos c3] at H
          have LMc3 := Aside0.mk c3
          clear c3
          obtain ⟨y138, hy138⟩ : ∃ y_ : List Int, y_ = (x3_1 ++ [255]) := ⟨_, rfl⟩
          replace H : (wagtailref02_Ones.l0 k1 a0 y138 (wrap64 (x4_1 + 1))) = some r := by first | (rw [hy138]; with_reducible exact H) | (have H2_ := (Option.bind_some _ _).symm.trans H; rw [hy138]; with_reducible exact H2_) | (have H2_ := (Option.bind_some _ _).symm.trans H; with_reducible exact H2_) | with_reducible exact H | (rw [hy138]; exact H) | exact H
          have Ny138 := Aside0.mk hy138
          clear hy138
          have H' := Aside0.mk H
          clear H
          go_wp2_with (first | ((with_reducible refine gate_builtin (b := .append) (xs := #[.tmp 10, .tmp 11]) rfl ?_); at_builtin; refine Kd.R_append (Kd.int .u8) (w0 := w) w.heap.size rfl (.tmp 10) (.tmp 11) 38 5 (.int .u8 0) 1 rfl Try.underlying38 info5 rfl (by decide) (by omega) u3 x3_1 255 [.int .u8 255] (fun _ => True) (fun _ => False) rfl rfl ?aP (fun _ hk => hk.elim) ?aF ?aO ?aB ?aS ?aL ?_; (case aP => exact rfl); (case aB => exact (by repeat (first | (with_reducible first | exact HB.out | apply below_alloc | apply pw_below_drewN | apply below_drew1) | exact HB.out))); (case aF => exact (fun _ _ => trivial)); (case aO => exact (by (with_reducible repeat (first | apply Kd.R_alloc | apply Kd.R_drewN | apply Kd.R_drew)); exact HO_3.out)); (case aS => exact (below_size (by repeat (first | (with_reducible first | exact HB.out | apply below_alloc | apply pw_below_drewN | apply below_drew1) | exact HB.out)))); (case aL => have := LMc3.out; omega); intro v139 w4 ho hb hg hat; rw [← Ny138.out] at ho; have n0_ := Aside0.mk (hb); have n1_ := Aside0.mk (ho); clear HB; clear HO_3; have HB := n0_; have HO140 := n1_; clear n0_ n1_; clear ho hb hg hat))
          go_roundg k1
          case measure => have := HK1.out; omega
          case rel => exact ⟨(y138), (wrap64 (x4_1 + 1)), (by first | rfl | (simp; done) | (simp [*]; done)), H', ⟨by have := HK1.out; omega⟩, ⟨by (with_reducible repeat (first | apply Kd.R_alloc | apply Kd.R_drewN | apply Kd.R_drew)); exact HO140.out⟩, ⟨by repeat (first | (with_reducible first | exact HB.out | apply below_alloc | apply pw_below_drewN | apply below_drew1) | exact HB.out)⟩⟩
        · rw [if_neg c3] at H
          exact absurd H (by simp)
      · rw [if_neg c2] at H
        have c2b0 : decide (x4_1 < a0) = false := decide_eq_false c2
        clear c2
        obtain rfl := Option.some.inj H
        go_wp2
        go_ret
        exact ⟨_, by first | rfl | (simp [errW_none, errW_some] <;> rfl) | (simp [*, errW_none, errW_some] <;> rfl), by (with_reducible repeat (first | apply Kd.R_alloc | apply Kd.R_drewN | apply Kd.R_drew)); exact HO_3.out, by repeat (first | (with_reducible first | exact HB.out | apply below_alloc | apply pw_below_drewN | apply below_drew1) | exact HB.out)⟩
def wagtailref13_Has.l0 : Nat → List Int → Int → Int → Option (Bool)
  | 0, _, _, _ => none
  | k + 1, x0, x1, x5 => if x5 < (x0.length : Int) then (if 0 ≤ x5 then (if (rd x0 x5) = x1 then (some true) else (wagtailref13_Has.l0 k x0 x1 (wrap64 (x5 + 1)))) else (none)) else (some false)
def wagtailref13_Has.f (k : Nat) (l0 : List Int) (a1 : Int) : Option (Bool) := wagtailref13_Has.l0 k l0 a1 0
theorem wagtailref13_Has.mono_l : ∀ k, (∀ y0 y1 y2, LeO (wagtailref13_Has.l0 k y0 y1 y2) (wagtailref13_Has.l0 (k + 1) y0 y1 y2))
  | 0 => fun _ _ _ r h => by simp [wagtailref13_Has.l0] at h
  | k + 1 => by
    have ih0 := wagtailref13_Has.mono_l k
    · intro y0 y1 y2
      unfold wagtailref13_Has.l0
      repeat' first
      | (with_reducible exact ih0 _ _ _)
      | (with_reducible exact LeO.refl _)
      | (with_reducible exact LeO.none _)
      | (with_reducible refine LeO.ite ?_ ?_)
      | (with_reducible refine LeO.bind ?_ (fun _ => ?_))
      | exact ih0 _ _ _
      | exact LeO.none _
      | refine LeO.ite ?_ ?_
      | refine LeO.bind ?_ (fun _ => ?_)
theorem wagtailref13_Has.mono : ∀ a0 a1 k, LeO (wagtailref13_Has.f k a0 a1) (wagtailref13_Has.f (k + 1) a0 a1) := by
  intro a0 a1 k
  have ih0 := wagtailref13_Has.mono_l k
  unfold wagtailref13_Has.f
  repeat' first
      | (with_reducible exact ih0 _ _ _)
      | (with_reducible exact LeO.refl _)
      | (with_reducible exact LeO.none _)
      | (with_reducible refine LeO.ite ?_ ?_)
      | (with_reducible refine LeO.bind ?_ (fun _ => ?_))
      | exact ih0 _ _ _
      | exact LeO.none _
      | refine LeO.ite ?_ ?_
      | refine LeO.bind ?_ (fun _ => ?_)
set_option maxHeartbeats 8000000 in
set_option maxRecDepth 100000 in
theorem wagtailref13_Has.calls (k : Nat) (A0 : Option Addr) (c0 : Nat) (l0 : List Int) (a1 : Int) (r : Bool) (w : World) (hr0 : Kd.C (Kd.int .i64) w A0 l0.length l0) (hc0 : l0.length ≤ c0) (h : wagtailref13_Has.f k l0 a1 = some r) :
    Calls Try.prog 44 #[.slice A0 l0.length c0, .int .i64 a1] w fun e w' => e = .returned (.bool r) ∧ Drawn0 w w' := by
  have HR0 := Aside0.mk hr0
  have HC0 := Aside0.mk hc0
  clear hr0 hc0
  have H : (wagtailref13_Has.l0 k l0 a1 0) = some r := h
  clear h
  have H' := Aside0.mk H
  clear H
  go_enter Try.func44, Try.ntmps44
  go_wp2
  go_loopg [5] k (fun kq v5 w' => ∃ (x5_1 : Int), v5 = .int .i64 x5_1 ∧ Aside0 (wagtailref13_Has.l0 kq l0 a1 x5_1 = some r) ∧ Aside0 (kq ≤ k) ∧ Drawn0 w w')
  case atStart => exact ⟨(0), (by first | rfl | (simp; done) | (simp [*]; done)), H', ⟨Nat.le_refl _⟩, by repeat (first | exact Drawn0.refl _ | apply Drawn0.step)⟩
  case round =>
    clear H'
    try clear p2
    obtain ⟨x5_1, rfl, HA, HK1, ⟨m1, rfl⟩⟩ := hrel
    cases gk with
    | zero => exact absurd HA.out (by simp [wagtailref13_Has.l0])
    | succ k1 =>
      have H := HA.out
      clear HA
      simp only [wagtailref13_Has.l0] at H
      by_cases c3 : x5_1 < (l0.length : Int)
      · rw [if_pos c3] at H
        have c3b0 : decide (x5_1 < (l0.length : Int)) = true := decide_eq_true c3
        clear c3
        by_cases c4 : 0 ≤ x5_1
        · rw [if_pos c4] at H
          have c4b0 : decide (0 ≤ x5_1) = true := decide_eq_true c4
          clear c4
          by_cases c5 : (rd l0 x5_1) = a1
          · rw [if_pos c5] at H
            have c5b0 : ((rd l0 x5_1) == a1) = true := beq_iff_eq.mpr c5
            have c5b1 : ((rd l0 x5_1) != a1) = false := bne_eq_false_iff_eq.mpr c5
            clear c5
            obtain rfl := Option.some.inj H
            have p155 : 0 ≤ (x5_1 : Int) := of_decide_eq_true (by first | (with_reducible assumption) | assumption)
            have q155 : x5_1 < (l0.length : Int) := of_decide_eq_true (by first | (with_reducible assumption) | assumption)
            obtain ⟨ad155, e155, hx155_0⟩ := Kd.at_int HR0.out x5_1 p155 q155
            cases e155
            replace p155 := eq_true p155
            replace q155 := eq_true q155
            go_wp2
            go_ret
            exact ⟨by first | rfl | (simp; done) | (simp [*]; done), by repeat (first | exact Drawn0.refl _ | apply Drawn0.step)⟩
          · rw [if_neg c5] at H
            have c5b0 : ((rd l0 x5_1) == a1) = false := beq_eq_false_iff_ne.mpr c5
            have c5b1 : ((rd l0 x5_1) != a1) = true := bne_iff_ne.mpr c5
            have H' := Aside0.mk H
            clear H
            have p155 : 0 ≤ (x5_1 : Int) := of_decide_eq_true (by first | (with_reducible assumption) | assumption)
            have q155 : x5_1 < (l0.length : Int) := of_decide_eq_true (by first | (with_reducible assumption) | assumption)
            obtain ⟨ad155, e155, hx155_0⟩ := Kd.at_int HR0.out x5_1 p155 q155
            cases e155
            replace p155 := eq_true p155
            replace q155 := eq_true q155
            go_wp2
            go_roundg k1
            case measure => have := HK1.out; omega
            case rel => exact ⟨(wrap64 (x5_1 + 1)), (by first | rfl | (simp; done) | (simp [*]; done)), H', ⟨by have := HK1.out; omega⟩, by repeat (first | exact Drawn0.refl _ | apply Drawn0.step)⟩
        · rw [if_neg c4] at H
          exact absurd H (by simp)
      · rw [if_neg c3] at H
        have c3b0 : decide (x5_1 < (l0.length : Int)) = false := decide_eq_false c3
        clear c3
        obtain rfl := Option.some.inj H
        go_wp2
        go_ret
        exact ⟨by first | rfl | (simp; done) | (simp [*]; done), by repeat (first | exact Drawn0.refl _ | apply Drawn0.step)⟩
end Go.Proofs.Ytnchdmidaigheaa.Hp
namespace Go.Proofs.Ytnchdmidaigheaa.Hp
open Go.RowKit Go.Proofs.YtnchdmidaigheaaW.PrintWords Go.Proofs.YtnchdmidaigheaaW.PrintLast Go.Proofs.YtnchdmidaigheaaW.PrintMore
attribute [local go_sem] max2_int min2_int max_two min_two max_three min_three max_four min_four   -- for this text's walks alone
set_option linter.unusedVariables false
set_option linter.unusedSimpArgs false
def wagtailref01_Bytes.l0 : Nat → Int → Int → List Int → Int → Option (List Int)
  | 0, _, _, _, _ => none
  | k + 1, x0, x1, x5, x6 => if x6 < x0 then (if x6 < 8 then ((some (([(Int.tmod x1 256) % 256] : List Int) : List Int)).bind fun y338 => (if y338.length + x5.length < 140737488355328 then (wagtailref01_Bytes.l0 k x0 (IntKind.u64.wrap (Int.tdiv x1 256)) (y338 ++ x5) (wrap64 (x6 + 1))) else (none))) else (some x5)) else (some x5)
def wagtailref01_Bytes.f (k : Nat) (a0 : Int) (a1 : Int) : Option (List Int) := wagtailref01_Bytes.l0 k a0 a1 ([] : List Int) 0
theorem wagtailref01_Bytes.mono_l : ∀ k, (∀ y0 y1 y2 y3, LeO (wagtailref01_Bytes.l0 k y0 y1 y2 y3) (wagtailref01_Bytes.l0 (k + 1) y0 y1 y2 y3))
  | 0 => fun _ _ _ _ r h => by simp [wagtailref01_Bytes.l0] at h
  | k + 1 => by
    have ih0 := wagtailref01_Bytes.mono_l k
    · intro y0 y1 y2 y3
      unfold wagtailref01_Bytes.l0
      repeat' first
      | (with_reducible exact ih0 _ _ _ _)
      | (with_reducible exact LeO.refl _)
      | (with_reducible exact LeO.none _)
      | (with_reducible refine LeO.ite ?_ ?_)
      | (with_reducible refine LeO.bind ?_ (fun _ => ?_))
      | exact ih0 _ _ _ _
      | exact LeO.none _
      | refine LeO.ite ?_ ?_
      | refine LeO.bind ?_ (fun _ => ?_)
theorem wagtailref01_Bytes.mono : ∀ a0 a1 k, LeO (wagtailref01_Bytes.f k a0 a1) (wagtailref01_Bytes.f (k + 1) a0 a1) := by
  intro a0 a1 k
  have ih0 := wagtailref01_Bytes.mono_l k
  unfold wagtailref01_Bytes.f
  repeat' first
      | (with_reducible exact ih0 _ _ _ _)
      | (with_reducible exact LeO.refl _)
      | (with_reducible exact LeO.none _)
      | (with_reducible refine LeO.ite ?_ ?_)
      | (with_reducible refine LeO.bind ?_ (fun _ => ?_))
      | exact ih0 _ _ _ _
      | exact LeO.none _
      | refine LeO.ite ?_ ?_
      | refine LeO.bind ?_ (fun _ => ?_)
set_option maxHeartbeats 8000000 in
set_option maxRecDepth 100000 in
theorem wagtailref01_Bytes.calls (k : Nat) (a0 : Int) (a1 : Int) (r : List Int) (w : World) (h : wagtailref01_Bytes.f k a0 a1 = some r) :
    Calls Try.prog 114 #[.int .i64 a0, .int .u64 a1] w fun e w' => ∃ v0_ : Value, e = .returned (v0_) ∧ Kd.R (Kd.int .u8) 5 w' w.heap.size (fun _ => True) v0_ r ∧ Below w.heap.size w w' := by
  have HB := Aside0.mk (Below.refl w.heap.size w)
  have H : (wagtailref01_Bytes.l0 k a0 a1 ([] : List Int) 0) = some r := h
  clear h
  have H' := Aside0.mk H
  clear H
  go_enter Try.func114, Try.ntmps114
  go_wp2
  go_loopg [1, 5, 6] k (fun kq v1 v5 v6 w' => ∃ (x1_1 : Int) (x5_1 : List Int) (x6_1 : Int), v1 = .int .u64 x1_1 ∧ v6 = .int .i64 x6_1 ∧ Aside0 (wagtailref01_Bytes.l0 kq a0 x1_1 x5_1 x6_1 = some r) ∧ Aside0 (kq ≤ k) ∧ Aside0 (Kd.R (Kd.int .u8) 5 w' w.heap.size (fun _ => True) v5 x5_1) ∧ Aside0 (Below w.heap.size w w'))
  case atStart => exact ⟨(a1), (([] : List Int)), (0), (by first | rfl | (simp; done) | (simp [*]; done)), (by first | rfl | (simp; done) | (simp [*]; done)), H', ⟨Nat.le_refl _⟩, ⟨by first | exact Kd.R_nil _ _ _ _ _ | exact Kd.N_nil _ _ _ _ _ | exact Kd.V_nil _ _ _ _ _ | exact Kd.Q_nil _ _ _ _ _ | exact Kd.S_nil _ _ _ _ _⟩, ⟨by repeat (first | (with_reducible first | exact HB.out | apply below_alloc | apply pw_below_drewN | apply below_drew1) | exact HB.out)⟩⟩
  case round =>
    clear H'
    try clear c1
    try clear p2
    obtain ⟨x1_1, x5_1, x6_1, rfl, rfl, HA, HK1, HO_5, HB⟩ := hrel
    cases gk with
    | zero => exact absurd HA.out (by simp [wagtailref01_Bytes.l0])
    | succ k1 =>
      have H := HA.out
      clear HA
      simp only [wagtailref01_Bytes.l0] at H
      by_cases c3 : x6_1 < a0
      · rw [if_pos c3] at H
        have c3b0 : decide (x6_1 < a0) = true := decide_eq_true c3
        clear c3
        by_cases c4 : x6_1 < 8
        · rw [if_pos c4] at H
          have c4b0 : decide (x6_1 < 8) = true := decide_eq_true c4
          clear c4
          obtain ⟨y338, hy338⟩ : ∃ y_ : List Int, y_ = (([(Int.tmod x1_1 256) % 256] : List Int)) := ⟨_, rfl⟩
          replace H : (if y338.length + x5_1.length < 140737488355328 then (wagtailref01_Bytes.l0 k1 a0 (IntKind.u64.wrap (Int.tdiv x1_1 256)) (y338 ++ x5_1) (wrap64 (x6_1 + 1))) else (none)) = some r := by first | (rw [hy338]; with_reducible exact H) | (have H2_ := (Option.bind_some _ _).symm.trans H; rw [hy338]; with_reducible exact H2_) | (have H2_ := (Option.bind_some _ _).symm.trans H; with_reducible exact H2_) | with_reducible exact H | (rw [hy338]; exact H) | exact H
          have Ny338 := Aside0.mk hy338
          clear hy338
          by_cases c5 : y338.length + x5_1.length < 140737488355328
          · rw [if_pos c5] at H
            have LMc5 := Aside0.mk c5
            clear c5
            obtain ⟨y341, hy341⟩ : ∃ y_ : List Int, y_ = (y338 ++ x5_1) := ⟨_, rfl⟩
            replace H : (wagtailref01_Bytes.l0 k1 a0 (IntKind.u64.wrap (Int.tdiv x1_1 256)) y341 (wrap64 (x6_1 + 1))) = some r := by first | (rw [hy341]; with_reducible exact H) | (have H2_ := (Option.bind_some _ _).symm.trans H; rw [hy341]; with_reducible exact H2_) | (have H2_ := (Option.bind_some _ _).symm.trans H; with_reducible exact H2_) | with_reducible exact H | (rw [hy341]; exact H) | exact H
            have Ny341 := Aside0.mk hy341
            clear hy341
            have H' := Aside0.mk H
            clear H
            go_wp2_with (first | ((with_reducible refine gate_dst (N := 19) rfl ?_); refine Kd.R_lit (Kd.int .u8) _ 5 ?hg (N := 19) ?hd (xs := ([(Int.tmod x1_1 256) % 256] : List Int)) (inner := [.int .u8 ((Int.tmod x1_1 256) % 256)]) (ok := fun _ => True) (okp := fun _ => True) ?hr ?hp (fun _ hk => hk) trivial (Below.refl _ _) (Nat.le_refl _) (by simp) ?_; (case hd => rfl); (case hg => rfl); (case hr => first | (go_simp; done) | (go_simp; rfl)); (case hp => exact (Reps.one (show Kd.M (Kd.int .u8) _ _ _ ((Int.tmod x1_1 256) % 256) [.int .u8 ((Int.tmod x1_1 256) % 256)] from rfl) (Reps.none _ _))); intro v339 w6 ho7 hb hg_ hnew_; clear hg_ hnew_; (first | rw [← Ny338.out] at ho7 | (simp only [Int.reduceToNat] at ho7; rw [← Ny338.out] at ho7)); have n0_ := Aside0.mk (Kd.R_elder' (by (with_reducible repeat (first | apply Kd.R_alloc | apply Kd.R_drewN | apply Kd.R_drew)); exact HO_5.out) (Kd.R_base ho7) hb); have n1_ := Aside0.mk (Kd.R_lower (Kd.R_new' ho7 (Kd.R_lt (by (with_reducible repeat (first | apply Kd.R_alloc | apply Kd.R_drewN | apply Kd.R_drew)); exact HO_5.out))) (below_size (by repeat (first | (with_reducible first | exact HB.out | apply below_alloc | apply pw_below_drewN | apply below_drew1) | exact HB.out)))); have n2_ := Aside0.mk (below_step (by repeat (first | (with_reducible first | exact HB.out | apply below_alloc | apply pw_below_drewN | apply below_drew1) | exact HB.out)) hb); clear HO_5; clear HB; have HO_5 := n0_; have HO340 := n1_; have HB := n2_; clear n0_ n1_ n2_; clear hb ho7; obtain ⟨Ao9, co9, eo9⟩ := Kd.R_slice HO_5.out; subst eo9) | ((with_reducible refine gate_builtin (b := .append) (xs := #[.tmp 19, .tmp 20]) rfl ?_); at_builtin; refine Kd.R_append_rows (Kd.int .u8) (w0 := w) w.heap.size rfl (.tmp 19) (.tmp 20) 38 5 (.int .u8 0) 1 rfl Try.underlying38 info5 rfl (by decide) (by omega) v339 y338 x5_1 _ _ _ (fun k_ => some k_ ≠ (.slice Ao9 x5_1.length co9 : Value).ownBlock) (fun _ => False) rfl rfl ?aO ?aR (fun _ _ h => h) (fun _ h => h.elim) ?aF ?aB ?aS ?aL ?_; (case aR => repeat (first | exact (Kd.R_reads' HO_5.out).2.2 | (with_reducible refine Kd.C_alloc ?_ _) | (with_reducible refine Kd.C_drewN ?_ _) | (with_reducible refine Kd.C_drew ?_))); (case aB => exact (by repeat (first | (with_reducible first | exact HB.out | apply below_alloc | apply pw_below_drewN | apply below_drew1) | exact HB.out))); (case aF => exact (fun k_ hk => Kd.fresh' (Kd.R_lt (by (with_reducible repeat (first | apply Kd.R_alloc | apply Kd.R_drewN | apply Kd.R_drew)); exact HO_5.out)) k_ hk)); (case aO => exact (by (with_reducible repeat (first | apply Kd.R_alloc | apply Kd.R_drewN | apply Kd.R_drew)); exact Kd.R_mono HO340.out (fun _ hk => hk.2))); (case aS => exact (below_size (by repeat (first | (with_reducible first | exact HB.out | apply below_alloc | apply pw_below_drewN | apply below_drew1) | exact HB.out)))); (case aL => have := LMc5.out; omega); intro v342 w8 ho hb hg hat; rw [← Ny341.out] at ho; have n0_ := Aside0.mk (Kd.R_after (ok := (fun _ => True)) (by (with_reducible repeat (first | apply Kd.R_alloc | apply Kd.R_drewN | apply Kd.R_drew)); exact HO_5.out) hg hat); have n1_ := Aside0.mk (hb); have n2_ := Aside0.mk (ho); clear HO_5; clear HB; clear HO340; have HO_5 := n0_; have HB := n1_; have HO343 := n2_; clear n0_ n1_ n2_; clear ho hb hg hat))
            go_roundg k1
            case measure => have := HK1.out; omega
            case rel => exact ⟨(IntKind.u64.wrap (Int.tdiv x1_1 256)), (y341), (wrap64 (x6_1 + 1)), (by first | rfl | (simp; done) | (simp [*]; done)), (by first | rfl | (simp; done) | (simp [*]; done)), H', ⟨by have := HK1.out; omega⟩, ⟨by (with_reducible repeat (first | apply Kd.R_alloc | apply Kd.R_drewN | apply Kd.R_drew)); exact Kd.R_mono HO343.out (fun _ hk => trivial)⟩, ⟨by repeat (first | (with_reducible first | exact HB.out | apply below_alloc | apply pw_below_drewN | apply below_drew1) | exact HB.out)⟩⟩
          · rw [if_neg c5] at H
            exact absurd H (by simp)
        · rw [if_neg c4] at H
          have c4b0 : decide (x6_1 < 8) = false := decide_eq_false c4
          clear c4
          obtain rfl := Option.some.inj H
          go_wp2
          go_ret
          exact ⟨_, by first | rfl | (simp [errW_none, errW_some] <;> rfl) | (simp [*, errW_none, errW_some] <;> rfl), by (with_reducible repeat (first | apply Kd.R_alloc | apply Kd.R_drewN | apply Kd.R_drew)); exact HO_5.out, by repeat (first | (with_reducible first | exact HB.out | apply below_alloc | apply pw_below_drewN | apply below_drew1) | exact HB.out)⟩
      · rw [if_neg c3] at H
        have c3b0 : decide (x6_1 < a0) = false := decide_eq_false c3
        clear c3
        obtain rfl := Option.some.inj H
        go_wp2
        go_ret
        exact ⟨_, by first | rfl | (simp [errW_none, errW_some] <;> rfl) | (simp [*, errW_none, errW_some] <;> rfl), by (with_reducible repeat (first | apply Kd.R_alloc | apply Kd.R_drewN | apply Kd.R_drew)); exact HO_5.out, by repeat (first | (with_reducible first | exact HB.out | apply below_alloc | apply pw_below_drewN | apply below_drew1) | exact HB.out)⟩
end Go.Proofs.Ytnchdmidaigheaa.Hp
namespace Go.Proofs.Ytnchdmidaigheaa.Hp
open Go.RowKit Go.Proofs.YtnchdmidaigheaaW.PrintWords Go.Proofs.YtnchdmidaigheaaW.PrintLast Go.Proofs.YtnchdmidaigheaaW.PrintMore
attribute [local go_sem] max2_int min2_int max_two min_two max_three min_three max_four min_four   -- for this text's walks alone
set_option linter.unusedVariables false
set_option linter.unusedSimpArgs false
def wagtailref15_Put.f (k i c b o l n : Int) (d : ByteArray) : Option ByteArray := if headMay k i c b o l n = true ∧ 0 ≤ b ∧ 0 ≤ o ∧ d.size ≤ 228 then some (strOfNums (pageBody k i c b o l n (bytesOf d) ++ beBytes 4 (zsum (pageBody k i c b o l n (bytesOf d))))) else none
def Str (w : World) (z : Value) (x : ByteArray) : Prop := ∀ W, Below w.heap.size w W → Sem.run Try.prog (convert 38 9 z) W = .ok (.string x) W
theorem Str.step {w w2 : World} {z : Value} {x : ByteArray} (h : Str w z x) (hb : Below w.heap.size w w2) : Str w2 z x := fun W hW => h W (below_then hb hb.size hW)
theorem Str.here {w : World} {z : Value} {x : ByteArray} (h : Str w z x) : Sem.run Try.prog (convert 38 9 z) w = .ok (.string x) w := h w (Below.refl _ _)
theorem Str.of_R {w : World} {e base : Nat} {ok : Nat → Prop} {v : Value} {l : List Int} {x : ByteArray} (h : Kd.R (Kd.int .u8) e w base ok v l) (hx : x = strOfNums l) : Str w v x := by
  obtain ⟨A, c, rfl, hl, hC⟩ := Kd.R_reads h
  intro W hW
  rw [hx]
  exact c_string Try.underlying38 Try.underlying5 Try.underlying9 (Kd.C_below hC hW)
theorem wagtailref15_Put.ref_bytes_loop (n : Int) (h0 : 0 ≤ n) (h1 : n < 18446744073709551616) (w : Nat) (hw : w ≤ 8) : ∀ (d j : Nat), j + d = w → ∀ k, d < k → wagtailref01_Bytes.l0 k (w : Int) (n / 256 ^ j) (beBytes j n) (j : Int) = some (beBytes w n) := by
  intro d
  induction d with
  | zero =>
    intro j hj k hk
    obtain ⟨k, rfl⟩ : ∃ m, k = m + 1 := ⟨k - 1, by omega⟩
    have : j = w := by omega
    subst this
    simp only [wagtailref01_Bytes.l0]
    rw [if_neg (by omega)]
  | succ d ih =>
    intro j hj k hk
    obtain ⟨k, rfl⟩ : ∃ m, k = m + 1 := ⟨k - 1, by omega⟩
    simp only [wagtailref01_Bytes.l0]
    have hq0 : 0 ≤ n / 256 ^ j := Int.ediv_nonneg h0 (Int.le_of_lt (Int.pow_pos (by omega)))
    have hq1 : n / 256 ^ j < 18446744073709551616 := Int.lt_of_le_of_lt (Int.ediv_le_self _ h0) h1
    rw [if_pos (by omega), if_pos (by omega)]
    simp only [Option.bind_some]
    rw [if_pos (by simp [beBytes_len]; omega)]
    have e1 : IntKind.u64.wrap (Int.tdiv (n / 256 ^ j) 256) = n / 256 ^ (j + 1) := by
      rw [Int.tdiv_eq_ediv_of_nonneg hq0, IntKind.wrap_u64, Int.pow_succ, ← Int.ediv_ediv_of_nonneg (Int.le_of_lt (Int.pow_pos (by omega)))]
      have := Int.ediv_le_self 256 hq0
      have h2 : 0 ≤ n / 256 ^ j / 256 := Int.ediv_nonneg hq0 (by omega)
      omega
    have e2 : [(Int.tmod (n / 256 ^ j) 256) % 256] ++ beBytes j n = beBytes (j + 1) n := by
      rw [Int.tmod_eq_emod_of_nonneg hq0, beBytes_succ]
      simp
    have e3 : wrap64 ((j : Int) + 1) = ((j + 1 : Nat) : Int) := by unfold wrap64; omega
    rw [e1, e2, e3]
    exact ih (j + 1) (by omega) k (by omega)
theorem wagtailref15_Put.ref_bytes (n : Int) (h0 : 0 ≤ n) (h1 : n < 18446744073709551616) (w : Nat) (hw : w ≤ 8) : wagtailref01_Bytes.f 9 (w : Int) n = some (beBytes w n) := by
  have h := ref_bytes_loop n h0 h1 w hw w 0 (by omega) 9 (by omega)
  simpa [wagtailref01_Bytes.f, beBytes] using h
theorem wagtailref15_Put.ref_bytes_calls (n : Int) (h0 : 0 ≤ n) (h1 : n < 18446744073709551616) (w : Nat) (hw : w ≤ 8) (wi : Int) (hwi : (w : Int) = wi) (x : ByteArray) (hx : x = strOfNums (beBytes w n)) (W : World) :
    Calls Try.prog 114 #[.int .i64 wi, .int .u64 n] W fun e w' => ∃ z, e = .returned z ∧ Below W.heap.size W w' ∧ Str w' z x := by
  subst hwi
  refine (wagtailref01_Bytes.calls 9 w n _ W (ref_bytes n h0 h1 w hw)).mono ?_
  rintro e w' ⟨z, rfl, hr, hb⟩
  exact ⟨z, rfl, hb, Str.of_R hr hx⟩
theorem wagtailref15_Put.ref_ones_loop (n : Nat) (hn : n ≤ 2000000) : ∀ (d i : Nat), i + d = n → ∀ k, d < k → wagtailref02_Ones.l0 k (n : Int) (List.replicate i 255) (i : Int) = some (List.replicate n 255) := by
  intro d
  induction d with
  | zero =>
    intro i hi k hk
    obtain ⟨k, rfl⟩ : ∃ m, k = m + 1 := ⟨k - 1, by omega⟩
    have : i = n := by omega
    subst this
    simp only [wagtailref02_Ones.l0]
    rw [if_neg (by omega)]
  | succ d ih =>
    intro i hi k hk
    obtain ⟨k, rfl⟩ : ∃ m, k = m + 1 := ⟨k - 1, by omega⟩
    simp only [wagtailref02_Ones.l0]
    rw [if_pos (by omega), if_pos (by simp; omega)]
    have e1 : List.replicate i (255 : Int) ++ [255] = List.replicate (i + 1) 255 := by rw [List.replicate_succ']
    have e3 : wrap64 ((i : Int) + 1) = ((i + 1 : Nat) : Int) := by unfold wrap64; omega
    rw [e1, e3]
    exact ih (i + 1) (by omega) k (by omega)
theorem wagtailref15_Put.ref_ones_calls (n : Nat) (hn : n ≤ 2000000) (ni : Int) (hni : (n : Int) = ni) (x : ByteArray) (hx : x = strOfNums (List.replicate n 255)) (W : World) :
    Calls Try.prog 73 #[.int .i64 ni] W fun e w' => ∃ z, e = .returned z ∧ Below W.heap.size W w' ∧ Str w' z x := by
  subst hni
  refine (wagtailref02_Ones.calls (n + 1) n _ W (by simpa [wagtailref02_Ones.f] using ref_ones_loop n hn n 0 (by omega) (n + 1) (by omega))).mono ?_
  rintro e w' ⟨z, rfl, hr, hb⟩
  exact ⟨z, rfl, hb, Str.of_R hr hx⟩
theorem wagtailref15_Put.str_append (a b : List Int) : strOfNums a ++ strOfNums b = strOfNums (a ++ b) := by
  apply ByteArray.ext
  simp [strOfNums]
theorem wagtailref15_Put.bytesOf_str (a : List Int) (h : isBytes a) : bytesOf (strOfNums a) = a := by
  unfold bytesOf strOfNums
  simp only [List.map_map]
  conv => rhs; rw [← List.map_id a]
  refine List.map_congr_left (fun x hx => ?_)
  have := h x hx
  simp only [Function.comp, id, UInt8.toNat_ofNat']
  omega
theorem wagtailref15_Put.str_size (a : List Int) : (strOfNums a).size = a.length := by
  simp [strOfNums, ByteArray.size]
theorem wagtailref15_Put.headMay_range {k i c b o l n : Int} (h : headMay k i c b o l n = true) : (1 ≤ k ∧ k ≤ 5) ∧ (1 ≤ c ∧ c ≤ 16) ∧ (0 ≤ i ∧ i < c) ∧ b < 2147483648 ∧ o < 2147483648 ∧ (0 ≤ l ∧ l ≤ 65535) ∧ 0 ≤ n ∧ n ≤ 228 := by
  unfold headMay within at h
  simp only [Bool.and_eq_true, decide_eq_true_eq] at h
  obtain ⟨⟨h1, h2, h3⟩, h4, h5, h6, h7⟩ := h
  refine ⟨h1, h2, ⟨h3.1, ?_⟩, h4, h5, h6, h7⟩
  have := h3.2
  unfold wrap64 at this
  omega
theorem wagtailref15_Put.zsum_snoc (l : List Int) (i : Nat) (h : i < l.length) : zsum (l.take (i + 1)) = zsum (l.take i) + zbits (l.getD i 0) := by
  unfold zsum
  rw [List.take_add_one, List.getElem?_eq_getElem h, List.getD_eq_getElem?_getD, List.getElem?_eq_getElem h, List.map_append, List.sum_append]
  simp only [Option.toList_some, List.map_cons, List.map_nil, List.sum_cons, List.sum_nil, Int.add_zero, Option.getD_some]
theorem wagtailref15_Put.zbits_range (c : Int) : 0 ≤ zbits c ∧ zbits c ≤ 8 := by unfold zbits; omega
theorem wagtailref15_Put.zsum_range (l : List Int) : 0 ≤ zsum l ∧ zsum l ≤ 8 * l.length := by
  induction l with
  | nil => simp [zsum]
  | cons a l ih =>
    have := zbits_range a
    simp only [zsum, List.map_cons, List.sum_cons, List.length_cons] at ih ⊢
    omega
theorem wagtailref15_Put.str_bytes (a : ByteArray) : strOfNums (bytesOf a) = a := by
  apply ByteArray.ext
  simp only [strOfNums, bytesOf, List.map_map]
  have : (fun n : Int => UInt8.ofNat n.toNat) ∘ (fun b : UInt8 => (b.toNat : Int)) = id := by
    funext b
    simp
  rw [this]
  simp
theorem wagtailref15_Put.bytes_isBytes (a : ByteArray) : isBytes (bytesOf a) := by
  intro x hx
  unfold bytesOf at hx
  obtain ⟨b, _, rfl⟩ := List.mem_map.1 hx
  have := b.toNat_lt
  omega
theorem wagtailref15_Put.beBytes_isBytes (w : Nat) (n : Int) : isBytes (beBytes w n) := by
  intro x hx
  unfold beBytes at hx
  obtain ⟨i, _, rfl⟩ := List.mem_map.1 hx
  omega
theorem wagtailref15_Put.pageBody_bytes (k i c b o l n : Int) (d : List Int) (hd : isBytes d) : isBytes (pageBody k i c b o l n d) := by
  intro x hx
  unfold pageBody pageHead at hx
  simp only [List.mem_append, List.mem_cons, List.not_mem_nil, or_false, List.mem_replicate] at hx
  rcases hx with (((((h | h) | h) | h) | h) | h) | h
  · rcases h with rfl | rfl | rfl | rfl <;> omega
  · exact beBytes_isBytes _ _ x h
  · exact beBytes_isBytes _ _ x h
  · exact beBytes_isBytes _ _ x h
  · exact beBytes_isBytes _ _ x h
  · exact hd x h
  · omega
def wagtailref15_Put.T1 : Bool × List (List Nat × List Nat) := (true, [([], []), ([0], [0]), ([1], [1]), ([], []), ([3], [3]), ([4], [4]), ([], []), ([6], [6]), ([7], [7]), ([2, 5, 8], [2, 5, 8]), ([9], [9]), ([], []), ([11], [11]), ([12], [12]), ([13], [13]), ([10, 14], [10, 14]), ([], []), ([16], [16]), ([17, 13], [17]), ([18], [18]), ([15, 19], [15, 19]), ([], []), ([21], [21]), ([22], [22]), ([23, 18], [23]), ([24], [24]), ([20, 25], [20, 25]), ([], []), ([27], [27]), ([28], [28]), ([29, 24], [29]), ([30], [30]), ([26, 31], [26, 31]), ([], []), ([32, 33], [32, 33]), ([34, 30, 0, 1, 2, 3, 4, 5, 6, 7, 8, 9, 10, 11, 12, 13, 14, 15, 16, 17, 18, 19, 20, 21, 22, 23, 24, 25, 26, 27, 28, 29, 30, 31, 32, 33, 34], [34])])
def wagtailref15_Put.B1 : List Nat := [0, 1, 3, 0, 8, 24, 0, 64, 192, 511, 1023, 0, 2048, 6144, 14336, 32767, 0, 65536, 210944, 473088, 1048575, 0, 2097152, 6291456, 15153152, 31930368, 67108863, 0, 134217728, 402653184, 971454464, 2045196288, 4294967295, 0, 17179869183, 34359738367]
theorem wagtailref15_Put.tab1 : rtab .any (opsOf Try.f94 1) = wagtailref15_Put.T1 := by kernel_rfl
theorem wagtailref15_Put.bits1 : waitsOk wagtailref15_Put.T1.2 wagtailref15_Put.B1 = true := by kernel_rfl
set_option maxHeartbeats 8000000 in
set_option maxRecDepth 100000 in
theorem wagtailref15_Put.calls (a0_0 : Int) (a0_1 : Int) (a0_2 : Int) (a0_3 : Int) (a0_4 : Int) (a0_5 : Int) (a0_6 : Int) (a1 : ByteArray) (r : ByteArray) (w : World) (h : wagtailref15_Put.f a0_0 a0_1 a0_2 a0_3 a0_4 a0_5 a0_6 a1 = some r) :
    Calls Try.prog 94 #[.agg #[.int .i64 a0_0, .int .i64 a0_1, .int .i64 a0_2, .int .u64 a0_3, .int .u64 a0_4, .int .i64 a0_5, .int .i64 a0_6], .string a1] w fun e w' => e = .returned (.string r) ∧ Below w.heap.size w w' := by
  unfold wagtailref15_Put.f at h
  by_cases hm : headMay a0_0 a0_1 a0_2 a0_3 a0_4 a0_5 a0_6 = true ∧ 0 ≤ a0_3 ∧ 0 ≤ a0_4 ∧ a1.size ≤ 228
  case neg => rw [if_neg hm] at h; cases h
  rw [if_pos hm] at h
  obtain rfl := Option.some.inj h
  obtain ⟨hm, hb0, ho0, hd⟩ := hm
  clear h
  obtain ⟨L, hL⟩ : ∃ L, L = pageBody a0_0 a0_1 a0_2 a0_3 a0_4 a0_5 a0_6 (bytesOf a1) := ⟨_, rfl⟩
  rw [← hL]
  replace hL := Aside0.mk hL
  have hrg := headMay_range hm
  have X13 := Aside0.mk (wagtailref15_Put.ref_bytes_calls a0_3 hb0 (by omega) 8 (by omega) 8 rfl)
  have X18 := Aside0.mk (wagtailref15_Put.ref_bytes_calls a0_4 ho0 (by omega) 8 (by omega) 8 rfl)
  have X24 := Aside0.mk (wagtailref15_Put.ref_bytes_calls (IntKind.u64.wrap a0_5) (by rw [IntKind.wrap_u64]; omega) (by rw [IntKind.wrap_u64]; omega) 2 (by omega) 2 rfl)
  have X30 := Aside0.mk (wagtailref15_Put.ref_bytes_calls (IntKind.u64.wrap a0_6) (by rw [IntKind.wrap_u64]; omega) (by rw [IntKind.wrap_u64]; omega) 2 (by omega) 2 rfl)
  obtain ⟨x9, hx9⟩ : ∃ x, x = strOfNums [a0_0 % 256, a0_1 % 256, a0_2 % 256, 0] := ⟨_, rfl⟩
  obtain ⟨x13, hx13⟩ : ∃ x, x = strOfNums (beBytes 8 a0_3) := ⟨_, rfl⟩
  obtain ⟨x18, hx18⟩ : ∃ x, x = strOfNums (beBytes 8 a0_4) := ⟨_, rfl⟩
  obtain ⟨x24, hx24⟩ : ∃ x, x = strOfNums (beBytes 2 (IntKind.u64.wrap a0_5)) := ⟨_, rfl⟩
  obtain ⟨x30, hx30⟩ : ∃ x, x = strOfNums (beBytes 2 (IntKind.u64.wrap a0_6)) := ⟨_, rfl⟩
  replace X13 := Aside0.mk (X13.out x13 hx13)
  replace X18 := Aside0.mk (X18.out x18 hx18)
  replace X24 := Aside0.mk (X24.out x24 hx24)
  replace X30 := Aside0.mk (X30.out x30 hx30)
  have X9 := Aside0.mk hx9
  have HS := Aside0.mk (show x9.size = 4 ∧ x13.size = 8 ∧ x18.size = 8 ∧ x24.size = 2 ∧ x30.size = 2 ∧ a1.size ≤ 228 by
    rw [hx9, hx13, hx18, hx24, hx30]
    simp only [wagtailref15_Put.str_size, beBytes_len]
    exact ⟨by simp, trivial, trivial, trivial, trivial, hd⟩)
  have HALL := Aside0.mk (And.intro hm (And.intro hrg (And.intro hd (And.intro hx9 (And.intro hx13 (And.intro hx18 (And.intro hx24 hx30)))))))
  clear hm hb0 ho0 hd hrg hx9 hx13 hx18 hx24 hx30
  go_enter Try.func94, Try.ntmps94
  go_upto_region 1 with fail
  have B1 := Aside0.mk (below_alloc (Below.refl w.heap.size w) (Obj.cells #[Value.int IntKind.i64 a0_0, Value.int IntKind.i64 a0_1, Value.int IntKind.i64 a0_2, Value.int IntKind.u64 a0_3, Value.int IntKind.u64 a0_4, Value.int IntKind.i64 a0_5, Value.int IntKind.i64 a0_6] 82))
  have hz := heap_alloc_new w (Obj.cells #[Value.int IntKind.i64 a0_0, Value.int IntKind.i64 a0_1, Value.int IntKind.i64 a0_2, Value.int IntKind.u64 a0_3, Value.int IntKind.u64 a0_4, Value.int IntKind.i64 a0_5, Value.int IntKind.i64 a0_6] 82)
  have HG := Aside0.mk (show w.heap.size < (w.alloc (Obj.cells #[Value.int IntKind.i64 a0_0, Value.int IntKind.i64 a0_1, Value.int IntKind.i64 a0_2, Value.int IntKind.u64 a0_3, Value.int IntKind.u64 a0_4, Value.int IntKind.i64 a0_5, Value.int IntKind.i64 a0_6] 82)).heap.size by simp)
  generalize (w.alloc (Obj.cells #[Value.int IntKind.i64 a0_0, Value.int IntKind.i64 a0_1, Value.int IntKind.i64 a0_2, Value.int IntKind.u64 a0_3, Value.int IntKind.u64 a0_4, Value.int IntKind.i64 a0_5, Value.int IntKind.i64 a0_6] 82)) = W0 at B1 hz HG ⊢
  have HX0 := Aside0.mk ((blk_cell hz 0).trans rfl)
  have HX1 := Aside0.mk ((blk_cell hz 1).trans rfl)
  have HX2 := Aside0.mk ((blk_cell hz 2).trans rfl)
  have HX3 := Aside0.mk ((blk_cell hz 3).trans rfl)
  have HX4 := Aside0.mk ((blk_cell hz 4).trans rfl)
  have HX5 := Aside0.mk ((blk_cell hz 5).trans rfl)
  have HX6 := Aside0.mk ((blk_cell hz 6).trans rfl)
  clear hz
  have B0 := Aside0.mk (below_drew1 (Below.refl W0.heap.size W0))
  refine start_ (n := 36) (S := fun w' => True) (ds := []) #[false, false, false, false, false, false, false, false, false, false, false, false, false, false, false, false, false, false, false, false, false, false, false, false, false, false, false, false, false, false, false, false, false, false, false, false] (by kernel_rfl) rfl rfl trivial (fun hHeld => ?_)
  refine with_tabW wagtailref15_Put.tab1 wagtailref15_Put.bits1 (fun HT_ HW_ => ?_)
  generalize W0.drew = wq at B0 hHeld ⊢
  refine pure_ (i := 0) (N := some 10) (v := ?_) (a' := ?_) #[true, false, false, false, false, false, false, false, false, false, false, false, false, false, false, false, false, false, false, false, false, false, false, false, false, false, false, false, false, false, false, false, false, false, false, false] rfl rfl (any_of HT_.out (by kernel_rfl)) (fun _ _ _ h => h) (Or.inl ⟨by rfl, ?_⟩) ?_ ?_
  rotate_left
  · intro w'
    go_simp
    with_reducible rfl
  rotate_left
  · simp only [Act.put, List.setIfInBounds_toArray, List.set_cons_zero, List.set_cons_succ, i64_w, i32_w]
    rfl
  refine pure_ (i := 3) (N := some 13) (v := ?_) (a' := ?_) #[true, false, false, true, false, false, false, false, false, false, false, false, false, false, false, false, false, false, false, false, false, false, false, false, false, false, false, false, false, false, false, false, false, false, false, false] rfl rfl (any_of HT_.out (by kernel_rfl)) (fun _ _ _ h => h) (Or.inl ⟨by rfl, ?_⟩) ?_ ?_
  rotate_left
  · intro w'
    go_simp
    with_reducible rfl
  rotate_left
  · simp only [Act.put, List.setIfInBounds_toArray, List.set_cons_zero, List.set_cons_succ, i64_w, i32_w]
    rfl
  refine pure_ (i := 6) (N := some 16) (v := ?_) (a' := ?_) #[true, false, false, true, false, false, true, false, false, false, false, false, false, false, false, false, false, false, false, false, false, false, false, false, false, false, false, false, false, false, false, false, false, false, false, false] rfl rfl (any_of HT_.out (by kernel_rfl)) (fun _ _ _ h => h) (Or.inl ⟨by rfl, ?_⟩) ?_ ?_
  rotate_left
  · intro w'
    go_simp
    with_reducible rfl
  rotate_left
  · simp only [Act.put, List.setIfInBounds_toArray, List.set_cons_zero, List.set_cons_succ, i64_w, i32_w]
    rfl
  refine pure_ (i := 11) (N := some 21) (v := ?_) (a' := ?_) #[true, false, false, true, false, false, true, false, false, false, false, true, false, false, false, false, false, false, false, false, false, false, false, false, false, false, false, false, false, false, false, false, false, false, false, false] rfl rfl (any_of HT_.out (by kernel_rfl)) (fun _ _ _ h => h) (Or.inl ⟨by rfl, ?_⟩) ?_ ?_
  rotate_left
  · intro w'
    go_simp
    with_reducible rfl
  rotate_left
  · simp only [Act.put, List.setIfInBounds_toArray, List.set_cons_zero, List.set_cons_succ, i64_w, i32_w]
    rfl
  refine pure_ (i := 16) (N := some 26) (v := ?_) (a' := ?_) #[true, false, false, true, false, false, true, false, false, false, false, true, false, false, false, false, true, false, false, false, false, false, false, false, false, false, false, false, false, false, false, false, false, false, false, false] rfl rfl (any_of HT_.out (by kernel_rfl)) (fun _ _ _ h => h) (Or.inl ⟨by rfl, ?_⟩) ?_ ?_
  rotate_left
  · intro w'
    go_simp
    with_reducible rfl
  rotate_left
  · simp only [Act.put, List.setIfInBounds_toArray, List.set_cons_zero, List.set_cons_succ, i64_w, i32_w]
    rfl
  refine pure_ (i := 21) (N := some 31) (v := ?_) (a' := ?_) #[true, false, false, true, false, false, true, false, false, false, false, true, false, false, false, false, true, false, false, false, false, true, false, false, false, false, false, false, false, false, false, false, false, false, false, false] rfl rfl (any_of HT_.out (by kernel_rfl)) (fun _ _ _ h => h) (Or.inl ⟨by rfl, ?_⟩) ?_ ?_
  rotate_left
  · intro w'
    go_simp
    with_reducible rfl
  rotate_left
  · simp only [Act.put, List.setIfInBounds_toArray, List.set_cons_zero, List.set_cons_succ, i64_w, i32_w]
    rfl
  refine pure_ (i := 27) (N := some 37) (v := ?_) (a' := ?_) #[true, false, false, true, false, false, true, false, false, false, false, true, false, false, false, false, true, false, false, false, false, true, false, false, false, false, false, true, false, false, false, false, false, false, false, false] rfl rfl (any_of HT_.out (by kernel_rfl)) (fun _ _ _ h => h) (Or.inl ⟨by rfl, ?_⟩) ?_ ?_
  rotate_left
  · intro w'
    go_simp
    with_reducible rfl
  rotate_left
  · simp only [Act.put, List.setIfInBounds_toArray, List.set_cons_zero, List.set_cons_succ, i64_w, i32_w]
    rfl
  refine pure_ (i := 33) (N := some 43) (v := ?_) (a' := ?_) #[true, false, false, true, false, false, true, false, false, false, false, true, false, false, false, false, true, false, false, false, false, true, false, false, false, false, false, true, false, false, false, false, false, true, false, false] rfl rfl (any_of HT_.out (by kernel_rfl)) (fun _ _ _ h => h) (Or.inl ⟨by rfl, ?_⟩) ?_ ?_
  rotate_left
  · intro w'
    go_simp
    with_reducible rfl
  rotate_left
  · simp only [Act.put, List.setIfInBounds_toArray, List.set_cons_zero, List.set_cons_succ, i64_w, i32_w]
    rfl
  refine inv_at [1, 2, 4, 5, 7, 8, 9, 10, 12, 13, 14, 15, 17, 18, 19, 20, 22, 23, 24, 25, 26, 28, 29, 30, 31, 32, 34, 35] (fun a0_ b a w' => ∃ (z9 : Value) (z13 : Value) (z18 : Value) (z24 : Value) (z30 : Value), a = putSel a0_ b [(1, 11, .int .i64 a0_0), (2, 12, .int .u8 (a0_0 % 256)), (4, 14, .int .i64 a0_1), (5, 15, .int .u8 (a0_1 % 256)), (7, 17, .int .i64 a0_2), (8, 18, .int .u8 (a0_2 % 256)), (9, 19, z9), (10, 20, .string x9), (12, 22, .int .u64 a0_3), (13, 23, z13), (14, 24, .string x13), (15, 25, .string (x9 ++ x13)), (17, 27, .int .u64 a0_4), (18, 28, z18), (19, 29, .string x18), (20, 30, .string ((x9 ++ x13) ++ x18)), (22, 32, .int .i64 a0_5), (23, 33, .int .u64 (IntKind.u64.wrap a0_5)), (24, 34, z24), (25, 35, .string x24), (26, 36, .string (((x9 ++ x13) ++ x18) ++ x24)), (28, 38, .int .i64 a0_6), (29, 39, .int .u64 (IntKind.u64.wrap a0_6)), (30, 40, z30), (31, 41, .string x30), (32, 42, .string ((((x9 ++ x13) ++ x18) ++ x24) ++ x30)), (34, 44, .string (((((x9 ++ x13) ++ x18) ++ x24) ++ x30) ++ a1)), (35, 5, .string (((((x9 ++ x13) ++ x18) ++ x24) ++ x30) ++ a1))] ∧ (Below W0.heap.size W0 w') ∧ (b 9 = true → Str w' z9 x9) ∧ (b 13 = true → Str w' z13 x13) ∧ (b 18 = true → Str w' z18 x18) ∧ (b 24 = true → Str w' z24 x24) ∧ (b 30 = true → Str w' z30 x30)) HT_.out HW_.out (by kernel_rfl) (by kernel_rfl) ?_ ?_ ?_
  · exact ⟨.bool false, .bool false, .bool false, .bool false, .bool false, by simp only [putSel, Bool.false_eq_true, if_false], B0.out, fun h_ => absurd h_ (by decide), fun h_ => absurd h_ (by decide), fun h_ => absurd h_ (by decide), fun h_ => absurd h_ (by decide), fun h_ => absurd h_ (by decide)⟩
  · skip
    clear B0
    refine steps_cons ?_ ?_
    · rintro b a w' ⟨z9, z13, z18, z24, z30, ha, Q_B0, Q_S9, Q_S13, Q_S18, Q_S24, Q_S30⟩ hb_ hon hoff
      refine ⟨_, rfl, fun K hK => ?_⟩
      have e10 : a.tmps[10]? = some (.pointer (some ⟨w.heap.size, 0, none⟩)) := by rw [ha]; exact (putSel_off rfl).trans rfl
      replace ha := Aside0.mk ha
      have B0 := Aside0.mk Q_B0
      have hc_ := (B0.out.cell (p := ⟨w.heap.size, 0, none⟩) HG.out).trans HX0.out
      refine value_ (w1 := w') (v := .int .i64 a0_0) (by rfl) rfl ?_ ?_
      · go_simp
        (try simp only [i64_w])
        try rfl
      refine hK.out _ _ ⟨z9, z13, z18, z24, z30, (by rw [ha.out]; exact putSel_upk 0 hb_ rfl rfl rfl), Q_B0, fun h0_ => absurd ((hoff 9 (by kernel_rfl)).symm.trans h0_) (by decide), Q_S13, Q_S18, Q_S24, Q_S30⟩
    refine steps_cons ?_ ?_
    · rintro b a w' ⟨z9, z13, z18, z24, z30, ha, Q_B0, Q_S9, Q_S13, Q_S18, Q_S24, Q_S30⟩ hb_ hon hoff
      refine ⟨_, rfl, fun K hK => ?_⟩
      have e11 : a.tmps[11]? = some (.int .i64 a0_0) := by rw [ha]; exact putSel_on (e := (1, 11, .int .i64 a0_0)) 0 rfl rfl (hon 1 (by kernel_rfl)) rfl
      replace ha := Aside0.mk ha
      have B0 := Aside0.mk Q_B0
      refine value_ (w1 := w') (v := .int .u8 (a0_0 % 256)) (by rfl) rfl ?_ ?_
      · go_simp
        (try simp only [i64_w])
        try rfl
      refine hK.out _ _ ⟨z9, z13, z18, z24, z30, (by rw [ha.out]; exact putSel_upk 1 hb_ rfl rfl rfl), Q_B0, fun h0_ => absurd ((hoff 9 (by kernel_rfl)).symm.trans h0_) (by decide), Q_S13, Q_S18, Q_S24, Q_S30⟩
    refine steps_cons ?_ ?_
    · rintro b a w' ⟨z9, z13, z18, z24, z30, ha, Q_B0, Q_S9, Q_S13, Q_S18, Q_S24, Q_S30⟩ hb_ hon hoff
      refine ⟨_, rfl, fun K hK => ?_⟩
      have e13 : a.tmps[13]? = some (.pointer (some ⟨w.heap.size, 1, none⟩)) := by rw [ha]; exact (putSel_off rfl).trans rfl
      replace ha := Aside0.mk ha
      have B0 := Aside0.mk Q_B0
      have hc_ := (B0.out.cell (p := ⟨w.heap.size, 1, none⟩) HG.out).trans HX1.out
      refine value_ (w1 := w') (v := .int .i64 a0_1) (by rfl) rfl ?_ ?_
      · go_simp
        (try simp only [i64_w])
        try rfl
      refine hK.out _ _ ⟨z9, z13, z18, z24, z30, (by rw [ha.out]; exact putSel_upk 2 hb_ rfl rfl rfl), Q_B0, fun h0_ => absurd ((hoff 9 (by kernel_rfl)).symm.trans h0_) (by decide), Q_S13, Q_S18, Q_S24, Q_S30⟩
    refine steps_cons ?_ ?_
    · rintro b a w' ⟨z9, z13, z18, z24, z30, ha, Q_B0, Q_S9, Q_S13, Q_S18, Q_S24, Q_S30⟩ hb_ hon hoff
      refine ⟨_, rfl, fun K hK => ?_⟩
      have e14 : a.tmps[14]? = some (.int .i64 a0_1) := by rw [ha]; exact putSel_on (e := (4, 14, .int .i64 a0_1)) 2 rfl rfl (hon 4 (by kernel_rfl)) rfl
      replace ha := Aside0.mk ha
      have B0 := Aside0.mk Q_B0
      refine value_ (w1 := w') (v := .int .u8 (a0_1 % 256)) (by rfl) rfl ?_ ?_
      · go_simp
        (try simp only [i64_w])
        try rfl
      refine hK.out _ _ ⟨z9, z13, z18, z24, z30, (by rw [ha.out]; exact putSel_upk 3 hb_ rfl rfl rfl), Q_B0, fun h0_ => absurd ((hoff 9 (by kernel_rfl)).symm.trans h0_) (by decide), Q_S13, Q_S18, Q_S24, Q_S30⟩
    refine steps_cons ?_ ?_
    · rintro b a w' ⟨z9, z13, z18, z24, z30, ha, Q_B0, Q_S9, Q_S13, Q_S18, Q_S24, Q_S30⟩ hb_ hon hoff
      refine ⟨_, rfl, fun K hK => ?_⟩
      have e16 : a.tmps[16]? = some (.pointer (some ⟨w.heap.size, 2, none⟩)) := by rw [ha]; exact (putSel_off rfl).trans rfl
      replace ha := Aside0.mk ha
      have B0 := Aside0.mk Q_B0
      have hc_ := (B0.out.cell (p := ⟨w.heap.size, 2, none⟩) HG.out).trans HX2.out
      refine value_ (w1 := w') (v := .int .i64 a0_2) (by rfl) rfl ?_ ?_
      · go_simp
        (try simp only [i64_w])
        try rfl
      refine hK.out _ _ ⟨z9, z13, z18, z24, z30, (by rw [ha.out]; exact putSel_upk 4 hb_ rfl rfl rfl), Q_B0, fun h0_ => absurd ((hoff 9 (by kernel_rfl)).symm.trans h0_) (by decide), Q_S13, Q_S18, Q_S24, Q_S30⟩
    refine steps_cons ?_ ?_
    · rintro b a w' ⟨z9, z13, z18, z24, z30, ha, Q_B0, Q_S9, Q_S13, Q_S18, Q_S24, Q_S30⟩ hb_ hon hoff
      refine ⟨_, rfl, fun K hK => ?_⟩
      have e17 : a.tmps[17]? = some (.int .i64 a0_2) := by rw [ha]; exact putSel_on (e := (7, 17, .int .i64 a0_2)) 4 rfl rfl (hon 7 (by kernel_rfl)) rfl
      replace ha := Aside0.mk ha
      have B0 := Aside0.mk Q_B0
      refine value_ (w1 := w') (v := .int .u8 (a0_2 % 256)) (by rfl) rfl ?_ ?_
      · go_simp
        (try simp only [i64_w])
        try rfl
      refine hK.out _ _ ⟨z9, z13, z18, z24, z30, (by rw [ha.out]; exact putSel_upk 5 hb_ rfl rfl rfl), Q_B0, fun h0_ => absurd ((hoff 9 (by kernel_rfl)).symm.trans h0_) (by decide), Q_S13, Q_S18, Q_S24, Q_S30⟩
    refine steps_cons ?_ ?_
    · rintro b a w' ⟨z9, z13, z18, z24, z30, ha, Q_B0, Q_S9, Q_S13, Q_S18, Q_S24, Q_S30⟩ hb_ hon hoff
      refine ⟨_, rfl, fun K hK => ?_⟩
      have e12 : a.tmps[12]? = some (.int .u8 (a0_0 % 256)) := by rw [ha]; exact putSel_on (e := (2, 12, .int .u8 (a0_0 % 256))) 1 rfl rfl (hon 2 (by kernel_rfl)) rfl
      have e15 : a.tmps[15]? = some (.int .u8 (a0_1 % 256)) := by rw [ha]; exact putSel_on (e := (5, 15, .int .u8 (a0_1 % 256))) 3 rfl rfl (hon 5 (by kernel_rfl)) rfl
      have e18 : a.tmps[18]? = some (.int .u8 (a0_2 % 256)) := by rw [ha]; exact putSel_on (e := (8, 18, .int .u8 (a0_2 % 256))) 5 rfl rfl (hon 8 (by kernel_rfl)) rfl
      replace ha := Aside0.mk ha
      have B0 := Aside0.mk Q_B0
      refine Kd.R_lit_step (Kd.int .u8) w'.heap.size 5 (by rfl) (N := 19) ?hd (xs := [(a0_0 % 256), (a0_1 % 256), (a0_2 % 256), 0]) (inner := [.int .u8 (a0_0 % 256), .int .u8 (a0_1 % 256), .int .u8 (a0_2 % 256), .int .u8 0]) (ok := fun _ => True) (okp := fun _ => True) ?hr ?hp (fun _ hk => hk) trivial (Below.refl _ _) (Nat.le_refl _) (by simp) ?_
      case hd => rfl
      case hr => first | (go_simp; done) | (go_simp; rfl)
      case hp => exact (Reps.one (show Kd.M (Kd.int .u8) _ _ _ (a0_0 % 256) [.int .u8 (a0_0 % 256)] from rfl) (Reps.one (show Kd.M (Kd.int .u8) _ _ _ (a0_1 % 256) [.int .u8 (a0_1 % 256)] from rfl) (Reps.one (show Kd.M (Kd.int .u8) _ _ _ (a0_2 % 256) [.int .u8 (a0_2 % 256)] from rfl) (Reps.one (show Kd.M (Kd.int .u8) _ _ _ 0 [.int .u8 0] from rfl) ((Reps.none _ _))))))
      intro z w2 ho hb hg_ hnew_
      clear hg_ hnew_
      have hs := Str.of_R ho X9.out
      refine hK.out _ _ ⟨z, z13, z18, z24, z30, (by rw [ha.out]; exact putSel_upk 6 hb_ rfl rfl rfl), below_then B0.out B0.out.size hb, fun _ => hs, fun h0_ => Str.step (Q_S13 h0_) hb, fun h0_ => Str.step (Q_S18 h0_) hb, fun h0_ => Str.step (Q_S24 h0_) hb, fun h0_ => Str.step (Q_S30 h0_) hb⟩
    refine steps_cons ?_ ?_
    · rintro b a w' ⟨z9, z13, z18, z24, z30, ha, Q_B0, Q_S9, Q_S13, Q_S18, Q_S24, Q_S30⟩ hb_ hon hoff
      refine ⟨_, rfl, fun K hK => ?_⟩
      have e19 : a.tmps[19]? = some (z9) := by rw [ha]; exact putSel_on (e := (9, 19, z9)) 6 rfl rfl (hon 9 (by kernel_rfl)) rfl
      replace ha := Aside0.mk ha
      have B0 := Aside0.mk Q_B0
      have S9 := Aside0.mk (Q_S9 (hon 9 (by kernel_rfl)))
      have hs_ := S9.out.here
      refine value_ (w1 := w') (v := .string x9) (by rfl) rfl ?_ ?_
      · go_simp
        (try simp only [i64_w])
        try rfl
      refine hK.out _ _ ⟨z9, z13, z18, z24, z30, (by rw [ha.out]; exact putSel_upk 7 hb_ rfl rfl rfl), Q_B0, Q_S9, Q_S13, Q_S18, Q_S24, Q_S30⟩
    refine steps_cons ?_ ?_
    · rintro b a w' ⟨z9, z13, z18, z24, z30, ha, Q_B0, Q_S9, Q_S13, Q_S18, Q_S24, Q_S30⟩ hb_ hon hoff
      refine ⟨_, rfl, fun K hK => ?_⟩
      have e21 : a.tmps[21]? = some (.pointer (some ⟨w.heap.size, 3, none⟩)) := by rw [ha]; exact (putSel_off rfl).trans rfl
      replace ha := Aside0.mk ha
      have B0 := Aside0.mk Q_B0
      have hc_ := (B0.out.cell (p := ⟨w.heap.size, 3, none⟩) HG.out).trans HX3.out
      refine value_ (w1 := w') (v := .int .u64 a0_3) (by rfl) rfl ?_ ?_
      · go_simp
        (try simp only [i64_w])
        try rfl
      refine hK.out _ _ ⟨z9, z13, z18, z24, z30, (by rw [ha.out]; exact putSel_upk 8 hb_ rfl rfl rfl), Q_B0, Q_S9, fun h0_ => absurd ((hoff 13 (by kernel_rfl)).symm.trans h0_) (by decide), fun h0_ => absurd ((hoff 18 (by kernel_rfl)).symm.trans h0_) (by decide), fun h0_ => absurd ((hoff 24 (by kernel_rfl)).symm.trans h0_) (by decide), fun h0_ => absurd ((hoff 30 (by kernel_rfl)).symm.trans h0_) (by decide)⟩
    refine steps_cons ?_ ?_
    · rintro b a w' ⟨z9, z13, z18, z24, z30, ha, Q_B0, Q_S9, Q_S13, Q_S18, Q_S24, Q_S30⟩ hb_ hon hoff
      refine ⟨_, rfl, fun K hK => ?_⟩
      have e22 : a.tmps[22]? = some (.int .u64 a0_3) := by rw [ha]; exact putSel_on (e := (12, 22, .int .u64 a0_3)) 8 rfl rfl (hon 12 (by kernel_rfl)) rfl
      replace ha := Aside0.mk ha
      have B0 := Aside0.mk Q_B0
      refine goes_ Try.func114 (by kernel_rfl) rfl #[.int .i64 8, .int .u64 a0_3] (by rfl) rfl rfl (by first | (simp only [List.map_toArray, List.map_cons, List.map_nil, Act.eval, Array.getD_eq_getD_getElem?, Option.getD_some, e22]; done) | (simp only [List.map_toArray, List.map_cons, List.map_nil, Act.eval, Array.getD_eq_getD_getElem?, Option.getD_some, e22]; rfl)) ?_
      with_reducible refine (X13.out _).mono ?_
      rintro e w2 ⟨z, rfl, hb, hs⟩
      refine ⟨_, rfl, ?_⟩
      refine hK.out _ _ ⟨z9, z, z18, z24, z30, (by rw [ha.out]; exact putSel_upk 9 hb_ rfl rfl rfl), below_then B0.out B0.out.size hb, fun h0_ => Str.step (Q_S9 h0_) hb, fun _ => hs, fun h0_ => absurd ((hoff 18 (by kernel_rfl)).symm.trans h0_) (by decide), fun h0_ => absurd ((hoff 24 (by kernel_rfl)).symm.trans h0_) (by decide), fun h0_ => absurd ((hoff 30 (by kernel_rfl)).symm.trans h0_) (by decide)⟩
    refine steps_cons ?_ ?_
    · rintro b a w' ⟨z9, z13, z18, z24, z30, ha, Q_B0, Q_S9, Q_S13, Q_S18, Q_S24, Q_S30⟩ hb_ hon hoff
      refine ⟨_, rfl, fun K hK => ?_⟩
      have e23 : a.tmps[23]? = some (z13) := by rw [ha]; exact putSel_on (e := (13, 23, z13)) 9 rfl rfl (hon 13 (by kernel_rfl)) rfl
      replace ha := Aside0.mk ha
      have B0 := Aside0.mk Q_B0
      have S13 := Aside0.mk (Q_S13 (hon 13 (by kernel_rfl)))
      have hs_ := S13.out.here
      refine value_ (w1 := w') (v := .string x13) (by rfl) rfl ?_ ?_
      · go_simp
        (try simp only [i64_w])
        try rfl
      refine hK.out _ _ ⟨z9, z13, z18, z24, z30, (by rw [ha.out]; exact putSel_upk 10 hb_ rfl rfl rfl), Q_B0, Q_S9, Q_S13, Q_S18, Q_S24, Q_S30⟩
    refine steps_cons ?_ ?_
    · rintro b a w' ⟨z9, z13, z18, z24, z30, ha, Q_B0, Q_S9, Q_S13, Q_S18, Q_S24, Q_S30⟩ hb_ hon hoff
      refine ⟨_, rfl, fun K hK => ?_⟩
      have e20 : a.tmps[20]? = some (.string x9) := by rw [ha]; exact putSel_on (e := (10, 20, .string x9)) 7 rfl rfl (hon 10 (by kernel_rfl)) rfl
      have e24 : a.tmps[24]? = some (.string x13) := by rw [ha]; exact putSel_on (e := (14, 24, .string x13)) 10 rfl rfl (hon 14 (by kernel_rfl)) rfl
      replace ha := Aside0.mk ha
      have B0 := Aside0.mk Q_B0
      have S9 := Aside0.mk (Q_S9 (hon 9 (by kernel_rfl)))
      have S13 := Aside0.mk (Q_S13 (hon 13 (by kernel_rfl)))
      have hs_ : x9.size + x13.size ≤ 9223372036854775807 := by have := HS.out; omega
      refine value_ (w1 := w') (v := .string (x9 ++ x13)) (by rfl) rfl ?_ ?_
      · go_simp
        (try simp only [i64_w])
        try rfl
      refine hK.out _ _ ⟨z9, z13, z18, z24, z30, (by rw [ha.out]; exact putSel_upk 11 hb_ rfl rfl rfl), Q_B0, Q_S9, Q_S13, Q_S18, Q_S24, Q_S30⟩
    refine steps_cons ?_ ?_
    · rintro b a w' ⟨z9, z13, z18, z24, z30, ha, Q_B0, Q_S9, Q_S13, Q_S18, Q_S24, Q_S30⟩ hb_ hon hoff
      refine ⟨_, rfl, fun K hK => ?_⟩
      have e26 : a.tmps[26]? = some (.pointer (some ⟨w.heap.size, 4, none⟩)) := by rw [ha]; exact (putSel_off rfl).trans rfl
      replace ha := Aside0.mk ha
      have B0 := Aside0.mk Q_B0
      have hc_ := (B0.out.cell (p := ⟨w.heap.size, 4, none⟩) HG.out).trans HX4.out
      refine value_ (w1 := w') (v := .int .u64 a0_4) (by rfl) rfl ?_ ?_
      · go_simp
        (try simp only [i64_w])
        try rfl
      refine hK.out _ _ ⟨z9, z13, z18, z24, z30, (by rw [ha.out]; exact putSel_upk 12 hb_ rfl rfl rfl), Q_B0, Q_S9, Q_S13, fun h0_ => absurd ((hoff 18 (by kernel_rfl)).symm.trans h0_) (by decide), fun h0_ => absurd ((hoff 24 (by kernel_rfl)).symm.trans h0_) (by decide), fun h0_ => absurd ((hoff 30 (by kernel_rfl)).symm.trans h0_) (by decide)⟩
    refine steps_cons ?_ ?_
    · rintro b a w' ⟨z9, z13, z18, z24, z30, ha, Q_B0, Q_S9, Q_S13, Q_S18, Q_S24, Q_S30⟩ hb_ hon hoff
      refine ⟨_, rfl, fun K hK => ?_⟩
      have e27 : a.tmps[27]? = some (.int .u64 a0_4) := by rw [ha]; exact putSel_on (e := (17, 27, .int .u64 a0_4)) 12 rfl rfl (hon 17 (by kernel_rfl)) rfl
      replace ha := Aside0.mk ha
      have B0 := Aside0.mk Q_B0
      have S13 := Aside0.mk (Q_S13 (hon 13 (by kernel_rfl)))
      refine goes_ Try.func114 (by kernel_rfl) rfl #[.int .i64 8, .int .u64 a0_4] (by rfl) rfl rfl (by first | (simp only [List.map_toArray, List.map_cons, List.map_nil, Act.eval, Array.getD_eq_getD_getElem?, Option.getD_some, e27]; done) | (simp only [List.map_toArray, List.map_cons, List.map_nil, Act.eval, Array.getD_eq_getD_getElem?, Option.getD_some, e27]; rfl)) ?_
      with_reducible refine (X18.out _).mono ?_
      rintro e w2 ⟨z, rfl, hb, hs⟩
      refine ⟨_, rfl, ?_⟩
      refine hK.out _ _ ⟨z9, z13, z, z24, z30, (by rw [ha.out]; exact putSel_upk 13 hb_ rfl rfl rfl), below_then B0.out B0.out.size hb, fun h0_ => Str.step (Q_S9 h0_) hb, fun _ => Str.step S13.out hb, fun _ => hs, fun h0_ => absurd ((hoff 24 (by kernel_rfl)).symm.trans h0_) (by decide), fun h0_ => absurd ((hoff 30 (by kernel_rfl)).symm.trans h0_) (by decide)⟩
    refine steps_cons ?_ ?_
    · rintro b a w' ⟨z9, z13, z18, z24, z30, ha, Q_B0, Q_S9, Q_S13, Q_S18, Q_S24, Q_S30⟩ hb_ hon hoff
      refine ⟨_, rfl, fun K hK => ?_⟩
      have e28 : a.tmps[28]? = some (z18) := by rw [ha]; exact putSel_on (e := (18, 28, z18)) 13 rfl rfl (hon 18 (by kernel_rfl)) rfl
      replace ha := Aside0.mk ha
      have B0 := Aside0.mk Q_B0
      have S13 := Aside0.mk (Q_S13 (hon 13 (by kernel_rfl)))
      have S18 := Aside0.mk (Q_S18 (hon 18 (by kernel_rfl)))
      have hs_ := S18.out.here
      refine value_ (w1 := w') (v := .string x18) (by rfl) rfl ?_ ?_
      · go_simp
        (try simp only [i64_w])
        try rfl
      refine hK.out _ _ ⟨z9, z13, z18, z24, z30, (by rw [ha.out]; exact putSel_upk 14 hb_ rfl rfl rfl), Q_B0, Q_S9, Q_S13, Q_S18, Q_S24, Q_S30⟩
    refine steps_cons ?_ ?_
    · rintro b a w' ⟨z9, z13, z18, z24, z30, ha, Q_B0, Q_S9, Q_S13, Q_S18, Q_S24, Q_S30⟩ hb_ hon hoff
      refine ⟨_, rfl, fun K hK => ?_⟩
      have e25 : a.tmps[25]? = some (.string (x9 ++ x13)) := by rw [ha]; exact putSel_on (e := (15, 25, .string (x9 ++ x13))) 11 rfl rfl (hon 15 (by kernel_rfl)) rfl
      have e29 : a.tmps[29]? = some (.string x18) := by rw [ha]; exact putSel_on (e := (19, 29, .string x18)) 14 rfl rfl (hon 19 (by kernel_rfl)) rfl
      replace ha := Aside0.mk ha
      have B0 := Aside0.mk Q_B0
      have S9 := Aside0.mk (Q_S9 (hon 9 (by kernel_rfl)))
      have S13 := Aside0.mk (Q_S13 (hon 13 (by kernel_rfl)))
      have S18 := Aside0.mk (Q_S18 (hon 18 (by kernel_rfl)))
      have hs_ : x9.size + x13.size + x18.size ≤ 9223372036854775807 := by have := HS.out; omega
      refine value_ (w1 := w') (v := .string ((x9 ++ x13) ++ x18)) (by rfl) rfl ?_ ?_
      · go_simp
        (try simp only [i64_w])
        try rfl
      refine hK.out _ _ ⟨z9, z13, z18, z24, z30, (by rw [ha.out]; exact putSel_upk 15 hb_ rfl rfl rfl), Q_B0, Q_S9, Q_S13, Q_S18, Q_S24, Q_S30⟩
    refine steps_cons ?_ ?_
    · rintro b a w' ⟨z9, z13, z18, z24, z30, ha, Q_B0, Q_S9, Q_S13, Q_S18, Q_S24, Q_S30⟩ hb_ hon hoff
      refine ⟨_, rfl, fun K hK => ?_⟩
      have e31 : a.tmps[31]? = some (.pointer (some ⟨w.heap.size, 5, none⟩)) := by rw [ha]; exact (putSel_off rfl).trans rfl
      replace ha := Aside0.mk ha
      have B0 := Aside0.mk Q_B0
      have hc_ := (B0.out.cell (p := ⟨w.heap.size, 5, none⟩) HG.out).trans HX5.out
      refine value_ (w1 := w') (v := .int .i64 a0_5) (by rfl) rfl ?_ ?_
      · go_simp
        (try simp only [i64_w])
        try rfl
      refine hK.out _ _ ⟨z9, z13, z18, z24, z30, (by rw [ha.out]; exact putSel_upk 16 hb_ rfl rfl rfl), Q_B0, Q_S9, Q_S13, Q_S18, fun h0_ => absurd ((hoff 24 (by kernel_rfl)).symm.trans h0_) (by decide), fun h0_ => absurd ((hoff 30 (by kernel_rfl)).symm.trans h0_) (by decide)⟩
    refine steps_cons ?_ ?_
    · rintro b a w' ⟨z9, z13, z18, z24, z30, ha, Q_B0, Q_S9, Q_S13, Q_S18, Q_S24, Q_S30⟩ hb_ hon hoff
      refine ⟨_, rfl, fun K hK => ?_⟩
      have e32 : a.tmps[32]? = some (.int .i64 a0_5) := by rw [ha]; exact putSel_on (e := (22, 32, .int .i64 a0_5)) 16 rfl rfl (hon 22 (by kernel_rfl)) rfl
      replace ha := Aside0.mk ha
      have B0 := Aside0.mk Q_B0
      refine value_ (w1 := w') (v := .int .u64 (IntKind.u64.wrap a0_5)) (by rfl) rfl ?_ ?_
      · go_simp
        (try simp only [i64_w])
        try rfl
      refine hK.out _ _ ⟨z9, z13, z18, z24, z30, (by rw [ha.out]; exact putSel_upk 17 hb_ rfl rfl rfl), Q_B0, Q_S9, Q_S13, Q_S18, fun h0_ => absurd ((hoff 24 (by kernel_rfl)).symm.trans h0_) (by decide), fun h0_ => absurd ((hoff 30 (by kernel_rfl)).symm.trans h0_) (by decide)⟩
    refine steps_cons ?_ ?_
    · rintro b a w' ⟨z9, z13, z18, z24, z30, ha, Q_B0, Q_S9, Q_S13, Q_S18, Q_S24, Q_S30⟩ hb_ hon hoff
      refine ⟨_, rfl, fun K hK => ?_⟩
      have e33 : a.tmps[33]? = some (.int .u64 (IntKind.u64.wrap a0_5)) := by rw [ha]; exact putSel_on (e := (23, 33, .int .u64 (IntKind.u64.wrap a0_5))) 17 rfl rfl (hon 23 (by kernel_rfl)) rfl
      replace ha := Aside0.mk ha
      have B0 := Aside0.mk Q_B0
      have S13 := Aside0.mk (Q_S13 (hon 13 (by kernel_rfl)))
      have S18 := Aside0.mk (Q_S18 (hon 18 (by kernel_rfl)))
      refine goes_ Try.func114 (by kernel_rfl) rfl #[.int .i64 2, .int .u64 (IntKind.u64.wrap a0_5)] (by rfl) rfl rfl (by first | (simp only [List.map_toArray, List.map_cons, List.map_nil, Act.eval, Array.getD_eq_getD_getElem?, Option.getD_some, e33]; done) | (simp only [List.map_toArray, List.map_cons, List.map_nil, Act.eval, Array.getD_eq_getD_getElem?, Option.getD_some, e33]; rfl)) ?_
      with_reducible refine (X24.out _).mono ?_
      rintro e w2 ⟨z, rfl, hb, hs⟩
      refine ⟨_, rfl, ?_⟩
      refine hK.out _ _ ⟨z9, z13, z18, z, z30, (by rw [ha.out]; exact putSel_upk 18 hb_ rfl rfl rfl), below_then B0.out B0.out.size hb, fun h0_ => Str.step (Q_S9 h0_) hb, fun _ => Str.step S13.out hb, fun _ => Str.step S18.out hb, fun _ => hs, fun h0_ => absurd ((hoff 30 (by kernel_rfl)).symm.trans h0_) (by decide)⟩
    refine steps_cons ?_ ?_
    · rintro b a w' ⟨z9, z13, z18, z24, z30, ha, Q_B0, Q_S9, Q_S13, Q_S18, Q_S24, Q_S30⟩ hb_ hon hoff
      refine ⟨_, rfl, fun K hK => ?_⟩
      have e34 : a.tmps[34]? = some (z24) := by rw [ha]; exact putSel_on (e := (24, 34, z24)) 18 rfl rfl (hon 24 (by kernel_rfl)) rfl
      replace ha := Aside0.mk ha
      have B0 := Aside0.mk Q_B0
      have S13 := Aside0.mk (Q_S13 (hon 13 (by kernel_rfl)))
      have S18 := Aside0.mk (Q_S18 (hon 18 (by kernel_rfl)))
      have S24 := Aside0.mk (Q_S24 (hon 24 (by kernel_rfl)))
      have hs_ := S24.out.here
      refine value_ (w1 := w') (v := .string x24) (by rfl) rfl ?_ ?_
      · go_simp
        (try simp only [i64_w])
        try rfl
      refine hK.out _ _ ⟨z9, z13, z18, z24, z30, (by rw [ha.out]; exact putSel_upk 19 hb_ rfl rfl rfl), Q_B0, Q_S9, Q_S13, Q_S18, Q_S24, Q_S30⟩
    refine steps_cons ?_ ?_
    · rintro b a w' ⟨z9, z13, z18, z24, z30, ha, Q_B0, Q_S9, Q_S13, Q_S18, Q_S24, Q_S30⟩ hb_ hon hoff
      refine ⟨_, rfl, fun K hK => ?_⟩
      have e30 : a.tmps[30]? = some (.string ((x9 ++ x13) ++ x18)) := by rw [ha]; exact putSel_on (e := (20, 30, .string ((x9 ++ x13) ++ x18))) 15 rfl rfl (hon 20 (by kernel_rfl)) rfl
      have e35 : a.tmps[35]? = some (.string x24) := by rw [ha]; exact putSel_on (e := (25, 35, .string x24)) 19 rfl rfl (hon 25 (by kernel_rfl)) rfl
      replace ha := Aside0.mk ha
      have B0 := Aside0.mk Q_B0
      have S9 := Aside0.mk (Q_S9 (hon 9 (by kernel_rfl)))
      have S13 := Aside0.mk (Q_S13 (hon 13 (by kernel_rfl)))
      have S18 := Aside0.mk (Q_S18 (hon 18 (by kernel_rfl)))
      have S24 := Aside0.mk (Q_S24 (hon 24 (by kernel_rfl)))
      have hs_ : x9.size + x13.size + x18.size + x24.size ≤ 9223372036854775807 := by have := HS.out; omega
      refine value_ (w1 := w') (v := .string (((x9 ++ x13) ++ x18) ++ x24)) (by rfl) rfl ?_ ?_
      · go_simp
        (try simp only [i64_w])
        try rfl
      refine hK.out _ _ ⟨z9, z13, z18, z24, z30, (by rw [ha.out]; exact putSel_upk 20 hb_ rfl rfl rfl), Q_B0, Q_S9, Q_S13, Q_S18, Q_S24, Q_S30⟩
    refine steps_cons ?_ ?_
    · rintro b a w' ⟨z9, z13, z18, z24, z30, ha, Q_B0, Q_S9, Q_S13, Q_S18, Q_S24, Q_S30⟩ hb_ hon hoff
      refine ⟨_, rfl, fun K hK => ?_⟩
      have e37 : a.tmps[37]? = some (.pointer (some ⟨w.heap.size, 6, none⟩)) := by rw [ha]; exact (putSel_off rfl).trans rfl
      replace ha := Aside0.mk ha
      have B0 := Aside0.mk Q_B0
      have hc_ := (B0.out.cell (p := ⟨w.heap.size, 6, none⟩) HG.out).trans HX6.out
      refine value_ (w1 := w') (v := .int .i64 a0_6) (by rfl) rfl ?_ ?_
      · go_simp
        (try simp only [i64_w])
        try rfl
      refine hK.out _ _ ⟨z9, z13, z18, z24, z30, (by rw [ha.out]; exact putSel_upk 21 hb_ rfl rfl rfl), Q_B0, Q_S9, Q_S13, Q_S18, Q_S24, fun h0_ => absurd ((hoff 30 (by kernel_rfl)).symm.trans h0_) (by decide)⟩
    refine steps_cons ?_ ?_
    · rintro b a w' ⟨z9, z13, z18, z24, z30, ha, Q_B0, Q_S9, Q_S13, Q_S18, Q_S24, Q_S30⟩ hb_ hon hoff
      refine ⟨_, rfl, fun K hK => ?_⟩
      have e38 : a.tmps[38]? = some (.int .i64 a0_6) := by rw [ha]; exact putSel_on (e := (28, 38, .int .i64 a0_6)) 21 rfl rfl (hon 28 (by kernel_rfl)) rfl
      replace ha := Aside0.mk ha
      have B0 := Aside0.mk Q_B0
      refine value_ (w1 := w') (v := .int .u64 (IntKind.u64.wrap a0_6)) (by rfl) rfl ?_ ?_
      · go_simp
        (try simp only [i64_w])
        try rfl
      refine hK.out _ _ ⟨z9, z13, z18, z24, z30, (by rw [ha.out]; exact putSel_upk 22 hb_ rfl rfl rfl), Q_B0, Q_S9, Q_S13, Q_S18, Q_S24, fun h0_ => absurd ((hoff 30 (by kernel_rfl)).symm.trans h0_) (by decide)⟩
    refine steps_cons ?_ ?_
    · rintro b a w' ⟨z9, z13, z18, z24, z30, ha, Q_B0, Q_S9, Q_S13, Q_S18, Q_S24, Q_S30⟩ hb_ hon hoff
      refine ⟨_, rfl, fun K hK => ?_⟩
      have e39 : a.tmps[39]? = some (.int .u64 (IntKind.u64.wrap a0_6)) := by rw [ha]; exact putSel_on (e := (29, 39, .int .u64 (IntKind.u64.wrap a0_6))) 22 rfl rfl (hon 29 (by kernel_rfl)) rfl
      replace ha := Aside0.mk ha
      have B0 := Aside0.mk Q_B0
      have S13 := Aside0.mk (Q_S13 (hon 13 (by kernel_rfl)))
      have S18 := Aside0.mk (Q_S18 (hon 18 (by kernel_rfl)))
      have S24 := Aside0.mk (Q_S24 (hon 24 (by kernel_rfl)))
      refine goes_ Try.func114 (by kernel_rfl) rfl #[.int .i64 2, .int .u64 (IntKind.u64.wrap a0_6)] (by rfl) rfl rfl (by first | (simp only [List.map_toArray, List.map_cons, List.map_nil, Act.eval, Array.getD_eq_getD_getElem?, Option.getD_some, e39]; done) | (simp only [List.map_toArray, List.map_cons, List.map_nil, Act.eval, Array.getD_eq_getD_getElem?, Option.getD_some, e39]; rfl)) ?_
      with_reducible refine (X30.out _).mono ?_
      rintro e w2 ⟨z, rfl, hb, hs⟩
      refine ⟨_, rfl, ?_⟩
      refine hK.out _ _ ⟨z9, z13, z18, z24, z, (by rw [ha.out]; exact putSel_upk 23 hb_ rfl rfl rfl), below_then B0.out B0.out.size hb, fun h0_ => Str.step (Q_S9 h0_) hb, fun _ => Str.step S13.out hb, fun _ => Str.step S18.out hb, fun _ => Str.step S24.out hb, fun _ => hs⟩
    refine steps_cons ?_ ?_
    · rintro b a w' ⟨z9, z13, z18, z24, z30, ha, Q_B0, Q_S9, Q_S13, Q_S18, Q_S24, Q_S30⟩ hb_ hon hoff
      refine ⟨_, rfl, fun K hK => ?_⟩
      have e40 : a.tmps[40]? = some (z30) := by rw [ha]; exact putSel_on (e := (30, 40, z30)) 23 rfl rfl (hon 30 (by kernel_rfl)) rfl
      replace ha := Aside0.mk ha
      have B0 := Aside0.mk Q_B0
      have S13 := Aside0.mk (Q_S13 (hon 13 (by kernel_rfl)))
      have S18 := Aside0.mk (Q_S18 (hon 18 (by kernel_rfl)))
      have S24 := Aside0.mk (Q_S24 (hon 24 (by kernel_rfl)))
      have S30 := Aside0.mk (Q_S30 (hon 30 (by kernel_rfl)))
      have hs_ := S30.out.here
      refine value_ (w1 := w') (v := .string x30) (by rfl) rfl ?_ ?_
      · go_simp
        (try simp only [i64_w])
        try rfl
      refine hK.out _ _ ⟨z9, z13, z18, z24, z30, (by rw [ha.out]; exact putSel_upk 24 hb_ rfl rfl rfl), Q_B0, Q_S9, Q_S13, Q_S18, Q_S24, Q_S30⟩
    refine steps_cons ?_ ?_
    · rintro b a w' ⟨z9, z13, z18, z24, z30, ha, Q_B0, Q_S9, Q_S13, Q_S18, Q_S24, Q_S30⟩ hb_ hon hoff
      refine ⟨_, rfl, fun K hK => ?_⟩
      have e36 : a.tmps[36]? = some (.string (((x9 ++ x13) ++ x18) ++ x24)) := by rw [ha]; exact putSel_on (e := (26, 36, .string (((x9 ++ x13) ++ x18) ++ x24))) 20 rfl rfl (hon 26 (by kernel_rfl)) rfl
      have e41 : a.tmps[41]? = some (.string x30) := by rw [ha]; exact putSel_on (e := (31, 41, .string x30)) 24 rfl rfl (hon 31 (by kernel_rfl)) rfl
      replace ha := Aside0.mk ha
      have B0 := Aside0.mk Q_B0
      have S9 := Aside0.mk (Q_S9 (hon 9 (by kernel_rfl)))
      have S13 := Aside0.mk (Q_S13 (hon 13 (by kernel_rfl)))
      have S18 := Aside0.mk (Q_S18 (hon 18 (by kernel_rfl)))
      have S24 := Aside0.mk (Q_S24 (hon 24 (by kernel_rfl)))
      have S30 := Aside0.mk (Q_S30 (hon 30 (by kernel_rfl)))
      have hs_ : x9.size + x13.size + x18.size + x24.size + x30.size ≤ 9223372036854775807 := by have := HS.out; omega
      refine value_ (w1 := w') (v := .string ((((x9 ++ x13) ++ x18) ++ x24) ++ x30)) (by rfl) rfl ?_ ?_
      · go_simp
        (try simp only [i64_w])
        try rfl
      refine hK.out _ _ ⟨z9, z13, z18, z24, z30, (by rw [ha.out]; exact putSel_upk 25 hb_ rfl rfl rfl), Q_B0, Q_S9, Q_S13, Q_S18, Q_S24, Q_S30⟩
    refine steps_cons ?_ ?_
    · rintro b a w' ⟨z9, z13, z18, z24, z30, ha, Q_B0, Q_S9, Q_S13, Q_S18, Q_S24, Q_S30⟩ hb_ hon hoff
      refine ⟨_, rfl, fun K hK => ?_⟩
      have e42 : a.tmps[42]? = some (.string ((((x9 ++ x13) ++ x18) ++ x24) ++ x30)) := by rw [ha]; exact putSel_on (e := (32, 42, .string ((((x9 ++ x13) ++ x18) ++ x24) ++ x30))) 25 rfl rfl (hon 32 (by kernel_rfl)) rfl
      have e43 : a.tmps[43]? = some (.string a1) := by rw [ha]; exact (putSel_off rfl).trans rfl
      replace ha := Aside0.mk ha
      have B0 := Aside0.mk Q_B0
      have S9 := Aside0.mk (Q_S9 (hon 9 (by kernel_rfl)))
      have S13 := Aside0.mk (Q_S13 (hon 13 (by kernel_rfl)))
      have S18 := Aside0.mk (Q_S18 (hon 18 (by kernel_rfl)))
      have S24 := Aside0.mk (Q_S24 (hon 24 (by kernel_rfl)))
      have S30 := Aside0.mk (Q_S30 (hon 30 (by kernel_rfl)))
      have hs_ : x9.size + x13.size + x18.size + x24.size + x30.size + a1.size ≤ 9223372036854775807 := by have := HS.out; omega
      refine value_ (w1 := w') (v := .string (((((x9 ++ x13) ++ x18) ++ x24) ++ x30) ++ a1)) (by rfl) rfl ?_ ?_
      · go_simp
        (try simp only [i64_w])
        try rfl
      refine hK.out _ _ ⟨z9, z13, z18, z24, z30, (by rw [ha.out]; exact putSel_upk 26 hb_ rfl rfl rfl), Q_B0, Q_S9, Q_S13, Q_S18, Q_S24, Q_S30⟩
    refine steps_cons ?_ ?_
    · rintro b a w' ⟨z9, z13, z18, z24, z30, ha, Q_B0, Q_S9, Q_S13, Q_S18, Q_S24, Q_S30⟩ hb_ hon hoff
      refine ⟨_, rfl, fun K hK => ?_⟩
      have e44 : a.tmps[44]? = some (.string (((((x9 ++ x13) ++ x18) ++ x24) ++ x30) ++ a1)) := by rw [ha]; exact putSel_on (e := (34, 44, .string (((((x9 ++ x13) ++ x18) ++ x24) ++ x30) ++ a1))) 26 rfl rfl (hon 34 (by kernel_rfl)) rfl
      replace ha := Aside0.mk ha
      have B0 := Aside0.mk Q_B0
      have S9 := Aside0.mk (Q_S9 (hon 9 (by kernel_rfl)))
      have S13 := Aside0.mk (Q_S13 (hon 13 (by kernel_rfl)))
      have S18 := Aside0.mk (Q_S18 (hon 18 (by kernel_rfl)))
      have S24 := Aside0.mk (Q_S24 (hon 24 (by kernel_rfl)))
      have S30 := Aside0.mk (Q_S30 (hon 30 (by kernel_rfl)))
      refine value_ (w1 := w') (v := .string (((((x9 ++ x13) ++ x18) ++ x24) ++ x30) ++ a1)) (by rfl) rfl ?_ ?_
      · go_simp
        (try simp only [i64_w])
        try rfl
      refine hK.out _ _ ⟨z9, z13, z18, z24, z30, (by rw [ha.out]; exact putSel_upk 27 hb_ rfl rfl rfl), Q_B0, Q_S9, Q_S13, Q_S18, Q_S24, Q_S30⟩
    exact steps_nil
  rintro b a wl hall ⟨z9, z13, z18, z24, z30, ha, Q_B0, Q_S9, Q_S13, Q_S18, Q_S24, Q_S30⟩
  clear B0
  have hb1_ := hall 1 (by kernel_rfl)
  have hb2_ := hall 2 (by kernel_rfl)
  have hb4_ := hall 4 (by kernel_rfl)
  have hb5_ := hall 5 (by kernel_rfl)
  have hb7_ := hall 7 (by kernel_rfl)
  have hb8_ := hall 8 (by kernel_rfl)
  have hb9_ := hall 9 (by kernel_rfl)
  have hb10_ := hall 10 (by kernel_rfl)
  have hb12_ := hall 12 (by kernel_rfl)
  have hb13_ := hall 13 (by kernel_rfl)
  have hb14_ := hall 14 (by kernel_rfl)
  have hb15_ := hall 15 (by kernel_rfl)
  have hb17_ := hall 17 (by kernel_rfl)
  have hb18_ := hall 18 (by kernel_rfl)
  have hb19_ := hall 19 (by kernel_rfl)
  have hb20_ := hall 20 (by kernel_rfl)
  have hb22_ := hall 22 (by kernel_rfl)
  have hb23_ := hall 23 (by kernel_rfl)
  have hb24_ := hall 24 (by kernel_rfl)
  have hb25_ := hall 25 (by kernel_rfl)
  have hb26_ := hall 26 (by kernel_rfl)
  have hb28_ := hall 28 (by kernel_rfl)
  have hb29_ := hall 29 (by kernel_rfl)
  have hb30_ := hall 30 (by kernel_rfl)
  have hb31_ := hall 31 (by kernel_rfl)
  have hb32_ := hall 32 (by kernel_rfl)
  have hb34_ := hall 34 (by kernel_rfl)
  have hb35_ := hall 35 (by kernel_rfl)
  subst ha
  simp only [putSel, hb1_, hb2_, hb4_, hb5_, hb7_, hb8_, hb9_, hb10_, hb12_, hb13_, hb14_, hb15_, hb17_, hb18_, hb19_, hb20_, hb22_, hb23_, hb24_, hb25_, hb26_, hb28_, hb29_, hb30_, hb31_, hb32_, hb34_, hb35_, if_true, Act.put, List.setIfInBounds_toArray, List.set_cons_zero, List.set_cons_succ]
  have B0 := Aside0.mk Q_B0
  clear Q_B0
  have S9 := Aside0.mk (Q_S9 hb9_)
  clear Q_S9
  have S13 := Aside0.mk (Q_S13 hb13_)
  clear Q_S13
  have S18 := Aside0.mk (Q_S18 hb18_)
  clear Q_S18
  have S24 := Aside0.mk (Q_S24 hb24_)
  clear Q_S24
  have S30 := Aside0.mk (Q_S30 hb30_)
  clear Q_S30
  clear hall hb1_ hb2_ hb4_ hb5_ hb7_ hb8_ hb9_ hb10_ hb12_ hb13_ hb14_ hb15_ hb17_ hb18_ hb19_ hb20_ hb22_ hb23_ hb24_ hb25_ hb26_ hb28_ hb29_ hb30_ hb31_ hb32_ hb34_ hb35_
  have B2 := Aside0.mk (below_then B1.out B1.out.size B0.out)
  obtain ⟨s0, hs0⟩ : ∃ s, s = x9 ++ x13 ++ x18 ++ x24 ++ x30 ++ a1 := ⟨_, rfl⟩
  rw [← hs0]
  have hsz : s0.size = 24 + a1.size := by
    have := HS.out
    rw [hs0]
    simp only [ByteArray.size_append]
    omega
  obtain ⟨m, hm⟩ : ∃ m, m = 252 - (24 + a1.size) := ⟨_, rfl⟩
  obtain ⟨xo, hxo⟩ : ∃ x, x = strOfNums (List.replicate m 255) := ⟨_, rfl⟩
  have XO := Aside0.mk (wagtailref15_Put.ref_ones_calls m (by omega) (252 - (s0.size : Int)) (by rw [hsz]; have := HS.out; omega) xo hxo)
  obtain ⟨t, ht⟩ : ∃ t, t = s0 ++ xo := ⟨_, rfl⟩
  have ht2 := ht.symm
  have hxs : xo.size = m := by rw [hxo, wagtailref15_Put.str_size]; simp
  have hz2 : s0.size + xo.size ≤ 9223372036854775807 := by have := HS.out; omega
  have HTT := Aside0.mk (show bytesOf t = pageBody a0_0 a0_1 a0_2 a0_3 a0_4 a0_5 a0_6 (bytesOf a1) ∧ t = strOfNums (pageBody a0_0 a0_1 a0_2 a0_3 a0_4 a0_5 a0_6 (bytesOf a1)) by
    obtain ⟨_, hrg, _, hx9, hx13, hx18, hx24, hx30⟩ := HALL.out
    have hb : t = strOfNums (pageBody a0_0 a0_1 a0_2 a0_3 a0_4 a0_5 a0_6 (bytesOf a1)) := by
      rw [ht, hs0, hx9, hx13, hx18, hx24, hx30, hxo]
      conv => lhs; rw [← wagtailref15_Put.str_bytes a1]
      simp only [wagtailref15_Put.str_append]
      unfold pageBody pageHead
      rw [bytesOf_length, ← hm, IntKind.wrap_u64, IntKind.wrap_u64]
    refine ⟨?_, hb⟩
    rw [hb, wagtailref15_Put.bytesOf_str]
    exact wagtailref15_Put.pageBody_bytes _ _ _ _ _ _ _ _ (wagtailref15_Put.bytes_isBytes a1))
  have HZ := Aside0.mk (show t.size = 252 by rw [ht, ByteArray.size_append, hsz, hxs, hm]; have := HS.out; omega)
  rw [← hL.out] at HTT
  have HLN := Aside0.mk (show L.length = 252 by rw [← HTT.out.1, bytesOf_length]; exact HZ.out)
  clear hs0 hxo ht hm hxs hsz HALL HT_ HW_ hL
  clear B1 HX0 HX1 HX2 HX3 HX4 HX5 HX6 HG X13 X18 X24 X30 B0 X9
  go_upto_region 3 with ((go_at_call 73); (with_reducible refine (XO.out _).mono ?_); (rintro e w2 ⟨z, rfl, hb, hs⟩); have hs := hs.here; have B3 := Aside0.mk (below_then B2.out B2.out.size hb); clear hb B2)
  clear hz2 XO S9 S13 S18 S24 S30 HS
  go_wp2_with fail
  go_loopg [6, 7] 253 (fun kq v6 v7 w' => ∃ i : Nat, v6 = .int .i64 (zsum (L.take i)) ∧ v7 = .int .i64 i ∧ Aside0 (i ≤ 252) ∧ Aside0 (kq + i = 253) ∧ Aside0 (Below w.heap.size w w'))
  case atStart => exact ⟨0, rfl, rfl, ⟨by omega⟩, ⟨by omega⟩, B3⟩
  case round =>
    clear hs ht2
    obtain ⟨i, rfl, rfl, HI, HQ, HB⟩ := hrel
    by_cases hi : i < 252
    · have q1 : (i : Int) < (t.size : Int) := by have := HZ.out; omega
      have p1 : (0 : Int) ≤ (i : Int) := by omega
      have t1 : decide ((i : Int) < (t.size : Int)) = true := decide_eq_true q1
      have hx : ((t[i]'(by have := HZ.out; omega)).toNat : Int) = bt t i := bt_at t i (by have := HZ.out; omega)
      have hcr := bt_range t i
      have HC := Aside0.mk (show bt t i = L.getD i 0 by rw [← HTT.out.1, ← rd_bytesOf]; rfl)
      generalize bt t i = c at hx hcr HC
      have hwc : wrap64 c = c := by unfold wrap64; omega
      have HCR := Aside0.mk hcr
      have HI2 := Aside0.mk hi
      have hZr := zsum_range (L.take i)
      have HZN := Aside0.mk (show zsum (L.take (i + 1)) = zsum (L.take i) + zpre c 8 by rw [zpre_8, HC.out]; exact wagtailref15_Put.zsum_snoc L i (by have := HLN.out; omega))
      have HZR := Aside0.mk (show 0 ≤ zsum (L.take i) ∧ zsum (L.take i) ≤ 8 * 252 by rw [List.length_take] at hZr; have := HLN.out; omega)
      generalize zsum (L.take i) = Z at HZN HZR
      replace p1 := eq_true p1
      replace q1 := eq_true q1
      clear hcr hi hZr
      go_wp2
      go_loopg [6, 8, 9] 9 (fun kq v6 v8 v9 w' => ∃ k : Nat, v6 = .int .i64 (Z + zpre c k) ∧ v8 = .int .i64 (c / 2 ^ k) ∧ v9 = .int .i64 k ∧ Aside0 (k ≤ 8) ∧ Aside0 (kq + k = 9) ∧ Aside0 (Below w.heap.size w w'))
      case atStart => exact ⟨0, by simp [zpre], by simp [hwc], rfl, ⟨by omega⟩, ⟨by omega⟩, ⟨by repeat (first | exact HB.out | apply below_alloc | apply pw_below_drewN | apply below_drew1)⟩⟩
      case round =>
        clear t1 hx hwc p1 q1
        obtain ⟨k, rfl, rfl, rfl, HK, HQ2, HB2⟩ := hrel
        by_cases hk : k < 8
        · have t2 : decide ((k : Int) < 8) = true := decide_eq_true (by omega)
          have HK8 := Aside0.mk hk
          have hzs : zpre c (k + 1) = zpre c k + (1 - c / 2 ^ k % 2) := rfl
          have hdv : c / 2 ^ (k + 1) = c / 2 ^ k / 2 := by rw [Int.pow_succ, Int.ediv_ediv_of_nonneg (Int.le_of_lt (Int.pow_pos (by omega)))]
          have hx0 : 0 ≤ c / 2 ^ k := Int.ediv_nonneg HCR.out.1 (Int.le_of_lt (Int.pow_pos (by omega)))
          have hx1 : c / 2 ^ k ≤ 255 := Int.le_trans (Int.ediv_le_self _ HCR.out.1) HCR.out.2
          have hpr := zpre_range c k
          generalize c / 2 ^ k = x at hzs hdv hx0 hx1
          have HDV := Aside0.mk (show wrap64 (Int.tdiv x 2) = c / 2 ^ (k + 1) by rw [hdv, Int.tdiv_eq_ediv_of_nonneg hx0]; unfold wrap64; omega)
          have hm0 : Int.tmod x 2 = x % 2 := Int.tmod_eq_emod_of_nonneg hx0
          by_cases hp : x % 2 = 0
          · have m1 : Int.tmod x 2 = 0 := by omega
            have HSM := Aside0.mk (show wrap64 (Z + zpre c k + 1) = Z + zpre c (k + 1) by rw [hzs, hp]; unfold wrap64; have := HZR.out; omega)
            clear hzs hdv hx0 hx1 hpr hp hm0 hk
            go_wp2
            go_roundg (8 - k)
            case measure => have := HQ2.out; have := HK8.out; omega
            case rel => exact ⟨k + 1, by rw [HSM.out], by rw [HDV.out], by first | rfl | (simp; unfold wrap64; have := HK8.out; omega), ⟨by have := HK8.out; omega⟩, ⟨by have := HQ2.out; have := HK8.out; omega⟩, ⟨by repeat (first | exact HB2.out | apply below_alloc | apply pw_below_drewN | apply below_drew1)⟩⟩
          · have m1 : Int.tmod x 2 = 1 := by omega
            have HSM := Aside0.mk (show Z + zpre c k = Z + zpre c (k + 1) by rw [hzs]; omega)
            clear hzs hdv hx0 hx1 hpr hp hm0 hk
            go_wp2
            go_roundg (8 - k)
            case measure => have := HQ2.out; have := HK8.out; omega
            case rel => exact ⟨k + 1, by rw [← HSM.out], by rw [HDV.out], by first | rfl | (simp; unfold wrap64; have := HK8.out; omega), ⟨by have := HK8.out; omega⟩, ⟨by have := HQ2.out; have := HK8.out; omega⟩, ⟨by repeat (first | exact HB2.out | apply below_alloc | apply pw_below_drewN | apply below_drew1)⟩⟩
        · have hk8 : k = 8 := by have := HK.out; omega
          subst hk8
          go_wp2
          go_roundg (252 - i)
          case measure => have := HQ.out; have := HI2.out; omega
          case rel => exact ⟨i + 1, by rw [HZN.out], by first | rfl | (simp; unfold wrap64; have := HI2.out; omega), ⟨by have := HI2.out; omega⟩, ⟨by have := HQ.out; have := HI2.out; omega⟩, ⟨by repeat (first | exact HB2.out | apply below_alloc | apply pw_below_drewN | apply below_drew1)⟩⟩
    · have hi : i = 252 := by have := HI.out; omega
      subst hi
      have t1 : decide (((252 : Nat) : Int) < (t.size : Int)) = false := decide_eq_false (by have := HZ.out; omega)
      have t1b : decide ((252 : Int) < (t.size : Int)) = false := t1
      rw [List.take_of_length_le (show L.length ≤ 252 by have := HLN.out; omega)]
      have hr := zsum_range L
      rw [HLN.out] at hr
      obtain ⟨xc, hxc⟩ : ∃ x, x = strOfNums (beBytes 4 (zsum L)) := ⟨_, rfl⟩
      have hw0 : IntKind.u64.wrap (zsum L) = zsum L := by rw [IntKind.wrap_u64]; omega
      have XC := Aside0.mk (wagtailref15_Put.ref_bytes_calls (zsum L) hr.1 (by omega) 4 (by omega) 4 rfl xc hxc)
      have hxs : xc.size = 4 := by rw [hxc, wagtailref15_Put.str_size, beBytes_len]
      have hz2 : t.size + xc.size ≤ 9223372036854775807 := by have := HZ.out; omega
      have HFIN := Aside0.mk (show strOfNums (L ++ beBytes 4 (zsum L)) = t ++ xc by rw [← wagtailref15_Put.str_append, ← hxc, ← HTT.out.2])
      clear hxs hxc hr
      go_wp2_with ((go_at_call 114); (with_reducible refine (XC.out _).mono ?_); (rintro e w3 ⟨z2, rfl, hb, hs⟩); have hs := hs.here; have B4 := Aside0.mk (below_then HB.out HB.out.size hb); clear hb)
      go_ret
      exact ⟨by rw [HFIN.out]; rfl, by repeat (first | exact B4.out | apply below_alloc | apply pw_below_drewN | apply below_drew1)⟩
end Go.Proofs.Ytnchdmidaigheaa.Hp
namespace Go.Proofs.Ytnchdmidaigheaa.Hp
open Go.RowKit Go.Proofs.YtnchdmidaigheaaW.PrintWords Go.Proofs.YtnchdmidaigheaaW.PrintLast Go.Proofs.YtnchdmidaigheaaW.PrintMore
attribute [local go_sem] max2_int min2_int max_two min_two max_three min_three max_four min_four   -- for this text's walks alone
set_option linter.unusedVariables false
set_option linter.unusedSimpArgs false
end Go.Proofs.Ytnchdmidaigheaa.Hp
namespace Go.Proofs.Ytnchdmidaigheaa.Hp
open Go.RowKit Go.Proofs.YtnchdmidaigheaaW.PrintWords Go.Proofs.YtnchdmidaigheaaW.PrintLast Go.Proofs.YtnchdmidaigheaaW.PrintMore
attribute [local go_sem] max2_int min2_int max_two min_two max_three min_three max_four min_four   -- for this text's walks alone
set_option linter.unusedVariables false
set_option linter.unusedSimpArgs false
end Go.Proofs.Ytnchdmidaigheaa.Hp
namespace Go.Proofs.Ytnchdmidaigheaa.Hp
open Go.RowKit Go.Proofs.YtnchdmidaigheaaW.PrintWords Go.Proofs.YtnchdmidaigheaaW.PrintLast Go.Proofs.YtnchdmidaigheaaW.PrintMore
attribute [local go_sem] max2_int min2_int max_two min_two max_three min_three max_four min_four   -- for this text's walks alone
set_option linter.unusedVariables false
set_option linter.unusedSimpArgs false
end Go.Proofs.Ytnchdmidaigheaa.Hp
namespace Go.Proofs.Ytnchdmidaigheaa.Hp
open Go.RowKit Go.Proofs.YtnchdmidaigheaaW.PrintWords Go.Proofs.YtnchdmidaigheaaW.PrintLast Go.Proofs.YtnchdmidaigheaaW.PrintMore
attribute [local go_sem] max2_int min2_int max_two min_two max_three min_three max_four min_four   -- for this text's walks alone
set_option linter.unusedVariables false
set_option linter.unusedSimpArgs false
end Go.Proofs.Ytnchdmidaigheaa.Hp
