-- Laid by this workplace's own program hprint.py (functions marked by hand are ours; the others are printed out of the translation). Not trusted: Lean checks it.
import Derived.Test.YtmlkkdopogcggaaHp0
namespace Go.Proofs.Ytmlkkdopogcggaa.Hp
open Go.RowKit Go.Proofs.YtmlkkdopogcggaaW.PrintWords Go.Proofs.YtmlkkdopogcggaaW.PrintLast Go.Proofs.YtmlkkdopogcggaaW.PrintMore
attribute [local go_sem] max2_int min2_int max_two min_two max_three min_three max_four min_four   -- for this text's walks alone
set_option linter.unusedVariables false
set_option linter.unusedSimpArgs false

/-! ### be_Get: function 71 -/
-- a function whose text and proof are by hand
def be_Get.f (l : List Int) (at_ w : Int) : Option Int := if isBytes l ∧ l.length ≤ 1000000 then some (beNum l (beAt l at_) (wid w)) else none
theorem byte_clo (i : Int) (A1 : Option Addr) (c1 : Nat) (l1 : List Int) (p : Addr) (w : World)
    (hp : w.cell? p = some (.slice A1 l1.length c1)) (hr1 : Kd.C (Kd.int .u8) w A1 l1.length l1) (hb : isBytes l1) :
    Calls Try.prog 73 #[.int .i64 i, .pointer (some p)] w fun e w' => e = .returned (.int .u64 (byteAt l1 i)) ∧ Drawn0 w w' := by
  have HR1 := Aside0.mk hr1
  have HW := Aside0.mk (show IntKind.u64.wrap (rd l1 i) = rd l1 i by rw [IntKind.wrap_u64]; have := rd_range l1 hb i; omega)
  clear hr1 hb
  by_cases h0 : i < 0
  · have e : byteAt l1 i = 0 := by unfold byteAt; rw [if_pos (.inl h0)]
    rw [e]
    have t1 : decide (i < 0) = true := decide_eq_true h0
    go_enter Try.func73, Try.ntmps73
    go_wp2
    go_ret
    exact ⟨rfl, Drawn0.refl _⟩
  · have t1 : decide (i < 0) = false := decide_eq_false h0
    by_cases h1 : (l1.length : Int) ≤ i
    · have e : byteAt l1 i = 0 := by unfold byteAt; rw [if_pos (.inr h1)]
      rw [e]
      have t2 : decide ((l1.length : Int) ≤ i) = true := decide_eq_true h1
      go_enter Try.func73, Try.ntmps73
      go_wp2
      go_ret
      exact ⟨rfl, Drawn0.refl _⟩
    · have e : byteAt l1 i = rd l1 i := by unfold byteAt; rw [if_neg (by omega)]; rfl
      rw [e]
      have t2 : decide ((l1.length : Int) ≤ i) = false := decide_eq_false h1
      have p1 : 0 ≤ i := by omega
      have q1 : i < (l1.length : Int) := by omega
      obtain ⟨ad, ead, hx⟩ := Kd.at_int HR1.out i p1 q1
      cases ead
      clear h0 h1 e
      go_enter Try.func73, Try.ntmps73
      go_wp2
      rw [HW.out]
      go_ret
      exact ⟨rfl, Drawn0.refl _⟩

theorem bw_calls (a0 : Int) (w : World) : Calls Try.prog 72 #[.int .i64 a0] w fun e w' => e = .returned (.int .i64 ((wid a0 : Nat) : Int)) ∧ Drawn0 w w' := by
  have e : ((wid a0 : Nat) : Int) = mn (mx a0 0) 8 := by unfold wid mn mx; (repeat' split) <;> omega
  rw [e]
  clear e
  obtain ⟨ji2, hji2⟩ : ∃ j_ : Int, (mx a0 0) = j_ := ⟨_, rfl⟩
  rw [hji2]
  have hji2_ : (if a0 < 0 then 0 else a0) = ji2 := hji2
  obtain ⟨ji3, hji3⟩ : ∃ j_ : Int, (mn (ji2) 8) = j_ := ⟨_, rfl⟩
  rw [hji3]
  have hji3_ : (if 8 < (ji2) then 8 else (ji2)) = ji3 := hji3
  go_enter Try.func72, Try.ntmps72
  go_wp2
  go_ret
  exact ⟨by first | rfl | (simp only [← hji2, ← hji3]; first | rfl | (simp [errW_none, errW_some] <;> rfl)) | (simp [*, errW_none, errW_some] <;> rfl), Drawn0.refl _⟩
set_option maxHeartbeats 8000000 in
set_option maxRecDepth 100000 in
theorem be_Get.calls (A0 : Option Addr) (c0 : Nat) (l0 : List Int) (a1 : Int) (a2 : Int) (r : Int) (w : World) (hr0 : Kd.C (Kd.int .u8) w A0 l0.length l0) (hc0 : l0.length ≤ c0) (h : be_Get.f l0 a1 a2 = some r) :
    Calls Try.prog 71 #[.slice A0 l0.length c0, .int .i64 a1, .int .i64 a2] w fun e w' => e = .returned (.int .u64 r) ∧ Below w.heap.size w w' := by
  unfold be_Get.f at h
  by_cases hb : isBytes l0 ∧ l0.length ≤ 1000000
  case neg => rw [if_neg hb] at h; cases h
  rw [if_pos hb] at h
  obtain rfl := Option.some.inj h
  obtain ⟨hb, hl⟩ := hb
  have HR0 := Aside0.mk hr0
  have HBy := Aside0.mk hb
  have HL := Aside0.mk hl
  clear h hr0 hc0 hb hl
  have hmf : ∀ (fn : Fn) (first cap : Array Value) (w : World), (Instr.makeFunc fn first cap).run Try.prog w = .ok (.func fn first cap) w := fun _ _ _ _ => rfl
  obtain ⟨m, hm⟩ : ∃ m : Nat, wid a2 = m := ⟨_, rfl⟩
  obtain ⟨b, hb⟩ : ∃ b : Int, beAt l0 a1 = b := ⟨_, rfl⟩
  rw [hm, hb]
  have HM := Aside0.mk hm
  have HB := Aside0.mk hb
  have HM8 := Aside0.mk (show m ≤ 8 by rw [← hm]; unfold wid mn mx; (repeat' split) <;> omega)
  clear hm hb
  by_cases hgt : (l0.length : Int) < a1
  · have t1 : decide ((l0.length : Int) < a1) = true := decide_eq_true hgt
    obtain rfl : (l0.length : Int) = b := by have := HB.out; unfold beAt mx at this; rw [if_pos hgt] at this; rw [← this]; split <;> omega
    clear hgt
    go_enter Try.func71, Try.ntmps71
    go_wp2_with ((go_at_call 72); (with_reducible refine (bw_calls a2 _).mono ?_); rintro e w' ⟨rfl, ⟨nw, rfl⟩⟩)
    rw [HM.out]
    go_loopg [7, 21] (m + 1) (fun kq v7 v21 w' => ∃ j : Nat, v7 = .int .u64 (bePre l0 (l0.length : Int) j) ∧ v21 = .int .i64 j ∧ Aside0 (j ≤ m) ∧ Aside0 (kq + j = m + 1) ∧ Drawn0 (w.alloc (.cells #[.slice A0 l0.length c0] 35)) w')
    case atStart => exact ⟨0, rfl, rfl, ⟨by omega⟩, ⟨by omega⟩, by repeat (first | exact Drawn0.refl _ | apply Drawn0.step)⟩
    case round =>
      obtain ⟨j, rfl, rfl, HJ, HQ, ⟨nd, rfl⟩⟩ := hrel
      by_cases hj : j < m
      · have hj8 : j < 8 := by have := HM8.out; omega
        have u1 : decide ((j : Int) < (m : Int)) = true := decide_eq_true (by omega)
        have u2 : decide (j < m) = true := decide_eq_true hj
        have hwr : wrap64 ((l0.length : Int) + (j : Int)) = (l0.length : Int) + (j : Int) := by have := HL.out; unfold wrap64; omega
        have HS := Aside0.mk (beStep l0 HBy.out (l0.length : Int) j hj8)
        go_wp2_with ((go_at_call 73); (with_reducible refine (byte_clo ((l0.length : Int) + (j : Int)) A0 c0 l0 ⟨w.heap.size, 0, none⟩ _ ?side1 ?side2 HBy.out).mono ?_); (case side1 => simp); (case side2 => exact Kd.C_drewN (Kd.C_alloc HR0.out _) _); rintro e w' ⟨rfl, ⟨ne, rfl⟩⟩)
        go_roundg (m - j)
        case measure => have := HQ.out; omega
        case rel => exact ⟨j + 1, by rw [HS.out], by first | rfl | simp | (congr 1; unfold wrap64; omega), ⟨by omega⟩, ⟨by omega⟩, by repeat (first | exact Drawn0.refl _ | apply Drawn0.step)⟩
      · have hje : j = m := by have := HJ.out; omega
        subst hje
        have u1 : decide ((j : Int) < (j : Int)) = false := decide_eq_false (by omega)
        go_wp2
        go_ret
        exact ⟨rfl, by repeat (first | exact Below.refl _ _ | apply below_alloc | apply pw_below_drewN | apply below_drew1)⟩
  · have t1 : decide ((l0.length : Int) < a1) = false := decide_eq_false hgt
    by_cases hlo : a1 < -8
    · obtain rfl : (-8 : Int) = b := by have := HB.out; unfold beAt mx at this; rw [if_neg hgt] at this; rw [← this]; split <;> omega
      clear hgt
      go_enter Try.func71, Try.ntmps71
      go_wp2_with ((go_at_call 72); (with_reducible refine (bw_calls a2 _).mono ?_); rintro e w' ⟨rfl, ⟨nw, rfl⟩⟩)
      rw [HM.out]
      go_loopg [7, 21] (m + 1) (fun kq v7 v21 w' => ∃ j : Nat, v7 = .int .u64 (bePre l0 (-8 : Int) j) ∧ v21 = .int .i64 j ∧ Aside0 (j ≤ m) ∧ Aside0 (kq + j = m + 1) ∧ Drawn0 (w.alloc (.cells #[.slice A0 l0.length c0] 35)) w')
      case atStart => exact ⟨0, rfl, rfl, ⟨by omega⟩, ⟨by omega⟩, by repeat (first | exact Drawn0.refl _ | apply Drawn0.step)⟩
      case round =>
        obtain ⟨j, rfl, rfl, HJ, HQ, ⟨nd, rfl⟩⟩ := hrel
        by_cases hj : j < m
        · have hj8 : j < 8 := by have := HM8.out; omega
          have u1 : decide ((j : Int) < (m : Int)) = true := decide_eq_true (by omega)
          have u2 : decide (j < m) = true := decide_eq_true hj
          have hwr : wrap64 ((-8 : Int) + (j : Int)) = (-8 : Int) + (j : Int) := by have := HL.out; unfold wrap64; omega
          have HS := Aside0.mk (beStep l0 HBy.out (-8 : Int) j hj8)
          go_wp2_with ((go_at_call 73); (with_reducible refine (byte_clo ((-8 : Int) + (j : Int)) A0 c0 l0 ⟨w.heap.size, 0, none⟩ _ ?side1 ?side2 HBy.out).mono ?_); (case side1 => simp); (case side2 => exact Kd.C_drewN (Kd.C_alloc HR0.out _) _); rintro e w' ⟨rfl, ⟨ne, rfl⟩⟩)
          go_roundg (m - j)
          case measure => have := HQ.out; omega
          case rel => exact ⟨j + 1, by rw [HS.out], by first | rfl | simp | (congr 1; unfold wrap64; omega), ⟨by omega⟩, ⟨by omega⟩, by repeat (first | exact Drawn0.refl _ | apply Drawn0.step)⟩
        · have hje : j = m := by have := HJ.out; omega
          subst hje
          have u1 : decide ((j : Int) < (j : Int)) = false := decide_eq_false (by omega)
          go_wp2
          go_ret
          exact ⟨rfl, by repeat (first | exact Below.refl _ _ | apply below_alloc | apply pw_below_drewN | apply below_drew1)⟩
    · obtain rfl : a1 = b := by have := HB.out; unfold beAt mx at this; rw [if_neg hgt] at this; rw [← this]; split <;> omega
      have hlo2 : -8 ≤ a1 := by omega
      have hhi2 : a1 ≤ 1000000 := by have := HL.out; omega
      clear hgt
      go_enter Try.func71, Try.ntmps71
      go_wp2_with ((go_at_call 72); (with_reducible refine (bw_calls a2 _).mono ?_); rintro e w' ⟨rfl, ⟨nw, rfl⟩⟩)
      rw [HM.out]
      go_loopg [7, 21] (m + 1) (fun kq v7 v21 w' => ∃ j : Nat, v7 = .int .u64 (bePre l0 a1 j) ∧ v21 = .int .i64 j ∧ Aside0 (j ≤ m) ∧ Aside0 (kq + j = m + 1) ∧ Drawn0 (w.alloc (.cells #[.slice A0 l0.length c0] 35)) w')
      case atStart => exact ⟨0, rfl, rfl, ⟨by omega⟩, ⟨by omega⟩, by repeat (first | exact Drawn0.refl _ | apply Drawn0.step)⟩
      case round =>
        obtain ⟨j, rfl, rfl, HJ, HQ, ⟨nd, rfl⟩⟩ := hrel
        by_cases hj : j < m
        · have hj8 : j < 8 := by have := HM8.out; omega
          have u1 : decide ((j : Int) < (m : Int)) = true := decide_eq_true (by omega)
          have u2 : decide (j < m) = true := decide_eq_true hj
          have hwr : wrap64 (a1 + (j : Int)) = a1 + (j : Int) := by have := HL.out; unfold wrap64; omega
          have HS := Aside0.mk (beStep l0 HBy.out a1 j hj8)
          go_wp2_with ((go_at_call 73); (with_reducible refine (byte_clo (a1 + (j : Int)) A0 c0 l0 ⟨w.heap.size, 0, none⟩ _ ?side1 ?side2 HBy.out).mono ?_); (case side1 => simp); (case side2 => exact Kd.C_drewN (Kd.C_alloc HR0.out _) _); rintro e w' ⟨rfl, ⟨ne, rfl⟩⟩)
          go_roundg (m - j)
          case measure => have := HQ.out; omega
          case rel => exact ⟨j + 1, by rw [HS.out], by first | rfl | simp | (congr 1; unfold wrap64; omega), ⟨by omega⟩, ⟨by omega⟩, by repeat (first | exact Drawn0.refl _ | apply Drawn0.step)⟩
        · have hje : j = m := by have := HJ.out; omega
          subst hje
          have u1 : decide ((j : Int) < (j : Int)) = false := decide_eq_false (by omega)
          go_wp2
          go_ret
          exact ⟨rfl, by repeat (first | exact Below.refl _ _ | apply below_alloc | apply pw_below_drewN | apply below_drew1)⟩

end Go.Proofs.Ytmlkkdopogcggaa.Hp
