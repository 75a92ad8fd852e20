-- Laid by this workplace's own program hprint.py (functions marked by hand are ours; the others are printed out of the translation). Not trusted: Lean checks it.
import Derived.Test.YtmlkkdopogcggaaHp0
namespace Go.Proofs.Ytmlkkdopogcggaa.Hp
open Go.RowKit Go.Proofs.YtmlkkdopogcggaaW.PrintWords Go.Proofs.YtmlkkdopogcggaaW.PrintLast Go.Proofs.YtmlkkdopogcggaaW.PrintMore
attribute [local go_sem] max2_int min2_int max_two min_two max_three min_three max_four min_four   -- for this text's walks alone
set_option linter.unusedVariables false
set_option linter.unusedSimpArgs false

/-! ### wagtailref01_Number: function 49 -/
-- a function whose text and proof are by hand
def wagtailref01_Number.f (l : List Int) (at_ w : Int) : Option Int := if isBytes l ∧ l.length ≤ 1000000 then some (refNum l at_ w) else none
set_option maxHeartbeats 8000000 in
set_option maxRecDepth 100000 in
theorem wagtailref01_Number.calls (A0 : Option Addr) (c0 : Nat) (l0 : List Int) (a1 : Int) (a2 : Int) (r : Int) (w : World) (hr0 : Kd.C (Kd.int .u8) w A0 l0.length l0) (hc0 : l0.length ≤ c0) (h : wagtailref01_Number.f l0 a1 a2 = some r) :
    Calls Try.prog 49 #[.slice A0 l0.length c0, .int .i64 a1, .int .i64 a2] w fun e w' => e = .returned (.int .u64 r) ∧ Drawn0 w w' := by
  unfold wagtailref01_Number.f at h
  by_cases hb : isBytes l0 ∧ l0.length ≤ 1000000
  case neg => rw [if_neg hb] at h; cases h
  rw [if_pos hb] at h
  obtain rfl := Option.some.inj h
  obtain ⟨hb, hl⟩ := hb
  have HR0 := Aside0.mk hr0
  have HBy := Aside0.mk hb
  have HL := Aside0.mk hl
  clear h hr0 hc0 hb hl
  obtain ⟨m, hm⟩ : ∃ m : Nat, (mn (mx a2 0) 8).toNat = m := ⟨_, rfl⟩
  have HM := Aside0.mk (show m ≤ 8 ∧ (∀ j : Nat, j < m → (j : Int) < a2) ∧ (∀ j : Nat, m ≤ j → j < 8 → a2 ≤ j) by unfold mn mx at hm; (repeat' split at hm) <;> refine ⟨by omega, fun j hj => by omega, fun j hj hj8 => by omega⟩)
  have HN := Aside0.mk (show refNum l0 a1 a2 = refPre l0 a1 m by unfold refNum; rw [hm])
  clear hm
  go_enter Try.func49, Try.ntmps49
  go_wp2
  go_loopg [7, 8] (m + 1) (fun kq v7 v8 w' => ∃ j : Nat, v7 = .int .u64 (refPre l0 a1 j) ∧ v8 = .int .i64 j ∧ Aside0 (j ≤ m) ∧ Aside0 (kq + j = m + 1) ∧ Drawn0 w w')
  case atStart => exact ⟨0, rfl, rfl, ⟨by omega⟩, ⟨by omega⟩, Drawn0.refl _⟩
  case round =>
    obtain ⟨j, rfl, rfl, HJ, HQ, ⟨nd, rfl⟩⟩ := hrel
    by_cases hj : j < m
    · have t1 : decide ((j : Int) < a2) = true := decide_eq_true (HM.out.2.1 j hj)
      have t2 : decide ((j : Int) < 8) = true := decide_eq_true (by have := HM.out.1; omega)
      have hj8 : j < 8 := by have := HM.out.1; omega
      by_cases ha : 0 ≤ a1 ∧ a1 ≤ (l0.length : Int)
      · obtain ⟨t, rfl⟩ := Int.eq_ofNat_of_zero_le ha.1
        have hle : t ≤ 1000000 := by have := HL.out; omega
        have hwr : wrap64 ((t : Int) + (j : Int)) = (t : Int) + (j : Int) := by unfold wrap64; omega
        have t3 : decide (0 ≤ (t : Int)) = true := decide_eq_true (by omega)
        have t4 : decide ((t : Int) ≤ (l0.length : Int)) = true := decide_eq_true ha.2
        have t5 : decide (t ≤ l0.length) = true := decide_eq_true (by omega)
        have t6 : decide (0 ≤ (t : Int) + (j : Int)) = true := decide_eq_true (by omega)
        by_cases hlt : (t : Int) + (j : Int) < (l0.length : Int)
        · have t7 : decide ((t : Int) + (j : Int) < (l0.length : Int)) = true := decide_eq_true hlt
          obtain ⟨ad, ead, hx⟩ := Kd.at_int HR0.out ((t : Int) + j) (by omega) hlt
          cases ead
          have hx2 : w.cell? (ad.add (t + j)) = some (.int .u8 (rd l0 ((t : Int) + (j : Int)))) := by rw [← hx]; congr 2
          have HS := Aside0.mk (refStep1 l0 HBy.out t j hj8 (rd l0 ((t : Int) + j)) (by unfold refByte; rw [if_pos ⟨by omega, hlt⟩]))
          clear ha hle
          go_wp2
          go_roundg (m - j)
          case measure => have := HQ.out; omega
          case rel => exact ⟨j + 1, by rw [HS.out], by first | rfl | simp | (congr 1; unfold wrap64; omega), ⟨by omega⟩, ⟨by omega⟩, by repeat (first | exact Drawn0.refl _ | apply Drawn0.step)⟩
        · have t7 : decide ((t : Int) + (j : Int) < (l0.length : Int)) = false := decide_eq_false hlt
          have HS := Aside0.mk (refStep0 l0 HBy.out t j hj8 (by unfold refByte; rw [if_neg (fun h => hlt h.2)]))
          clear ha hle
          go_wp2
          go_roundg (m - j)
          case measure => have := HQ.out; omega
          case rel => exact ⟨j + 1, by rw [HS.out], by first | rfl | simp | (congr 1; unfold wrap64; omega), ⟨by omega⟩, ⟨by omega⟩, by repeat (first | exact Drawn0.refl _ | apply Drawn0.step)⟩
      · have HS := Aside0.mk (refStep0 l0 HBy.out a1 j hj8 (by unfold refByte; rw [if_neg (fun h => ha ⟨h.1, by omega⟩)]))
        by_cases hb : 0 ≤ a1
        · have t3 : decide (0 ≤ a1) = true := decide_eq_true hb
          have t4 : decide (a1 ≤ (l0.length : Int)) = false := decide_eq_false (fun h => ha ⟨hb, h⟩)
          clear ha hb
          go_wp2
          go_roundg (m - j)
          case measure => have := HQ.out; omega
          case rel => exact ⟨j + 1, by rw [HS.out], by first | rfl | simp | (congr 1; unfold wrap64; omega), ⟨by omega⟩, ⟨by omega⟩, by repeat (first | exact Drawn0.refl _ | apply Drawn0.step)⟩
        · have t3 : decide (0 ≤ a1) = false := decide_eq_false hb
          clear ha hb
          go_wp2
          go_roundg (m - j)
          case measure => have := HQ.out; omega
          case rel => exact ⟨j + 1, by rw [HS.out], by first | rfl | simp | (congr 1; unfold wrap64; omega), ⟨by omega⟩, ⟨by omega⟩, by repeat (first | exact Drawn0.refl _ | apply Drawn0.step)⟩
    · have hje : j = m := by have := HJ.out; omega
      subst hje
      rw [← HN.out]
      by_cases h8 : j < 8
      · have t1 : decide ((j : Int) < a2) = false := decide_eq_false (by have := HM.out.2.2 j (Nat.le_refl _) h8; omega)
        have t2 : decide ((j : Int) < 8) = true := decide_eq_true (by omega)
        go_wp2
        go_ret
        exact ⟨rfl, by repeat (first | exact Drawn0.refl _ | apply Drawn0.step)⟩
      · have t2 : decide ((j : Int) < 8) = false := decide_eq_false (by omega)
        go_wp2
        all_goals go_ret
        all_goals exact ⟨rfl, by repeat (first | exact Drawn0.refl _ | apply Drawn0.step)⟩

end Go.Proofs.Ytmlkkdopogcggaa.Hp
