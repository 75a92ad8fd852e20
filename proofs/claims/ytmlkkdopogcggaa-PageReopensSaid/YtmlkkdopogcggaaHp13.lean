-- Laid by this workplace's own program hprint.py (functions marked by hand are ours; the others are printed out of the translation). Not trusted: Lean checks it.
import Derived.Test.YtmlkkdopogcggaaHp0
namespace Go.Proofs.Ytmlkkdopogcggaa.Hp
open Go.RowKit Go.Proofs.YtmlkkdopogcggaaW.PrintWords Go.Proofs.YtmlkkdopogcggaaW.PrintLast Go.Proofs.YtmlkkdopogcggaaW.PrintMore
attribute [local go_sem] max2_int min2_int max_two min_two max_three min_three max_four min_four   -- for this text's walks alone
set_option linter.unusedVariables false
set_option linter.unusedSimpArgs false

/-! ### zeros_count: function 55 -/
-- a function whose text and proof are by hand
def zeros_count.f (a : Int) : Option Int := if 0 ≤ a ∧ a ≤ 255 then some (zbits a) else none
set_option maxHeartbeats 8000000 in
set_option maxRecDepth 100000 in
theorem zeros_count.calls (a0 : Int) (r : Int) (w : World) (h : zeros_count.f a0 = some r) :
    Calls Try.prog 55 #[.int .u8 a0] w fun e w' => e = .returned (.int .i64 r) ∧ Drawn0 w w' := by
  unfold zeros_count.f at h
  by_cases hr : 0 ≤ a0 ∧ a0 ≤ 255
  · rw [if_pos hr] at h
    obtain rfl := Option.some.inj h
    obtain ⟨h0, h1⟩ := hr
    clear h
    go_enter Try.func55, Try.ntmps55
    go_wp2
    go_loopg [3, 5] 9 (fun kq n i w' => ∃ k : Nat, i = .int .i64 k ∧ n = .int .i64 (zpre a0 k) ∧ Aside0 (k ≤ 8) ∧ Aside0 (kq + k = 9) ∧ Drawn0 w w')
    case atStart => exact ⟨0, rfl, rfl, ⟨by omega⟩, ⟨rfl⟩, Drawn0.refl _⟩
    case round =>
      obtain ⟨k, rfl, rfl, HK, HQ, ⟨m, rfl⟩⟩ := hrel
      by_cases hk : k < 8
      · have hb : decide ((k : Int) < 8) = true := by simp; omega
        have HS := Aside0.mk (zstep a0 h0 h1 k hk)
        go_wp2
        go_roundg (gk - 1)
        case measure => have := HQ.out; omega
        case rel => exact ⟨k + 1, by simp, by rw [HS.out], ⟨by omega⟩, ⟨by have := HQ.out; omega⟩, by repeat (first | exact Drawn0.refl _ | apply Drawn0.step)⟩
      · have hk8 : k = 8 := by have := HK.out; omega
        subst hk8
        rw [zpre_8]
        go_wp2
        go_ret
        exact ⟨rfl, by repeat (first | exact Drawn0.refl _ | apply Drawn0.step)⟩
  · rw [if_neg hr] at h
    cases h

end Go.Proofs.Ytmlkkdopogcggaa.Hp
