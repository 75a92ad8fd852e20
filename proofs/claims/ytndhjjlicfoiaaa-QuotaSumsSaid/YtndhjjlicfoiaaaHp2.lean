-- Laid by this workplace's own program hprint.py (functions marked by hand are ours; the others are printed out of the translation). Not trusted: Lean checks it.
import Derived.Test.YtndhjjlicfoiaaaHp0
import Derived.Test.YtndhjjlicfoiaaaQU
namespace Go.Proofs.Ytndhjjlicfoiaaa.Hp
open Go.RowKit Go.Proofs.YtndhjjlicfoiaaaW.PrintWords Go.Proofs.YtndhjjlicfoiaaaW.PrintLast Go.Proofs.YtndhjjlicfoiaaaW.PrintMore
attribute [local go_sem] max2_int min2_int max_two min_two max_three min_three max_four min_four   -- for this text's walks alone
set_option linter.unusedVariables false
set_option linter.unusedSimpArgs false

/-! ### quota_Sum: function 10 -/
-- a function whose text and proof are by hand
-- IMPORT QU
def quota_Sum.f (l : List S38) : Option Int := if l.length ≤ 1000 ∧ (∀ x ∈ l, -9223372036854775808 ≤ x.f3 ∧ x.f3 ≤ 100000) then some (QU.useOf l 0 + QU.useOf l 1 + QU.useOf l 2) else none
set_option maxHeartbeats 8000000 in
set_option maxRecDepth 100000 in
theorem quota_Sum.calls (A0 : Option Addr) (c0 : Nat) (l0 : List (S38)) (r : Int) (w : World) (hr0 : Kd.C k38 w A0 l0.length l0) (hc0 : l0.length ≤ c0) (h : quota_Sum.f l0 = some r) :
    Calls Try.prog 10 #[.slice A0 l0.length c0] w fun e w' => e = .returned (.int .i64 r) ∧ Below w.heap.size w w' := by
  unfold quota_Sum.f at h
  by_cases hc : l0.length ≤ 1000 ∧ (∀ x ∈ l0, -9223372036854775808 ≤ x.f3 ∧ x.f3 ≤ 100000)
  case neg => rw [if_neg hc] at h; cases h
  rw [if_pos hc] at h
  obtain rfl := Option.some.inj h
  have r0 := QU.useOf_range l0 0 (fun x hx => (hc.2 x hx).2)
  have r1 := QU.useOf_range l0 1 (fun x hx => (hc.2 x hx).2)
  have r2 := QU.useOf_range l0 2 (fun x hx => (hc.2 x hx).2)
  have HU := Aside0.mk (QU.used_calls l0 hc A0 c0 hc0 w hr0)
  have hw1 : IntKind.i64.wrap (QU.useOf l0 0 + QU.useOf l0 1) = QU.useOf l0 0 + QU.useOf l0 1 := by rw [i64_w]; unfold wrap64; omega
  have hw2 : IntKind.i64.wrap (QU.useOf l0 0 + QU.useOf l0 1 + QU.useOf l0 2) = QU.useOf l0 0 + QU.useOf l0 1 + QU.useOf l0 2 := by rw [i64_w]; unfold wrap64; omega
  generalize QU.useOf l0 0 = u0 at *
  generalize QU.useOf l0 1 = u1 at *
  generalize QU.useOf l0 2 = u2 at *
  clear hc h r0 r1 r2 hr0 hc0
  go_enter Try.func10, Try.ntmps10
  go_wp2_with (go_at_call 8; refine HU.out.mono ?_; rintro e w2 ⟨rfl, hb⟩; have HB := Aside0.mk hb; clear hb)
  go_ret
  exact ⟨by first | rfl | (rw [← i64_w, ← i64_w, hw1, hw2]) | (simp [hw1, hw2]), by first | exact HB.out | (repeat (first | exact HB.out | apply below_alloc | apply pw_below_drewN | apply below_drew1))⟩

end Go.Proofs.Ytndhjjlicfoiaaa.Hp
