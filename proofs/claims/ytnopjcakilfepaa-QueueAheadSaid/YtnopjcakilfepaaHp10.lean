import Derived.Test.YtnopjcakilfepaaHp0
import Derived.Test.YtnopjcakilfepaaC10
namespace Go.Proofs.Ytnopjcakilfepaa.Hp
open Go.RowKit Go.Proofs.YtnopjcakilfepaaW.PrintWords Go.Proofs.YtnopjcakilfepaaW.PrintLast Go.Proofs.YtnopjcakilfepaaW.PrintMore
attribute [local go_sem] max2_int min2_int max_two min_two max_three min_three max_four min_four   -- for this text's walks alone
set_option linter.unusedVariables false
set_option linter.unusedSimpArgs false
def wagtaillaw30_QueueAhead.f (l : List S29) (a0 a1 a2 a3 a4 : Int) (a5 : Bool) (a6 : Int) (a7 : List Int) (b0 b1 b2 b3 b4 : Int) (b5 : Bool) (b6 : Int) (b7 : List Int) : Option Bool := if l.length ≤ 9223372036854775807 then some true else none
set_option maxHeartbeats 8000000 in
set_option maxRecDepth 100000 in
theorem wagtaillaw30_QueueAhead.calls (A0 : Option Addr) (c0 : Nat) (l0 : List (S29)) (a1_0 : Int) (a1_1 : Int) (a1_2 : Int) (a1_3 : Int) (a1_4 : Int) (a1_5 : Bool) (a1_6 : Int) (A1_7 : Option Addr) (c1_7 : Nat) (l1_7 : List Int) (a2_0 : Int) (a2_1 : Int) (a2_2 : Int) (a2_3 : Int) (a2_4 : Int) (a2_5 : Bool) (a2_6 : Int) (A2_7 : Option Addr) (c2_7 : Nat) (l2_7 : List Int) (r : Bool) (w : World) (hr0 : Kd.C k29 w A0 l0.length l0) (hc0 : l0.length ≤ c0) (hr1_7 : Kd.C (Kd.int .i64) w A1_7 l1_7.length l1_7) (hc1_7 : l1_7.length ≤ c1_7) (hr2_7 : Kd.C (Kd.int .i64) w A2_7 l2_7.length l2_7) (hc2_7 : l2_7.length ≤ c2_7) (h : wagtaillaw30_QueueAhead.f l0 a1_0 a1_1 a1_2 a1_3 a1_4 a1_5 a1_6 l1_7 a2_0 a2_1 a2_2 a2_3 a2_4 a2_5 a2_6 l2_7 = some r) :
    Calls Try.prog 5 #[.slice A0 l0.length c0, .agg #[.int .u64 a1_0, .int .u64 a1_1, .int .i64 a1_2, .int .i64 a1_3, .int .u64 a1_4, .bool a1_5, .int .i64 a1_6, .slice A1_7 l1_7.length c1_7], .agg #[.int .u64 a2_0, .int .u64 a2_1, .int .i64 a2_2, .int .i64 a2_3, .int .u64 a2_4, .bool a2_5, .int .i64 a2_6, .slice A2_7 l2_7.length c2_7]] w fun e w' => e = .returned (.bool r) ∧ Below w.heap.size w w' := by
  unfold wagtaillaw30_QueueAhead.f at h
  by_cases hc : l0.length ≤ 9223372036854775807
  case neg => rw [if_neg hc] at h; cases h
  rw [if_pos hc] at h
  obtain rfl := Option.some.inj h
  exact QS.ahead_law l0 ⟨a1_0, a1_1, a1_2, a1_3, a1_4, a1_5, a1_6, l1_7⟩ ⟨a2_0, a2_1, a2_2, a2_3, a2_4, a2_5, a2_6, l2_7⟩ A1_7 c1_7 A2_7 c2_7 A0 c0 hc0 hc w hr0 ⟨hc1_7, hr1_7⟩ ⟨hc2_7, hr2_7⟩
end Go.Proofs.Ytnopjcakilfepaa.Hp
