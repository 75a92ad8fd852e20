import Derived.Test.YtnopjcakilfepaaRows
import Derived.Test.YtnopjcakilfepaaHpQQueueAhead
import Derived.Test.YtnopjcakilfepaaPureQueueAhead
import Derived.WalkKit
import Derived.ProofKit
import Derived.OpenShut
import Derived.ShutString
import Derived.ChangeOld
import Derived.Below
import Derived.SizedLaws
import Derived.Test.YtnopjcakilfepaaWSized
namespace Go.Proofs.Ytnopjcakilfepaa.queueAhead
open Go.ChangeShapes Go.WideShapes Go.ChangeAt Go.RowKit Go.Proofs.YtnopjcakilfepaaW.PrintWords Go.Proofs.Ytnopjcakilfepaa.Hp
open Go.ChangeMaps (open_string shut_string)
set_option linter.unusedVariables false
set_option linter.unusedSimpArgs false
theorem own : ownKnob Try.prog.godebug = none := by kernel_rfl
theorem laidOut : laidOutB Try.prog = true := by kernel_rfl
set_option maxRecDepth 100000 in
theorem lifted (os : Os) (started : os.Started) (H : Type) (enc : TypeId × Value → H) :
    ReturnsInHanded {} Try.checked os 5 .any (Rows.queueAheadSpec.pre6 enc Try.prog Try.f5 Rows.queueAheadRow.domain false) (Rows.queueAheadSpec.post enc Try.prog Try.f5 false true false false) := by
  refine returnsInHanded_of_change_sized (C := Try.checked) own started (by kernel_rfl) Try.func5
    (ChangeSpec.witness6 (enc := enc) (C := Try.checked) false ⟨#[], #[.slice none 0 0, .agg #[.int .u64 0, .int .u64 0, .int .i64 0, .int .i64 0, .int .u64 0, .bool false, .int .i64 0, .slice none 0 0], .agg #[.int .u64 0, .int .u64 0, .int .i64 0, .int .i64 0, .int .u64 0, .bool false, .int .i64 0, .slice none 0 0]], []⟩ 8 (by kernel_rfl) (by kernel_rfl) (by kernel_rfl) (by kernel_rfl)) ?_
  intro W base args ds gs before hval0 hW hcnd hsz0 _
  have hsz : (DataW.weightsEach Try.prog (Try.f5.params.toList ++ Rows.queueAheadSpec.plain.varTypes Try.prog) (ds ++ gs)).all (· ≤ reachBytes) = true := hsz0
  have hval : ∀ (j : Nat) t v, Try.f5.params[j]? = some t → args[j]? = some v → Value.okWide Try.prog W .any base t v := hval0
  have hW' := hW
  obtain ⟨p, q, hA0, hV, rfl, hfz, hnd⟩ := hW
  have hA : DataW.TrodAll enc Try.prog W 0 (fun _ => true) true Try.f5.params.toList args.toList ds p := hA0
  rw [Try.params5] at hA hval hsz
  obtain ⟨v0, vs0, d0, ds0, p0, q0, hargs, rfl, rfl, h0, r0⟩ := trodAll_cons hA
  obtain ⟨v1, vs1, d1, ds1, p1, q1, rfl, rfl, rfl, h1, r1⟩ := trodAll_cons r0
  obtain ⟨v2, vs2, d2, ds2, p2, q2, rfl, rfl, rfl, h2, r2⟩ := trodAll_cons r1
  obtain ⟨rfl, rfl, rfl⟩ := trodAll_nil r2
  obtain rfl : args = #[v0, v1, v2] := by cases args; simp_all
  obtain ⟨rfl, rfl⟩ := trodVars_none hV
  have k0 := h0
  have lt0 : ∀ x ∈ p0, x.block < W.heap.size := by obtain ⟨m, hm⟩ := k0; exact DataW.trod_lt m _ _ _ hm
  obtain ⟨a0, len0, cap0, rfl⟩ := okWide_slice Try.underlying22 (hval 0 22 v0 rfl rfl)
  obtain ⟨l0, ⟨A0, c0, e0, hc0, hr0⟩, g0⟩ := (show ∃ y, (Kd.slice 29 k29).K W y [.slice a0 len0 cap0] ∧ (y.length ≤ 9223372036854775807 ∧ ∀ x_ ∈ y, ok29 x_) from by obtain ⟨fuel, hf⟩ := h0; exact ((Tk.slice tk29 Try.underlying22 (by kernel_rfl))).go hf)
  injection e0 with e0
  injection e0 with ea0 el0 ec0
  subst ea0 el0 ec0
  have k1 := h1
  have lt1 : ∀ x ∈ p1, x.block < W.heap.size := by obtain ⟨m, hm⟩ := k1; exact DataW.trod_lt m _ _ _ hm
  obtain ⟨cs1, rfl, _⟩ := okWide_struct Try.underlying29 (hval 1 29 v1 rfl rfl)
  obtain ⟨x1, z1, g1⟩ := (show ∃ y, k29.K W y cs1.toList ∧ ok29 y from by obtain ⟨fuel, hf⟩ := h1; exact tk29.go hf)
  obtain ⟨A7_1, c7_1, e1, y1_0, y1_1⟩ := k29_open z1
  obtain rfl : cs1 = #[.int .u64 x1.f0, .int .u64 x1.f1, .int .i64 x1.f2, .int .i64 x1.f3, .int .u64 x1.f4, .bool x1.f5, .int .i64 x1.f6, .slice A7_1 x1.f7.length c7_1] := by cases cs1; simpa using e1
  have k2 := h2
  have lt2 : ∀ x ∈ p2, x.block < W.heap.size := by obtain ⟨m, hm⟩ := k2; exact DataW.trod_lt m _ _ _ hm
  obtain ⟨cs2, rfl, _⟩ := okWide_struct Try.underlying29 (hval 2 29 v2 rfl rfl)
  obtain ⟨x2, z2, g2⟩ := (show ∃ y, k29.K W y cs2.toList ∧ ok29 y from by obtain ⟨fuel, hf⟩ := h2; exact tk29.go hf)
  obtain ⟨A7_2, c7_2, e2, y2_0, y2_1⟩ := k29_open z2
  obtain rfl : cs2 = #[.int .u64 x2.f0, .int .u64 x2.f1, .int .i64 x2.f2, .int .i64 x2.f3, .int .u64 x2.f4, .bool x2.f5, .int .i64 x2.f6, .slice A7_2 x2.f7.length c7_2] := by cases cs2; simpa using e2
  clear hA0 hval0 hsz0 hsz
  obtain ⟨kk, hk⟩ := Pure.QueueAhead l0 x1 x2 g0 g1 g2
  refine (wagtaillaw30_QueueAhead.calls a0 cap0 l0 x1.f0 x1.f1 x1.f2 x1.f3 x1.f4 x1.f5 x1.f6 A7_1 c7_1 x1.f7 x2.f0 x2.f1 x2.f2 x2.f3 x2.f4 x2.f5 x2.f6 A7_2 c7_2 x2.f7 true W hr0 hc0 y1_1 y1_0 y2_1 y2_0 hk).mono fun e W' ⟨he, bel0⟩ => ?_
  have bel : Below W.heap.size W W' := bel0
  subst he
  exact ⟨_, rfl, _, _, _, [], _, [], hW', trodAll_mk1 (shut_bool Try.underlying4 _), (trodAll_cons_mk (Below.trod laidOut (by kernel_rfl) (of_decide_eq_true (by kernel_rfl)) k0 bel lt0) (trodAll_cons_mk (Below.trod laidOut (by kernel_rfl) (of_decide_eq_true (by kernel_rfl)) k1 bel lt1) (trodAll_cons_mk (Below.trod laidOut (by kernel_rfl) (of_decide_eq_true (by kernel_rfl)) k2 bel lt2) trodAll_mk0))), rfl, bel.frame _, fun h => by cases h⟩
theorem over : Rows.queueAheadRow.holds Try.pinned (OpenSpec.ofChange Rows.queueAheadSpec) :=
  OpenClaim.holds_of_wide 5 Try.f5 rfl rfl rfl rfl rfl rfl rfl ⟨rfl, rfl, rfl, rfl, rfl⟩ rfl rfl rfl rfl rfl (by kernel_rfl) Try.func5 (by kernel_rfl)
    (of_decide_eq_true (by kernel_rfl)) (by unfold Func.isWrapper; first | (rw [if_pos (by decide +kernel)]; kernel_rfl) | (rw [if_neg (by decide +kernel)]; exact ⟨rfl, rfl⟩))
    (fun os started H enc _ => lifted os started H enc)
theorem proved : Rows.QueueAheadSaid := over
#print axioms proved
end Go.Proofs.Ytnopjcakilfepaa.queueAhead
namespace Go.Proofs.Ytnopjcakilfepaa
theorem queueAhead_holds : Rows.QueueAheadSaid := queueAhead.proved
end Go.Proofs.Ytnopjcakilfepaa
