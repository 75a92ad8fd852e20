/- The row of the law PageReopens, out of its pure statement and the walk. Laid by program (hprint.py). -/
import Derived.Test.YtmlkkdopogcggaaRows
import Derived.Test.YtmlkkdopogcggaaHpQPageReopens
import Derived.Test.YtmlkkdopogcggaaPurePageReopens
import Derived.WalkKit
import Derived.ProofKit
import Derived.OpenShut
import Derived.ShutString
import Derived.ChangeOld
import Derived.Below
import Derived.SizedLaws
import Derived.Test.YtmlkkdopogcggaaWSized
namespace Go.Proofs.Ytmlkkdopogcggaa.pageReopens
open Go.ChangeShapes Go.WideShapes Go.ChangeAt Go.RowKit Go.Proofs.YtmlkkdopogcggaaW.PrintWords Go.Proofs.Ytmlkkdopogcggaa.Hp
open Go.ChangeMaps (open_string shut_string)
set_option linter.unusedVariables false
set_option linter.unusedSimpArgs false
theorem own : ownKnob Try.prog.godebug = none := by kernel_rfl
theorem laidOut : laidOutB Try.prog = true := by kernel_rfl
set_option maxRecDepth 100000 in
theorem lifted (os : Os) (started : os.Started) (H : Type) (enc : TypeId × Value → H) :
    ReturnsInHanded {} Try.checked os 12 .any (Rows.pageReopensSpec.pre6 enc Try.prog Try.f12 Rows.pageReopensRow.domain false) (Rows.pageReopensSpec.post enc Try.prog Try.f12 false true false false) := by
  refine returnsInHanded_of_change_sized (C := Try.checked) own started (by kernel_rfl) Try.func12
    (ChangeSpec.witness6 (enc := enc) (C := Try.checked) false ⟨#[], #[.agg #[.int .i64 0, .int .i64 0, .int .i64 0, .int .u64 0, .int .u64 0, .int .i64 0, .int .i64 0, .string ByteArray.empty, .int .u64 0, .slice none 0 0]], []⟩ 8 (by kernel_rfl) (by kernel_rfl) (by kernel_rfl) (by kernel_rfl)) ?_
  intro W base args ds gs before hval0 hW hcnd hsz0 _
  have hsz : (DataW.weightsEach Try.prog (Try.f12.params.toList ++ Rows.pageReopensSpec.plain.varTypes Try.prog) (ds ++ gs)).all (· ≤ reachBytes) = true := hsz0
  have hval : ∀ (j : Nat) t v, Try.f12.params[j]? = some t → args[j]? = some v → Value.okWide Try.prog W .any base t v := hval0
  have hW' := hW
  obtain ⟨p, q, hA0, hV, rfl, hfz, hnd⟩ := hW
  have hA : DataW.TrodAll enc Try.prog W 0 (fun _ => true) true Try.f12.params.toList args.toList ds p := hA0
  rw [Try.params12] at hA hval hsz
  obtain ⟨v0, vs0, d0, ds0, p0, q0, hargs, rfl, rfl, h0, r0⟩ := trodAll_cons hA
  obtain ⟨rfl, rfl, rfl⟩ := trodAll_nil r0
  obtain rfl : args = #[v0] := by cases args; simp_all
  obtain ⟨rfl, rfl⟩ := trodVars_none hV
  have k0 := h0
  have lt0 : ∀ x ∈ p0, x.block < W.heap.size := by obtain ⟨m, hm⟩ := k0; exact DataW.trod_lt m _ _ _ hm
  obtain ⟨cs0, rfl, _⟩ := okWide_struct Try.underlying65 (hval 0 65 v0 rfl rfl)
  obtain ⟨x0, z0, g0⟩ := (show ∃ y, k65.K W y cs0.toList ∧ ok65 y from by obtain ⟨fuel, hf⟩ := h0; exact tk65.go hf)
  obtain ⟨A9_0, c9_0, e0, y0_0, y0_1⟩ := k65_open z0
  obtain rfl : cs0 = #[.int .i64 x0.f0.f0, .int .i64 x0.f0.f1, .int .i64 x0.f0.f2, .int .u64 x0.f0.f3, .int .u64 x0.f0.f4, .int .i64 x0.f0.f5, .int .i64 x0.f0.f6, .string x0.f1, .int .u64 x0.f2, .slice A9_0 x0.f3.length c9_0] := by cases cs0; simpa using e0
  clear hA0 hval0 hsz0 hsz
  obtain ⟨kk, hk⟩ := Pure.PageReopens x0 g0
  refine (wagtaillaw15_PageReopens.calls x0.f0.f0 x0.f0.f1 x0.f0.f2 x0.f0.f3 x0.f0.f4 x0.f0.f5 x0.f0.f6 x0.f1 x0.f2 A9_0 c9_0 x0.f3 true W y0_1 y0_0 hk).mono fun e W' ⟨he, bel0⟩ => ?_
  have bel : Below W.heap.size W W' := bel0
  subst he
  exact ⟨_, rfl, _, _, _, [], _, [], hW', trodAll_mk1 (shut_bool Try.underlying4 _), (trodAll_cons_mk (Below.trod laidOut (by kernel_rfl) (of_decide_eq_true (by kernel_rfl)) k0 bel lt0) trodAll_mk0), rfl, bel.frame _, fun h => by cases h⟩
theorem over : Rows.pageReopensRow.holds Try.pinned (OpenSpec.ofChange Rows.pageReopensSpec) :=
  OpenClaim.holds_of_wide 12 Try.f12 rfl rfl rfl rfl rfl rfl rfl ⟨rfl, rfl, rfl, rfl, rfl⟩ rfl rfl rfl rfl rfl (by kernel_rfl) Try.func12 (by kernel_rfl)
    (of_decide_eq_true (by kernel_rfl)) (by unfold Func.isWrapper; first | (rw [if_pos (by decide +kernel)]; kernel_rfl) | (rw [if_neg (by decide +kernel)]; exact ⟨rfl, rfl⟩))
    (fun os started H enc _ => lifted os started H enc)
theorem proved : Rows.PageReopensSaid := over
#print axioms proved
end Go.Proofs.Ytmlkkdopogcggaa.pageReopens
namespace Go.Proofs.Ytmlkkdopogcggaa
/-- The row, under a short name, for the claim. -/
theorem pageReopens_holds : Rows.PageReopensSaid := pageReopens.proved
end Go.Proofs.Ytmlkkdopogcggaa
