/- Parts of the proof of the statement IndexFrames, laid together (6 of 6). -/
import Derived.OpenShut
import Derived.SizedLaws
import Derived.ChangeSlices
import Derived.Test.YtaepbgieahedjaaRows
import Derived.WalkKit
import Derived.ProofKit
import Derived.ShutString
import Derived.ChangeOld
import Derived.Below
import Derived.Test.YtaepbgieahedjaaZIndexFrames4
namespace Go.Proofs.Ytaepbgieahedjaa.Hp
open Go.RowKit Go.Proofs.YtaepbgieahedjaaW.PrintWords
def ok29 (x : S29) : Prop := ((Lit.int .u64 x.f0).wf = true) ∧ ((Lit.int .u64 x.f1).wf = true) ∧ ((Lit.int .i64 x.f2).wf = true) ∧ ((Lit.int .i64 x.f3).wf = true) ∧ ((Lit.int .u64 x.f4).wf = true) ∧ (True) ∧ ((Lit.int .i64 x.f6).wf = true) ∧ (x.f7.length ≤ 9223372036854775807 ∧ ∀ x_ ∈ x.f7, (Lit.int .i64 x_).wf = true)
theorem tk29 : Tk Try.prog k29 29 ok29 :=
  Tk.imp (Tk.iso (Tk.struct Try.underlying29 (by kernel_rfl) (Tks.cons (Tk.int Try.underlying23) rfl (by kernel_rfl) (Tks.cons (Tk.int Try.underlying23) rfl (by kernel_rfl) (Tks.cons (Tk.int Try.underlying3) rfl (by kernel_rfl) (Tks.cons (Tk.int Try.underlying3) rfl (by kernel_rfl) (Tks.cons (Tk.int Try.underlying23) rfl (by kernel_rfl) (Tks.cons (Tk.bool Try.underlying4) rfl (by kernel_rfl) (Tks.cons (Tk.int Try.underlying3) rfl (by kernel_rfl) (Tks.last (Tk.slice (Tk.int Try.underlying3) Try.underlying27 (by kernel_rfl)) rfl (by kernel_rfl)))))))))) (fun x : S29 => (x.f0, x.f1, x.f2, x.f3, x.f4, x.f5, x.f6, x.f7)) (fun p => ⟨p.1, p.2.1, p.2.2.1, p.2.2.2.1, p.2.2.2.2.1, p.2.2.2.2.2.1, p.2.2.2.2.2.2.1, p.2.2.2.2.2.2.2⟩) (fun _ => rfl)) (fun x h => h)
end Go.Proofs.Ytaepbgieahedjaa.Hp
namespace Go.Proofs.Ytaepbgieahedjaa.Hp
open Go.RowKit Go.Proofs.YtaepbgieahedjaaW.PrintWords
def wagtaillaw27_IndexFrames.Pure : Prop := ∀ (l0 : List (S29)) (a1 : Int) (a2 : Int), (l0.length ≤ 9223372036854775807 ∧ ∀ x_ ∈ l0, ok29 x_) → ((Lit.int .u64 a1).wf = true) → ((Lit.int .i64 a2).wf = true) → ∃ _k : Nat, wagtaillaw27_IndexFrames.f l0 a1 a2 = some true
end Go.Proofs.Ytaepbgieahedjaa.Hp
namespace Go.Proofs.Ytaepbgieahedjaa.Pure
set_option linter.unusedVariables false
open Go.RowKit Go.Proofs.Ytaepbgieahedjaa.Hp Go.Proofs.YtaepbgieahedjaaW.PrintWords Go.Proofs.YtaepbgieahedjaaW.PrintLast
theorem IndexFrames : wagtaillaw27_IndexFrames.Pure := by
  intro l n size hl
  intros
  exact ⟨0, if_pos (fun x hx => (hl.2 x hx).2.2.2.2.2.2.2.1)⟩
end Go.Proofs.Ytaepbgieahedjaa.Pure
namespace Go.Proofs.YtaepbgieahedjaaW.PrintWords
open Go.ChangeShapes Go.WideShapes
end Go.Proofs.YtaepbgieahedjaaW.PrintWords
namespace Go.Proofs.Ytaepbgieahedjaa.indexFrames
open Go.ChangeShapes Go.WideShapes Go.ChangeAt Go.RowKit Go.Proofs.YtaepbgieahedjaaW.PrintWords Go.Proofs.Ytaepbgieahedjaa.Hp
open Go.ChangeMaps (open_string shut_string)
set_option linter.unusedVariables false
set_option linter.unusedSimpArgs false
theorem own : ownKnob Try.prog.godebug = none := by kernel_rfl
theorem laidOut : laidOutB Try.prog = true := by kernel_rfl
set_option maxRecDepth 100000 in
theorem lifted (os : Os) (started : os.Started) (H : Type) (enc : TypeId × Value → H) :
    ReturnsInHanded {} Try.checked os 3 .any (Rows.indexFramesSpec.pre6 enc Try.prog Try.f3 Rows.indexFramesRow.domain false) (Rows.indexFramesSpec.post enc Try.prog Try.f3 false true false false) := by
  refine returnsInHanded_of_change_sized (C := Try.checked) own started (by kernel_rfl) Try.func3
    (ChangeSpec.witness6 (enc := enc) (C := Try.checked) false ⟨#[], #[.slice none 0 0, .int .u64 0, .int .i64 0], []⟩ 8 (by kernel_rfl) (by kernel_rfl) (by kernel_rfl) (by kernel_rfl)) ?_
  intro W base args ds gs before hval0 hW hcnd hsz0 _
  have hsz : (DataW.weightsEach Try.prog (Try.f3.params.toList ++ Rows.indexFramesSpec.plain.varTypes Try.prog) (ds ++ gs)).all (· ≤ reachBytes) = true := hsz0
  have hval : ∀ (j : Nat) t v, Try.f3.params[j]? = some t → args[j]? = some v → Value.okWide Try.prog W .any base t v := hval0
  have hW' := hW
  obtain ⟨p, q, hA0, hV, rfl, hfz, hnd⟩ := hW
  have hA : DataW.TrodAll enc Try.prog W 0 (fun _ => true) true Try.f3.params.toList args.toList ds p := hA0
  rw [Try.params3] at hA hval hsz
  obtain ⟨v0, vs0, d0, ds0, p0, q0, hargs, rfl, rfl, h0, r0⟩ := trodAll_cons hA
  obtain ⟨v1, vs1, d1, ds1, p1, q1, rfl, rfl, rfl, h1, r1⟩ := trodAll_cons r0
  obtain ⟨v2, vs2, d2, ds2, p2, q2, rfl, rfl, rfl, h2, r2⟩ := trodAll_cons r1
  obtain ⟨rfl, rfl, rfl⟩ := trodAll_nil r2
  obtain rfl : args = #[v0, v1, v2] := by cases args; simp_all
  obtain ⟨rfl, rfl⟩ := trodVars_none hV
  have k0 := h0
  have lt0 : ∀ x ∈ p0, x.block < W.heap.size := by obtain ⟨m, hm⟩ := k0; exact DataW.trod_lt m _ _ _ hm
  obtain ⟨a0, len0, cap0, rfl⟩ := okWide_slice Try.underlying22 (hval 0 22 v0 rfl rfl)
  obtain ⟨l0, ⟨A0, c0, e0, hc0, hr0⟩, g0⟩ := (show ∃ y, (Kd.slice 29 k29).K W y [.slice a0 len0 cap0] ∧ (y.length ≤ 9223372036854775807 ∧ ∀ x_ ∈ y, ok29 x_) from by obtain ⟨fuel, hf⟩ := h0; exact ((Tk.slice tk29 Try.underlying22 (by kernel_rfl))).go hf)
  injection e0 with e0
  injection e0 with ea0 el0 ec0
  subst ea0 el0 ec0
  have k1 := h1
  have lt1 : ∀ x ∈ p1, x.block < W.heap.size := by obtain ⟨m, hm⟩ := k1; exact DataW.trod_lt m _ _ _ hm
  obtain ⟨a1, rfl, _, _, g1⟩ := open_int Try.underlying23 (hval 1 23 v1 rfl rfl) h1
  have k2 := h2
  have lt2 : ∀ x ∈ p2, x.block < W.heap.size := by obtain ⟨m, hm⟩ := k2; exact DataW.trod_lt m _ _ _ hm
  obtain ⟨a2, rfl, _, _, g2⟩ := open_int Try.underlying3 (hval 2 3 v2 rfl rfl) h2
  clear hA0 hval0 hsz0 hsz
  obtain ⟨kk, hk⟩ := Pure.IndexFrames l0 a1 a2 g0 g1 g2
  refine (wagtaillaw27_IndexFrames.calls a0 cap0 l0 a1 a2 true W hr0 hc0 hk).mono fun e W' ⟨he, bel0⟩ => ?_
  have bel : Below W.heap.size W W' := bel0
  subst he
  exact ⟨_, rfl, _, _, _, [], _, [], hW', trodAll_mk1 (shut_bool Try.underlying4 _), (trodAll_cons_mk (Below.trod laidOut (by kernel_rfl) (of_decide_eq_true (by kernel_rfl)) k0 bel lt0) (trodAll_cons_mk (Below.trod laidOut (by kernel_rfl) (of_decide_eq_true (by kernel_rfl)) k1 bel lt1) (trodAll_cons_mk (Below.trod laidOut (by kernel_rfl) (of_decide_eq_true (by kernel_rfl)) k2 bel lt2) trodAll_mk0))), rfl, bel.frame _, fun h => by cases h⟩
theorem over : Rows.indexFramesRow.holds Try.pinned (OpenSpec.ofChange Rows.indexFramesSpec) :=
  OpenClaim.holds_of_wide 3 Try.f3 rfl rfl rfl rfl rfl rfl rfl ⟨rfl, rfl, rfl, rfl, rfl⟩ rfl rfl rfl rfl rfl (by kernel_rfl) Try.func3 (by kernel_rfl)
    (of_decide_eq_true (by kernel_rfl)) (by unfold Func.isWrapper; first | (rw [if_pos (by decide +kernel)]; kernel_rfl) | (rw [if_neg (by decide +kernel)]; exact ⟨rfl, rfl⟩))
    (fun os started H enc _ => lifted os started H enc)
theorem proved : Rows.IndexFramesSaid := over
#print axioms proved
end Go.Proofs.Ytaepbgieahedjaa.indexFrames
namespace Go.Proofs.Ytaepbgieahedjaa
theorem indexFrames_holds : Rows.IndexFramesSaid := indexFrames.proved
end Go.Proofs.Ytaepbgieahedjaa
