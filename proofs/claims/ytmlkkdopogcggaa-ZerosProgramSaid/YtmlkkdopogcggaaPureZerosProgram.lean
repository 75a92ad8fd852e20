/- 'ZerosProgram': whatever is programmed of any bytes on any others by any mask is the document's. -/
import Derived.Test.YtmlkkdopogcggaaPZ
namespace Go.Proofs.Ytmlkkdopogcggaa.Pure
set_option linter.unusedVariables false
open Go.RowKit Go.Proofs.Ytmlkkdopogcggaa.Hp Go.Proofs.YtmlkkdopogcggaaW.PrintWords Go.Proofs.YtmlkkdopogcggaaW.PrintLast

theorem ZerosProgram : wagtaillaw02_ZerosProgram.Pure := by
  intro l0 l1 l2 ⟨_, g0⟩ ⟨_, g1⟩ ⟨_, g2⟩
  have b0 := bytes_of_wf g0
  have b1 := bytes_of_wf g1
  have b2 := bytes_of_wf g2
  refine Ev.rounds (g := fun k => wagtaillaw02_ZerosProgram.f k l0 l1 l2) ?_
  unfold wagtaillaw02_ZerosProgram.f
  refine Ev.bind (few_ev [l0, l1, l2] (by simp)) ?_
  by_cases hf : fewB [l0, l1, l2] = true
  · refine Ev.pos hf (Ev.bind zeros_awake_ev (Ev.pos rfl ?_))
    simp only [fewB, List.all_cons, List.all_nil, Bool.and_true, Bool.and_eq_true, decide_eq_true_eq] at hf
    have e : zeros_Program.f l0 l1 l2 = some (progRow l0 l1 l2) := by
      unfold zeros_Program.f
      rw [if_pos ⟨b0, b1, b2, by omega⟩]
    rw [e]
    simp only [Option.bind_some]
    refine Ev.bind (rprog_ev l0 l1 l2 b0 b1 b2 (by omega) (by omega) (by omega)) ?_
    simp only [beq_self_eq_true]
    exact Ev.now _
  · exact Ev.neg hf (Ev.bind zeros_awake_ev (Ev.now _))
end Go.Proofs.Ytmlkkdopogcggaa.Pure
