/- 'ZerosOneWay': whatever is programmed of bytes on blank ones covers them; what is erased covers what was; what covers others, with as many 0, is them. -/
import Derived.Test.YtmlkkdopogcggaaPZ2
namespace Go.Proofs.Ytmlkkdopogcggaa.Pure
set_option linter.unusedVariables false
open Go.RowKit Go.Proofs.Ytmlkkdopogcggaa.Hp Go.Proofs.YtmlkkdopogcggaaW.PrintWords Go.Proofs.YtmlkkdopogcggaaW.PrintLast

theorem ZerosOneWay : wagtaillaw02_ZerosOneWay.Pure := by
  intro l0 l1 l2 ⟨_, g0⟩ ⟨_, g1⟩ ⟨_, g2⟩
  have b0 := bytes_of_wf g0
  have b1 := bytes_of_wf g1
  have b2 := bytes_of_wf g2
  refine Ev.rounds (g := fun k => wagtaillaw02_ZerosOneWay.f k l0 l1 l2) ?_
  unfold wagtaillaw02_ZerosOneWay.f
  refine Ev.bind (few_ev [l0, l1, l2] (by simp)) ?_
  by_cases hf : fewB [l0, l1, l2] = true
  · refine Ev.pos hf ?_
    simp only [fewB, List.all_cons, List.all_nil, Bool.and_true, Bool.and_eq_true, decide_eq_true_eq] at hf
    refine Ev.bind (ones_ev l0.length (by omega)) ?_
    have hones : isBytes (List.replicate l0.length (255 : Int)) := fun x hx => by rw [List.mem_replicate] at hx; omega
    have e1 : zeros_Program.f (List.replicate l0.length 255) l0 l2 = some (progRow (List.replicate l0.length 255) l0 l2) := by
      unfold zeros_Program.f
      rw [if_pos ⟨hones, b0, b2, by rw [List.length_replicate]; omega⟩]
    have e2 : zeros_Erase.f l0 l2 = some (wipeRow l0 l2) := by
      unfold zeros_Erase.f
      rw [if_pos ⟨b0, b2, by omega⟩]
    have cp := prog_covers l0 l2 b0 b2
    have ce := wipe_covers l0 l2 b0 b2
    have bp := progRow_bytes (List.replicate l0.length 255) l0 l2 hones
    have be := wipeRow_bytes l0 l2 b0 b2
    have lp : (progRow (List.replicate l0.length 255) l0 l2).length = l0.length := cp.1
    have le : (wipeRow l0 l2).length = l0.length := ce.1
    have sp := cover_sum _ _ bp b0 cp
    have se := cover_sum _ _ be b0 ce
    rw [e1]
    simp only [Option.bind_some]
    rw [e2]
    simp only [Option.bind_some]
    generalize progRow (List.replicate l0.length 255) l0 l2 = p at *
    generalize wipeRow l0 l2 = e at *
    refine Ev.bind (pcovers_ev p l0 bp b0 (by omega)) (Ev.pos (decide_eq_true cp) (Ev.bind (pcovers_ev e l0 be b0 (by omega)) (Ev.pos (decide_eq_true ce) ?_)))
    refine Ev.bind (pcovers_ev l0 l1 b0 b1 (by omega)) (Ev.bind (rcovers_ev l0 l1 b0 b1 (by omega)) (Ev.neg (by simp) ?_))
    refine Ev.bind zeros_awake_ev (Ev.pos rfl ?_)
    refine Ev.bind (refcount_ev p bp (by omega)) (Ev.bind (refcount_ev l0 b0 (by omega)) ?_)
    have hfin : Ev (fun k => (wagtailref02_Count.f k e).bind fun t305 => if t305 < zsum l0 then some true else some ((strOfNums e).toList == (strOfNums l0).toList)) true := by
      refine Ev.bind (refcount_ev e be (by omega)) ?_
      by_cases h : zsum e < zsum l0
      · exact Ev.pos h (Ev.now _)
      · refine Ev.neg h ?_
        rw [se.2 (by omega), beq_self_eq_true]
        exact Ev.now _
    by_cases h : zsum p < zsum l0
    · exact Ev.pos h hfin
    · refine Ev.neg h (Ev.pos ?_ hfin)
      rw [sp.2 (by omega)]
  · exact Ev.neg hf (Ev.bind zeros_awake_ev (Ev.now _))
end Go.Proofs.Ytmlkkdopogcggaa.Pure
