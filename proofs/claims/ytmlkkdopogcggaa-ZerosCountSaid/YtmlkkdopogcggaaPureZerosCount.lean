/- 'ZerosCount': how many bits of any bytes are 0, and whether they are blank, is the document's; bytes of nothing but 1 are as many as asked for. -/
import Derived.Test.YtmlkkdopogcggaaPZ
namespace Go.Proofs.Ytmlkkdopogcggaa.Pure
set_option linter.unusedVariables false
open Go.RowKit Go.Proofs.Ytmlkkdopogcggaa.Hp Go.Proofs.YtmlkkdopogcggaaW.PrintWords Go.Proofs.YtmlkkdopogcggaaW.PrintLast

theorem low_is (a b : Int) : wagtailref01_Low.f a b = some (if a < b then a else b) := by
  unfold wagtailref01_Low.f
  split <;> rfl
theorem high_is (a b : Int) : wagtailref01_High.f a b = some (if a > b then a else b) := by
  unfold wagtailref01_High.f
  split <;> rfl
theorem count_join (l0 : List Int) (a : Int) (b0 : isBytes l0) (hl : l0.length ≤ 60) (ha : ¬ (100 < a ∧ a ≤ 1048576)) : Ev (fun k => wagtaillaw02_ZerosCount.j0 k l0 a false) true := by
  refine Ev.step (fun k => ?_) (Ev.bind zeros_awake_ev (f := fun k t228 => (if t228 = true then ((zeros_Count.f k l0).bind fun t229 => ((wagtailref02_Count.f k l0).bind fun t230 => (if t229 = t230 then ((zeros_Blank.f k l0).bind fun t231 => ((wagtailref02_Count.f k l0).bind fun t232 => (if (t231 == (t232 == 0)) = true then ((zeros_Ones.f k a).bind fun t233 => (if (t233.length : Int) = (if (if a < 1048576 then a else 1048576) > 0 then (if a < 1048576 then a else 1048576) else 0) then (if a > 100 then (some true) else ((zeros_Ones.f k a).bind fun t236 => ((wagtailref02_Ones.f k a).bind fun t239 => (some ((strOfNums t236).toList == (strOfNums t239).toList))))) else (some false))) else (some false)))) else (some false)))) else (some false))) ?_)
  · simp only [wagtaillaw02_ZerosCount.j0]
    rw [if_neg (by simp), low_is]
    simp only [Option.bind_some]
    rw [high_is]
    rfl
  · refine Ev.pos rfl (Ev.bind (pcount_ev l0 b0 (by omega)) (Ev.bind (refcount_ev l0 b0 (by omega)) (Ev.pos rfl ?_)))
    have hblank : Ev (fun k => zeros_Blank.f k l0) (zsum l0 == 0) := Ev.bind (pcount_ev l0 b0 (by omega)) (f := fun _ t => some (t == 0)) (Ev.now _)
    refine Ev.bind hblank (Ev.bind (refcount_ev l0 b0 (by omega)) (Ev.pos (by simp) (Ev.bind (pones_ev a) ?_)))
    have hlen : ((List.replicate (mn a 1048576).toNat (255 : Int)).length : Int) = (if (if a < 1048576 then a else 1048576) > 0 then (if a < 1048576 then a else 1048576) else 0) := by
      rw [List.length_replicate]
      unfold mn
      (repeat' split) <;> omega
    refine Ev.pos hlen ?_
    by_cases h100 : a > 100
    · exact Ev.pos h100 (Ev.now _)
    · refine Ev.neg h100 (Ev.bind (pones_ev a) ?_)
      have hr : Ev (fun k => wagtailref02_Ones.f k a) (List.replicate (mn a 1048576).toNat 255) := by
        by_cases h0 : 0 ≤ a
        · obtain ⟨n, rfl⟩ := Int.eq_ofNat_of_zero_le h0
          have e : (mn (n : Int) 1048576).toNat = n := by unfold mn; split <;> omega
          rw [e]
          exact ones_ev n (by omega)
        · have e : (mn a 1048576).toNat = 0 := by unfold mn; split <;> omega
          rw [e]
          exact ones_neg a (by omega)
      refine Ev.bind hr ?_
      simp only [beq_self_eq_true]
      exact Ev.now _
theorem count_true (l0 : List Int) (a : Int) : Ev (fun k => wagtaillaw02_ZerosCount.j0 k l0 a true) true := by
  refine Ev.step (fun k => ?_) (Ev.bind zeros_awake_ev (f := fun _ t => some t) (Ev.now _))
  simp only [wagtaillaw02_ZerosCount.j0]
  rw [if_pos trivial]
theorem ZerosCount : wagtaillaw02_ZerosCount.Pure := by
  intro l0 a ⟨_, g0⟩ _
  have b0 := bytes_of_wf g0
  refine Ev.rounds (g := fun k => wagtaillaw02_ZerosCount.f k l0 a) ?_
  unfold wagtaillaw02_ZerosCount.f
  refine Ev.bind (few_ev [l0] (by simp)) ?_
  by_cases hf : fewB [l0] = true
  · refine Ev.pos hf ?_
    simp only [fewB, List.all_cons, List.all_nil, Bool.and_true, decide_eq_true_eq] at hf
    by_cases h1 : a > 100
    · refine Ev.pos h1 ?_
      by_cases h2 : a ≤ 1048576
      · rw [decide_eq_true h2]
        exact count_true l0 a
      · rw [decide_eq_false h2]
        exact count_join l0 a b0 hf (by omega)
    · exact Ev.neg h1 (count_join l0 a b0 hf (by omega))
  · exact Ev.neg hf (count_true l0 a)
end Go.Proofs.Ytmlkkdopogcggaa.Pure
