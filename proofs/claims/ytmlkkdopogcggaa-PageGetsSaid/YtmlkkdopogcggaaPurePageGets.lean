/- The page of any bytes, and their class: the program's answer is the reference's. No conditions. -/
import Derived.Test.YtmlkkdopogcggaaPG
import Derived.Test.YtmlkkdopogcggaaHp42
namespace Go.Proofs.Ytmlkkdopogcggaa.Pure
open Go.RowKit Go.Proofs.Ytmlkkdopogcggaa.Hp Go.Proofs.Ytmlkkdopogcggaa.PG Go.Proofs.YtmlkkdopogcggaaW.PrintWords Go.Proofs.YtmlkkdopogcggaaW.PrintLast
set_option linter.unusedVariables false

theorem cls_cases (l : List Int) : cls l = 0 ∨ cls l = 2 ∨ (cls l = 1 ∧ l.length = 256 ∧ rightL l = true) := by
  unfold cls
  by_cases h : l.length = 256
  · rw [if_pos h]
    by_cases hz : l = List.replicate 256 255
    · rw [if_pos hz]; exact .inl rfl
    · rw [if_neg hz]
      by_cases hr : rightL l = true
      · rw [if_pos hr]; exact .inr (.inr ⟨rfl, h, hr⟩)
      · rw [if_neg hr]; exact .inr (.inl rfl)
  · rw [if_neg h]; exact .inr (.inl rfl)
theorem PageGets : wagtaillaw15_PageGets.Pure := by
  intro l _ _ hw
  have hb := bytes_of_wf hw
  refine Ev.rounds ?_
  unfold wagtaillaw15_PageGets.f
  by_cases hl : (l.length : Int) > 400
  · refine Ev.congr (fun k => if_pos hl) ?_
    exact Ev.bind awake_ev (Ev.now _)
  · refine Ev.congr (fun k => if_neg hl) ?_
    refine Ev.bind (rclass_ev l hb) ?_
    refine Ev.bind (get_ev l hb (by omega)) ?_
    refine Ev.bind (class_ev l hb (by omega)) ?_
    refine Ev.congr (fun k => if_pos rfl) ?_
    rcases cls_cases l with h | h | ⟨h, h2, h3⟩
    · have hg : getOf l = (0, 0, 0, 0, 0, 0, 0, (⟨#[]⟩ : ByteArray), 8) := by unfold getOf; rw [if_pos h]
      rw [hg, h]
      refine Ev.congr (fun k => if_neg (by decide)) ?_
      refine Ev.congr (fun k => if_pos rfl) ?_
      refine Ev.bind awake_ev ?_
      refine Ev.congr (fun k => if_pos rfl) ?_
      refine Ev.congr (fun k => if_pos rfl) ?_
      refine Ev.congr (fun k => if_pos (by rw [ByteArray.toList_eq])) ?_
      exact Ev.now _
    · have hg : getOf l = (0, 0, 0, 0, 0, 0, 0, (⟨#[]⟩ : ByteArray), 6) := by unfold getOf; rw [if_neg (by rw [h]; decide), if_pos h]
      rw [hg, h]
      refine Ev.congr (fun k => if_neg (by decide)) ?_
      refine Ev.congr (fun k => if_neg (by decide)) ?_
      refine Ev.bind awake_ev ?_
      refine Ev.congr (fun k => if_pos rfl) ?_
      refine Ev.congr (fun k => if_pos rfl) ?_
      refine Ev.congr (fun k => if_pos (by rw [ByteArray.toList_eq])) ?_
      exact Ev.now _
    · have hg : getOf l = (rd l 0, rd l 1, rd l 2, beNum l 4 8, beNum l 12 8, beNum l 20 2, beNum l 22 2, strOfNums (datL l), 0) := by
        unfold getOf
        rw [if_neg (by rw [h]; decide), if_neg (by rw [h]; decide)]
      have hr := rget_val l hb
      rw [if_pos ⟨h2, h3⟩] at hr
      rw [hg, h, hr]
      simp only [if_true, Option.bind_some]
      refine Ev.bind awake_ev ?_
      simp only [if_true, beq_self_eq_true, Bool.and_self]
      exact Ev.now _
end Go.Proofs.Ytmlkkdopogcggaa.Pure
