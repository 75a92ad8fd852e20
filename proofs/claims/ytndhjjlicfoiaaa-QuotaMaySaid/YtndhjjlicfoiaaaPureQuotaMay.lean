/- 'QuotaMay': for all records, numbers of bytes and budgets, whether a bundle may come and how great it may be at most is what the document says. -/
import Derived.Test.YtndhjjlicfoiaaaHpQQuotaMay
import Derived.Test.YtndhjjlicfoiaaaPQ
namespace Go.Proofs.Ytndhjjlicfoiaaa.Pure
set_option linter.unusedVariables false
open Go.RowKit Go.Proofs.Ytndhjjlicfoiaaa.SS Go.Proofs.Ytndhjjlicfoiaaa.QU Go.Proofs.Ytndhjjlicfoiaaa.QS Go.Proofs.Ytndhjjlicfoiaaa.PQ Go.Proofs.Ytndhjjlicfoiaaa.Hp Go.Proofs.YtndhjjlicfoiaaaW.PrintWords Go.Proofs.YtndhjjlicfoiaaaW.PrintLast
theorem may_awake (l : List S38) (n b : Int) : Ev (fun k => wagtaillaw28_QuotaMay.j0 k l n b true) true :=
  Ev.step (f := fun _ => some true) (fun k => rfl) (Ev.now _)
theorem most_val (l : List S38) (hl : lightL l) (b : Int) : quota_Most.f l b = some (if wrap64 (leftE l b - 1) < 1 then 0 else mn (wrap64 (mn (wrap64 (leftE l b - 1)) 3192 * 228)) 3192) := by
  unfold quota_Most.f
  rw [left_val l hl b, Option.bind_some]
  split <;> rfl
theorem most_law (l : List S38) (hl : lightL l) (b : Int) (hb : -1099511627776 ≤ b) (hb2 : b ≤ 1099511627776) (m : Int) (hm : m = if wrap64 (leftE l b - 1) < 1 then 0 else mn (wrap64 (mn (wrap64 (leftE l b - 1)) 3192 * 228)) 3192) :
    0 ≤ m ∧ m ≤ 3192 ∧ (m > 0 → fitsE l m b = true) ∧ (m < 3192 → fitsE l (wrap64 (m + 1)) b = false) := by
  have hu := useAll_range l hl
  have e2 : wrap64 (b - useAll l) = b - useAll l := by unfold wrap64; omega
  have hL : 0 ≤ leftE l b ∧ leftE l b ≤ 1099511627776 ∧ (leftE l b = 0 ∧ b ≤ useAll l ∨ leftE l b = b - useAll l) := by
    unfold leftE
    rw [e2]
    split <;> omega
  have e1 : wrap64 (leftE l b - 1) = leftE l b - 1 := by unfold wrap64; omega
  rw [e1] at hm
  obtain ⟨L, hLe⟩ : ∃ L, L = leftE l b := ⟨_, rfl⟩
  rw [← hLe] at hm hL
  have hmr : 0 ≤ m ∧ m ≤ 3192 ∧ (m = 3192 ∧ L - 1 ≥ 14 ∨ L ≤ 1 ∧ m = 0 ∨ 1 ≤ L - 1 ∧ L - 1 < 14 ∧ m = (L - 1) * 228) := by
    by_cases h : L - 1 < 1
    · rw [if_pos h] at hm; omega
    · rw [if_neg h] at hm
      unfold mn at hm
      by_cases h2 : 3192 < L - 1
      · rw [if_pos h2, show wrap64 ((3192 : Int) * 228) = 3192 * 228 by unfold wrap64; omega] at hm
        split at hm <;> omega
      · rw [if_neg h2, show wrap64 ((L - 1) * 228) = (L - 1) * 228 by unfold wrap64; omega] at hm
        split at hm <;> omega
  have ew : wrap64 (m + 1) = m + 1 := by unfold wrap64; omega
  refine ⟨hmr.1, hmr.2.1, fun h0 => ?_, fun h1 => ?_⟩
  · unfold fitsE
    have hc : cst m = (m - 1) / 228 + 2 := if_neg (by omega)
    rw [hc, show wrap64 (b - ((m - 1) / 228 + 2)) = b - ((m - 1) / 228 + 2) by unfold wrap64; omega]
    exact decide_eq_true (by omega)
  · unfold fitsE
    rw [ew]
    have hc : cst (m + 1) = m / 228 + 2 := by unfold cst; rw [if_neg (by omega), show m + 1 - 1 = m by omega]
    rw [hc, show wrap64 (b - (m / 228 + 2)) = b - (m / 228 + 2) by unfold wrap64; omega]
    exact decide_eq_false (by omega)
theorem may_j2 (l : List S38) (hl : lightL l) (b : Int) (hb : -1099511627776 ≤ b) (hb2 : b ≤ 1099511627776) : Ev (fun k => wagtaillaw28_QuotaMay.j2 k l b) true := by
  obtain ⟨m, hm⟩ : ∃ m, m = if wrap64 (leftE l b - 1) < 1 then 0 else mn (wrap64 (mn (wrap64 (leftE l b - 1)) 3192 * 228)) 3192 := ⟨_, rfl⟩
  obtain ⟨h0, h1, h2, h3⟩ := most_law l hl b hb hb2 m hm
  have hv := most_val l hl b
  rw [← hm] at hv
  have ew : wrap64 (m + 1) = m + 1 := by unfold wrap64; omega
  have hmore : Ev (fun k => if m < 3192 then ((wagtailref28_Fits.f k l (wrap64 (m + 1)) b).bind fun t141 => (if t141 = true then (some false) else (some true))) else (some true)) true := by
    by_cases h : m < 3192
    · refine Ev.congr (fun k => if_pos h) (Ev.bind (ev_fits l hl _ b (by omega)) ?_)
      rw [h3 h]
      exact Ev.now _
    · exact Ev.congr (fun k => if_neg h) (Ev.now _)
  refine Ev.step (f := fun k => if m > 0 then ((wagtailref28_Fits.f k l m b).bind fun t140 => (if t140 = true then (if m < 3192 then ((wagtailref28_Fits.f k l (wrap64 (m + 1)) b).bind fun t141 => (if t141 = true then (some false) else (some true))) else (some true)) else (some false))) else (if m < 3192 then ((wagtailref28_Fits.f k l (wrap64 (m + 1)) b).bind fun t141 => (if t141 = true then (some false) else (some true))) else (some true))) (fun k => ?_) ?_
  · simp only [wagtaillaw28_QuotaMay.j2, wagtaillaw28_awake.f, Option.bind_some]
    rw [hv, Option.bind_some, if_neg (by omega), if_neg (by omega)]
  · by_cases h : m > 0
    · refine Ev.congr (fun k => if_pos h) (Ev.bind (ev_fits l hl m b (by omega)) ?_)
      rw [h2 h]
      exact Ev.congr (fun k => if_pos rfl) hmore
    · exact Ev.congr (fun k => if_neg h) hmore
theorem may_j0 (l : List S38) (hl : lightL l) (n b : Int) (hn : -9223372036854775808 ≤ n) (hb : -1099511627776 ≤ b) (hb2 : b ≤ 1099511627776) : Ev (fun k => wagtaillaw28_QuotaMay.j0 k l n b false) true := by
  have hj1 : ∀ q : Bool, q = decide (n < 1 ∨ n > 3192) → Ev (fun k => wagtaillaw28_QuotaMay.j1 k l n b (mayE l n b) q) true := by
    intro q hq
    by_cases hr : n < 1 ∨ n > 3192
    · rw [decide_eq_true hr] at hq
      subst hq
      have he : mayE l n b = 3 := if_pos hr
      rw [he]
      exact Ev.step (f := fun k => wagtaillaw28_QuotaMay.j2 k l b) (fun k => rfl) (may_j2 l hl b hb hb2)
    · rw [decide_eq_false hr] at hq
      subst hq
      have he := may_fits l hl n b (by omega) (by omega) hb hb2
      refine Ev.step (f := fun k => (wagtailref28_Fits.f k l n b).bind fun t138 => (if ((mayE l n b == 0) != t138) = true then (some false) else (if mayE l n b = 0 then (wagtaillaw28_QuotaMay.j2 k l b) else (if mayE l n b = 13 then (wagtaillaw28_QuotaMay.j2 k l b) else (some false))))) (fun k => rfl) ?_
      refine Ev.bind (ev_fits l hl n b (by omega)) ?_
      rw [he]
      cases fitsE l n b with
      | true => exact Ev.congr (f := fun k => wagtaillaw28_QuotaMay.j2 k l b) (fun k => rfl) (may_j2 l hl b hb hb2)
      | false => exact Ev.congr (f := fun k => wagtaillaw28_QuotaMay.j2 k l b) (fun k => rfl) (may_j2 l hl b hb hb2)
  refine Ev.step (f := fun k => (quota_May.f k l n b).bind fun t137 => (if n < 1 then (wagtaillaw28_QuotaMay.j1 k l n b t137 true) else (wagtaillaw28_QuotaMay.j1 k l n b t137 (decide (n > 3192))))) (fun k => rfl) ?_
  refine Ev.bind (ev_may l hl n b) ?_
  by_cases h1 : n < 1
  · exact Ev.congr (fun k => if_pos h1) (hj1 true (decide_eq_true (.inl h1)).symm)
  · refine Ev.congr (fun k => if_neg h1) (hj1 _ ?_)
    by_cases h2 : n > 3192
    · rw [decide_eq_true h2, decide_eq_true (.inr h2)]
    · rw [decide_eq_false h2, decide_eq_false (by omega)]
theorem QuotaMay : wagtaillaw28_QuotaMay.Pure := by
  intro l n b hl hn hb
  refine Ev.rounds ?_
  have hn' := bounds_i64 hn
  refine Ev.bind (ev_lightF l) ?_
  cases hlb : lightB l with
  | false => exact Ev.congr (f := fun k => wagtaillaw28_QuotaMay.j0 k l n b true) (fun k => rfl) (may_awake l n b)
  | true =>
    obtain ⟨hl1, _⟩ := light_of hlb hl.2
    refine Ev.congr (f := fun k => if b > 1099511627776 then (wagtaillaw28_QuotaMay.j0 k l n b true) else (wagtaillaw28_QuotaMay.j0 k l n b (decide (b < (-1099511627776))))) (fun k => if_pos rfl) ?_
    by_cases h1 : b > 1099511627776
    · exact Ev.congr (fun k => if_pos h1) (may_awake l n b)
    · by_cases h2 : b < -1099511627776
      · exact Ev.congr (f := fun k => wagtaillaw28_QuotaMay.j0 k l n b true) (fun k => by rw [if_neg h1, decide_eq_true h2]) (may_awake l n b)
      · exact Ev.congr (f := fun k => wagtaillaw28_QuotaMay.j0 k l n b false) (fun k => by rw [if_neg h1, decide_eq_false h2]) (may_j0 l hl1 n b hn'.1 (by omega) (by omega))
end Go.Proofs.Ytndhjjlicfoiaaa.Pure
