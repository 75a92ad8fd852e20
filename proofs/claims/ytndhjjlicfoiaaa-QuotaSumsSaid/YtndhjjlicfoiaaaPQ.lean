/- Layer 28 in plain numbers: what the references come to; one behind the other by the least is the stable sort. -/
import Derived.Test.YtndhjjlicfoiaaaND
import Derived.Test.YtndhjjlicfoiaaaHp12
import Derived.Test.YtndhjjlicfoiaaaHp3
import Derived.Test.YtndhjjlicfoiaaaHpK
import Derived.OpenShut
namespace Go.Proofs.Ytndhjjlicfoiaaa.PQ
set_option linter.unusedVariables false
set_option linter.unusedSimpArgs false
open Go.RowKit Go.Proofs.Ytndhjjlicfoiaaa.SS Go.Proofs.Ytndhjjlicfoiaaa.QU Go.Proofs.Ytndhjjlicfoiaaa.QS Go.Proofs.Ytndhjjlicfoiaaa.Hp Go.Proofs.YtndhjjlicfoiaaaW.PrintWords Go.Proofs.YtndhjjlicfoiaaaW.PrintLast
theorem ev_pages (n : Int) (hn : n ≤ 200000) : ∀ (d : Nat) (i : Int), 1 ≤ i → i ≤ 1000 → (i = 1 ∨ 228 * (i - 1) < n) → 1000 - i = d →
    Ev (fun k => wagtailref13_Pages.l0 k n i) (if n < 1 then 1 else (n - 1) / 228 + 1)
  | 0, i, h1, h2, h3, hd => by omega
  | d + 1, i, h1, h2, h3, hd => by
    have hw : wrap64 (228 * i) = 228 * i := by unfold wrap64; omega
    have hw2 : wrap64 (i + 1) = i + 1 := by unfold wrap64; omega
    refine Ev.step (f := fun k => if (wrap64 (228 * i)) < n then (if i < 1000 then (wagtailref13_Pages.l0 k n (wrap64 (i + 1))) else (some i)) else (some i)) (fun k => rfl) ?_
    rw [hw, hw2]
    by_cases hlt : 228 * i < n
    · refine Ev.congr (fun k => by rw [if_pos hlt, if_pos (by omega)]) (ev_pages n hn d (i + 1) (by omega) (by omega) (by omega) (by omega))
    · have e : i = if n < 1 then 1 else (n - 1) / 228 + 1 := by split <;> omega
      refine Ev.congr (fun k => if_neg hlt) ?_
      rw [← e]
      exact Ev.now _
theorem ev_cost (n : Int) (hn : n ≤ 200000) : Ev (fun k => wagtailref28_Cost.f k n) (cst n) := by
  refine Ev.bind (ev_pages n hn 999 1 (by omega) (by omega) (by omega) (by omega)) ?_
  have e : wrap64 ((if n < 1 then 1 else (n - 1) / 228 + 1) + 1) = cst n := by unfold cst wrap64; split <;> omega
  rw [e]
  exact Ev.now _
/-- of a priority; below 0: of all -/
def sumP (p : Int) : List S38 → Int
  | [] => 0
  | x :: r => (if p < 0 ∨ pri x = p then cst x.f3 else 0) + sumP p r
theorem sumP_range (p : Int) : ∀ (l : List S38), (∀ x ∈ l, x.f3 ≤ 100000) → 0 ≤ sumP p l ∧ sumP p l ≤ 1000 * l.length
  | [], _ => by simp [sumP]
  | a :: l, h => by
    have ih := sumP_range p l (fun x hx => h x (by simp [hx]))
    have hc := cst_range a.f3 (h a (by simp))
    simp only [sumP, List.length_cons]
    split <;> omega
theorem useOf_cons (a : S38) (l : List S38) (j : Int) : useOf (a :: l) j = (if pri a = j then cst a.f3 else 0) + useOf l j := by
  unfold useOf
  by_cases hp : pri a = j
  · rw [List.filter_cons_of_pos (by simpa using hp), if_pos hp]; simp
  · rw [List.filter_cons_of_neg (by simpa using hp), if_neg hp]; simp
theorem sumP_of : ∀ (l : List S38) (j : Int), 0 ≤ j → sumP j l = useOf l j
  | [], j, h => by simp [sumP, useOf]
  | a :: l, j, h => by
    rw [useOf_cons, sumP, sumP_of l j h]
    congr 1
    by_cases hp : pri a = j
    · rw [if_pos (.inr hp), if_pos hp]
    · rw [if_neg (by omega), if_neg hp]
theorem sumP_all : ∀ (l : List S38), sumP (-1) l = useAll l
  | [] => by simp [sumP, useAll, useOf]
  | a :: l => by
    have ih := sumP_all l
    unfold useAll at ih ⊢
    rw [useOf_cons, useOf_cons, useOf_cons, sumP, if_pos (.inl (by omega))]
    rcases pri_three a with h | h | h <;> simp [h] <;> omega
theorem rd_nat (l : List S38) (i : Nat) (h : i < l.length) : rd_T38 l (i : Int) = l[i] := by
  unfold rd_T38
  rw [Int.toNat_natCast, List.getD_eq_getElem?_getD, List.getElem?_eq_getElem h]
  rfl
theorem pri_val (x : S38) : (wagtailref01_High.f x.f2 0).bind (fun t => wagtailref01_Low.f t 2) = some (pri x) := by
  unfold wagtailref01_High.f wagtailref01_Low.f pri mn mx
  by_cases h : x.f2 > 0
  · rw [if_pos h, Option.bind_some]
    by_cases h2 : x.f2 < 2
    · rw [if_pos h2]; congr 1; (repeat' split) <;> omega
    · rw [if_neg h2]; congr 1; (repeat' split) <;> omega
  · rw [if_neg h, Option.bind_some]
    rw [if_pos (by omega)]; congr 1; (repeat' split) <;> omega
theorem ev_sum (l : List S38) (hl : lightL l) (p : Int) : ∀ (d i : Nat) (s : Int), i + d = l.length → 0 ≤ s → s ≤ 1000 * i →
    Ev (fun k => wagtailref28_Sum.l0 k l p s (i : Int)) (s + sumP p (l.drop i))
  | 0, i, s, hd, h0, h1 => by
    refine Ev.step (f := fun k => some s) (fun k => ?_) ?_
    · simp only [wagtailref28_Sum.l0]
      rw [if_neg (by omega)]
    · rw [List.drop_of_length_le (by omega), sumP, Int.add_zero]
      exact Ev.now _
  | d + 1, i, s, hd, h0, h1 => by
    have hi : i < l.length := by omega
    have hx := hl.2 l[i] (List.getElem_mem hi)
    have hc := cst_range l[i].f3 hx.2
    have hlen := hl.1
    have e2 : wrap64 ((i : Int) + 1) = ((i + 1 : Nat) : Int) := by unfold wrap64; omega
    have e3 : wrap64 (s + cst l[i].f3) = s + cst l[i].f3 := by unfold wrap64; omega
    refine Ev.step (f := fun k => if p < 0 then ((wagtailref28_Cost.f k l[i].f3).bind fun t128 => (wagtailref28_Sum.l0 k l p (wrap64 (s + t128)) (wrap64 ((i : Int) + 1)))) else (if pri l[i] = p then ((wagtailref28_Cost.f k l[i].f3).bind fun t130 => (wagtailref28_Sum.l0 k l p (wrap64 (s + t130)) (wrap64 ((i : Int) + 1)))) else (wagtailref28_Sum.l0 k l p s (wrap64 ((i : Int) + 1))))) (fun k => ?_) ?_
    · simp only [wagtailref28_Sum.l0]
      rw [if_pos (by omega), if_pos (by omega), rd_nat l i hi]
      have hp := pri_val l[i]
      cases hh : wagtailref01_High.f l[i].f2 0 with
      | none => rw [hh] at hp; cases hp
      | some t =>
        rw [hh, Option.bind_some] at hp
        rw [Option.bind_some, hp, Option.bind_some]
    · rw [List.drop_eq_getElem_cons hi, sumP, e2]
      by_cases hp : p < 0
      · refine Ev.congr (fun k => if_pos hp) (Ev.bind (ev_cost _ (by omega)) ?_)
        rw [if_pos (.inl hp), e3, ← Int.add_assoc]
        exact ev_sum l hl p d (i + 1) _ (by omega) (by omega) (by omega)
      · by_cases hq : pri l[i] = p
        · refine Ev.congr (fun k => by rw [if_neg hp, if_pos hq]) (Ev.bind (ev_cost _ (by omega)) ?_)
          rw [if_pos (.inr hq), e3, ← Int.add_assoc]
          exact ev_sum l hl p d (i + 1) _ (by omega) (by omega) (by omega)
        · refine Ev.congr (fun k => by rw [if_neg hp, if_neg hq]) ?_
          rw [if_neg (by omega), Int.zero_add]
          exact ev_sum l hl p d (i + 1) _ (by omega) (by omega) (by omega)
theorem ev_sumF (l : List S38) (hl : lightL l) (p : Int) : Ev (fun k => wagtailref28_Sum.f k l p) (sumP p l) := by
  have := ev_sum l hl p l.length 0 0 (by omega) (by omega) (by omega)
  rwa [Int.zero_add, List.drop_zero] at this
def fitsE (l : List S38) (n b : Int) : Bool := decide (useAll l ≤ wrap64 (b - cst n))
theorem ev_fits (l : List S38) (hl : lightL l) (n b : Int) (hn : n ≤ 200000) : Ev (fun k => wagtailref28_Fits.f k l n b) (fitsE l n b) := by
  refine Ev.bind (ev_sumF l hl (-1)) (Ev.bind (ev_cost n hn) ?_)
  rw [sumP_all]
  exact Ev.now _
theorem useAll_range (l : List S38) (hl : lightL l) : 0 ≤ useAll l ∧ useAll l ≤ 1000000 := by
  have := sumP_range (-1) l (fun x hx => (hl.2 x hx).2)
  rw [sumP_all] at this
  have := hl.1
  omega
/-- what the program says, by what the reference says -/
theorem may_fits (l : List S38) (hl : lightL l) (n b : Int) (h1 : 1 ≤ n) (h2 : n ≤ 3192) (hb : -1099511627776 ≤ b) (hb2 : b ≤ 1099511627776) : mayE l n b = if fitsE l n b = true then 0 else 13 := by
  have hu := useAll_range l hl
  have hc := cst_range n (by omega)
  have e : wrap64 (b - cst n) = b - cst n := by unfold wrap64; omega
  have e2 : wrap64 (b - useAll l) = b - useAll l := by unfold wrap64; omega
  unfold mayE fitsE leftE
  rw [if_neg (by omega), e, e2]
  by_cases hq : useAll l ≤ b - cst n
  · rw [if_pos (decide_eq_true hq), if_neg (by rw [if_neg (by omega)]; omega)]
  · rw [if_neg (show ¬ decide (useAll l ≤ b - cst n) = true by simpa using hq), if_pos (by split <;> omega)]
/-- The first of the least, and the sort of the others. -/
theorem ssort_sel {α : Type} {lt : α → α → Bool} (ho : Ord lt) (P Q : List α) (x : α) (h1 : ∀ y ∈ P, lt x y = true) (h2 : ∀ y ∈ Q, lt y x = false) : ssort lt (P ++ x :: Q) = x :: ssort lt (P ++ Q) := by
  have hs := ssort_stable ho (P ++ Q)
  have hle : ∀ y ∈ P ++ Q, lt y x = false := fun y hy => by
    rcases List.mem_append.1 hy with hy | hy
    · exact ho.asym _ _ (h1 y hy)
    · exact h2 y hy
  refine (ssort_stable ho _).eq ho (v := x :: ssort lt (P ++ Q)) ⟨?_, fun z => ?_, fun z => ?_⟩
  · exact List.pairwise_cons.2 ⟨fun y hy => hle y ((hs.2.1 y).1 hy), hs.1⟩
  · rw [List.mem_cons, hs.2.1, List.mem_append, List.mem_append, List.mem_cons]
    constructor
    · rintro (h | h | h)
      · exact .inr (.inl h)
      · exact .inl h
      · exact .inr (.inr h)
    · rintro (h | h | h)
      · exact .inr (.inl h)
      · exact .inl h
      · exact .inr (.inr h)
  · rw [List.filter_cons, hs.2.2, List.filter_append, List.filter_append, List.filter_cons]
    by_cases hz : eqv lt z x = true
    · rw [if_pos hz, if_pos hz]
      have hP : P.filter (eqv lt z) = [] := by
        rw [List.filter_eq_nil_iff]
        intro y hy he
        have hy1 := h1 y hy
        have h3 := (of_eqv he).1
        rw [ho.le_lt (of_eqv hz).2 hy1] at h3
        cases h3
      rw [hP]
      rfl
    · rw [if_neg hz, if_neg hz]
theorem ev_light (l : List S38) (hl : l.length ≤ 40) : ∀ (d i : Nat), i + d = l.length → Ev (fun k => wagtaillaw28_light.l0 k l (i : Int)) ((l.drop i).all fun x => decide (x.f3 ≤ 100000))
  | 0, i, hd => by
    refine Ev.step (f := fun k => some true) (fun k => ?_) ?_
    · simp only [wagtaillaw28_light.l0]
      rw [if_neg (by omega)]
    · rw [List.drop_of_length_le (by omega), List.all_nil]
      exact Ev.now _
  | d + 1, i, hd => by
    have hi : i < l.length := by omega
    have e2 : wrap64 ((i : Int) + 1) = ((i + 1 : Nat) : Int) := by unfold wrap64; omega
    refine Ev.step (f := fun k => if l[i].f3 > 100000 then some false else wagtaillaw28_light.l0 k l ((i + 1 : Nat) : Int)) (fun k => ?_) ?_
    · simp only [wagtaillaw28_light.l0]
      rw [if_pos (by omega), if_pos (by omega), rd_nat l i hi, e2]
    · rw [List.drop_eq_getElem_cons hi]
      by_cases hx : l[i].f3 > 100000
      · refine Ev.congr (fun k => if_pos hx) ?_
        rw [List.all_cons, decide_eq_false (by omega), Bool.false_and]
        exact Ev.now _
      · refine Ev.congr (fun k => if_neg hx) ?_
        have ih := ev_light l hl d (i + 1) (by omega)
        rw [List.all_cons, decide_eq_true (by omega), Bool.true_and]
        exact ih
def lightB (l : List S38) : Bool := decide (l.length ≤ 40) && l.all fun x => decide (x.f3 ≤ 100000)
theorem ev_lightF (l : List S38) : Ev (fun k => wagtaillaw28_light.f k l) (lightB l) := by
  unfold lightB
  by_cases h : l.length ≤ 40
  · refine Ev.congr (f := fun k => wagtaillaw28_light.l0 k l 0) (fun k => if_neg (by omega)) ?_
    rw [decide_eq_true h, Bool.true_and]
    exact ev_light l h l.length 0 (by omega)
  · refine Ev.congr (f := fun k => some false) (fun k => if_pos (by omega)) ?_
    rw [decide_eq_false h, Bool.false_and]
    exact Ev.now _
theorem light_of {l : List S38} (h : lightB l = true) (hok : ∀ x ∈ l, ok38 x) : lightL l ∧ l.length ≤ 40 := by
  unfold lightB at h
  simp only [Bool.and_eq_true, decide_eq_true_eq, List.all_eq_true] at h
  exact ⟨⟨by omega, fun x hx => ⟨(bounds_i64 (hok x hx).2.2.2.1).1, h.2 x hx⟩⟩, h.1⟩
theorem ev_may (l : List S38) (hl : lightL l) (n b : Int) : Ev (fun k => quota_May.f k l n b) (mayE l n b) := Ev.of (fun k => quota_May.mono l n b k) (may_val l hl n b)
end Go.Proofs.Ytndhjjlicfoiaaa.PQ
