/- 'QuotaNeeded': for all records, numbers of bytes and budgets, the records that stand in a bundle's way are those that the document names. -/
import Derived.Test.YtndhjjlicfoiaaaHpQQuotaNeeded
import Derived.Test.YtndhjjlicfoiaaaPQ
namespace Go.Proofs.Ytndhjjlicfoiaaa.Pure
set_option linter.unusedVariables false
open Go.RowKit Go.Proofs.Ytndhjjlicfoiaaa.SS Go.Proofs.Ytndhjjlicfoiaaa.QU Go.Proofs.Ytndhjjlicfoiaaa.QS Go.Proofs.Ytndhjjlicfoiaaa.PQ Go.Proofs.Ytndhjjlicfoiaaa.Hp Go.Proofs.YtndhjjlicfoiaaaW.PrintWords Go.Proofs.YtndhjjlicfoiaaaW.PrintLast
theorem ltS_ord : Ord ltS := by
  refine ⟨fun x y h => ?_, fun x y z h1 h2 => ?_⟩
  · unfold ltS at h ⊢
    simp only [decide_eq_true_eq, decide_eq_false_iff_not] at h ⊢
    omega
  · unfold ltS at h1 h2 ⊢
    simp only [decide_eq_false_iff_not] at h1 h2 ⊢
    omega
theorem less_val (x y : S38) : wagtailref28_Less.f x.f0 x.f1 x.f2 x.f3 x.f4 x.f5 x.f6 x.f7 y.f0 y.f1 y.f2 y.f3 y.f4 y.f5 y.f6 y.f7 = some (ltS x y) := by
  unfold wagtailref28_Less.f ltS
  by_cases h : x.f2 = y.f2
  · rw [if_pos h]
    by_cases h2 : x.f4 = y.f4
    · rw [if_pos h2]
      congr 2
      apply propext
      omega
    · rw [if_neg h2]
      congr 2
      apply propext
      omega
  · rw [if_neg h]
    congr 2
    apply propext
    omega
/-- till there is room, rising -/
def goF (n b : Int) : List S38 → List Int → List Int
  | [], out => if fitsE [] n b = true then out else []
  | x :: r, out => if fitsE (x :: r) n b = true then out else goF n b r (out ++ [x.f0])
theorem useAll_append (P Q : List S38) : useAll (P ++ Q) = useAll P + useAll Q := by
  rw [← sumP_all, ← sumP_all, ← sumP_all]
  induction P with
  | nil => simp [sumP]
  | cons a r ih => rw [List.cons_append, sumP, sumP, ih, Int.add_assoc]
theorem useAll_cons (a : S38) (l : List S38) : useAll (a :: l) = cst a.f3 + useAll l := by rw [← sumP_all, sumP, if_pos (.inl (by omega)), sumP_all]
theorem useAll_put (x : S38) : ∀ s : List S38, useAll (put ltS x s) = cst x.f3 + useAll s
  | [] => useAll_cons x []
  | y :: s => by
    unfold put
    split
    · exact useAll_cons x _
    · rw [useAll_cons, useAll_put x s, useAll_cons]; omega
theorem useAll_ssort (l : List S38) : useAll (ssort ltS l) = useAll l := by
  suffices h : ∀ (n : Nat) (l : List S38), l.length = n → useAll (ssort ltS l) = useAll l from h l.length l rfl
  intro n
  induction n with
  | zero => intro l hl; rw [List.eq_nil_of_length_eq_zero hl]; rfl
  | succ n ih =>
    intro l hl
    have hne : l ≠ [] := by intro e; rw [e] at hl; cases hl
    rw [← List.dropLast_concat_getLast hne, ssort_snoc, useAll_put, ih _ (by rw [List.length_dropLast]; omega), useAll_append, useAll_cons]
    have : useAll ([] : List S38) = 0 := rfl
    omega
theorem fits_ssort (l : List S38) (n b : Int) : fitsE (ssort ltS l) n b = fitsE l n b := by unfold fitsE; rw [useAll_ssort]
theorem goF_unfold (n b : Int) (S : List S38) (out : List Int) : goF n b S out = if fitsE S n b = true then out else match S with | [] => [] | x :: r => goF n b r (out ++ [x.f0]) := by
  cases S <;> rfl
/-- the program's way, by that -/
theorem goN_goF (n b : Int) (h1 : 1 ≤ n) (h2 : n ≤ 3192) (hb : -1099511627776 ≤ b) (hb2 : b ≤ 1099511627776) : ∀ (S : List S38) (out : List Int), lightL S → fitsE S n b = false → goN n b S out = goF n b S out
  | [], out, hl, hf => by rw [goF, hf]; rfl
  | x :: r, out, hl, hf => by
    have hr : lightL r := lightL_sub hl (fun y hy => List.mem_cons_of_mem _ hy) (by simp)
    rw [goN, goF, hf, if_neg (show ¬ (false = true) by decide), may_fits r hr n b h1 h2 hb hb2]
    by_cases h : fitsE r n b = true
    · rw [if_pos h, if_pos rfl, goF_unfold, if_pos h]
    · rw [if_neg h, if_neg (by decide)]
      exact goN_goF n b h1 h2 hb hb2 r _ hr (Bool.eq_false_iff.mpr h)
/-- the reference's way -/
theorem ev_ref (n b : Int) (h1 : 1 ≤ n) (h2 : n ≤ 3192) : ∀ (N : Nat) (l : List S38) (out : List Int), l.length = N → l.length ≤ 1000 → out.length + l.length ≤ 1000 → lightL l → Ev (fun k => wagtailref28_Needed.l0 k n b out l) (goF n b (ssort ltS l) out)
  | N, l, out, hN, hl1, hol, hl => by
    rw [goF_unfold, fits_ssort]
    refine Ev.step (f := fun k => (wagtailref28_Fits.f k l n b).bind fun t149 => (if t149 = true then (some out) else (if (l.length : Int) = 0 then (some ([] : List Int)) else (wagtailref28_Needed.l1 k n b out l 0 0)))) (fun k => rfl) ?_
    refine Ev.bind (ev_fits l hl n b (by omega)) ?_
    by_cases hf : fitsE l n b = true
    · rw [if_pos hf]
      exact Ev.congr (fun k => if_pos hf) (Ev.now _)
    · rw [if_neg hf]
      by_cases h0 : l = []
      · subst h0
        exact Ev.congr (f := fun k => some []) (fun k => by rw [if_neg hf, if_pos (by simp)]) (Ev.now _)
      · have hpos : 0 < l.length := List.length_pos_iff.2 h0
        refine Ev.congr (f := fun k => wagtailref28_Needed.l1 k n b out l ((0 : Nat) : Int) ((0 : Nat) : Int)) (fun k => by rw [if_neg hf, if_neg (by omega)]; rfl) ?_
        -- the rounds that look for the least
        suffices hloop : ∀ (d i m : Nat), i + d = l.length → m < l.length → m ≤ i → (∀ j, j < i → ∀ x y, l[j]? = some x → l[m]? = some y → ltS x y = false) → (∀ j, j < m → ∀ x y, l[j]? = some x → l[m]? = some y → ltS y x = true) →
            Ev (fun k => wagtailref28_Needed.l1 k n b out l (m : Int) (i : Int)) (match ssort ltS l with | [] => [] | x :: r => goF n b r (out ++ [x.f0])) from
          hloop l.length 0 0 (by omega) hpos (Nat.le_refl _) (fun j hj => absurd hj (by omega)) (fun j hj => absurd hj (by omega))
        intro d
        induction d with
        | zero =>
          intro i m hd hm hmi hall hbef
          have e1 : wrap64 ((m : Int) + 1) = ((m + 1 : Nat) : Int) := by unfold wrap64; omega
          have hsp : l = l.take m ++ l[m] :: l.drop (m + 1) := by rw [← List.drop_eq_getElem_cons hm, List.take_append_drop]
          have hss : ssort ltS l = l[m] :: ssort ltS (l.take m ++ l.drop (m + 1)) := by
            have := ssort_sel ltS_ord (l.take m) (l.drop (m + 1)) l[m] (fun y hy => ?_) (fun y hy => ?_)
            · rw [← hsp] at this; exact this
            · obtain ⟨j, hj, hjl, hjy⟩ := mem_take_get hy
              exact hbef j hj y l[m] hjy (List.getElem?_eq_getElem hm)
            · obtain ⟨j, hj, hjl, hjy⟩ := mem_drop_get hy
              exact hall j (by omega) y l[m] hjy (List.getElem?_eq_getElem hm)
          rw [hss]
          have hlen : (l.take m ++ l.drop (m + 1)).length + 1 = l.length := by rw [List.length_append, List.length_take, List.length_drop]; omega
          refine Ev.step (f := fun k => wagtailref28_Needed.l0 k n b (out ++ [l[m].f0]) (l.take m ++ l.drop (m + 1))) (fun k => ?_) ?_
          · simp only [wagtailref28_Needed.l1]
            rw [if_neg (by omega), if_pos (by omega), if_pos (by omega), if_pos (by omega), Option.bind_some, if_pos (by omega), Option.bind_some, if_pos (by rw [List.length_nil, List.length_take]; omega), Option.bind_some, e1, if_pos (by omega), if_pos (by omega), Option.bind_some,
              if_pos (by rw [List.nil_append, Int.toNat_natCast, Int.toNat_natCast, List.length_take, List.length_drop]; omega), rd_nat l m hm, List.nil_append, Int.toNat_natCast, Int.toNat_natCast]
          · exact ev_ref n b h1 h2 (N - 1) _ _ (by omega) (by omega) (by rw [List.length_append]; simp only [List.length_cons, List.length_nil]; omega) (lightL_sub hl (fun y hy => by
              rcases List.mem_append.1 hy with hy | hy
              · exact List.mem_of_mem_take hy
              · exact List.mem_of_mem_drop hy) (by omega))
        | succ d ih =>
          intro i m hd hm hmi hall hbef
          have hi : i < l.length := by omega
          have e1 : wrap64 ((i : Int) + 1) = ((i + 1 : Nat) : Int) := by unfold wrap64; omega
          refine Ev.step (f := fun k => if ltS l[i] l[m] = true then (wagtailref28_Needed.l1 k n b out l (i : Int) ((i + 1 : Nat) : Int)) else (wagtailref28_Needed.l1 k n b out l (m : Int) ((i + 1 : Nat) : Int))) (fun k => ?_) ?_
          · simp only [wagtailref28_Needed.l1]
            rw [if_pos (by omega), if_pos (by omega), if_pos (by omega), if_pos (by omega), rd_nat l i hi, rd_nat l m hm, less_val, Option.bind_some, e1]
          · by_cases hlt : ltS l[i] l[m] = true
            · refine Ev.congr (fun k => if_pos hlt) (ih (i + 1) i (by omega) hi (by omega) (fun j hj x y hx hy => ?_) (fun j hj x y hx hy => ?_))
              · rw [List.getElem?_eq_getElem hi] at hy
                obtain rfl := Option.some.inj hy
                rcases Nat.lt_or_ge j i with h | h
                · exact ltS_ord.asym _ _ (ltS_ord.lt_le hlt (hall j h x l[m] hx (List.getElem?_eq_getElem hm)))
                · obtain rfl : j = i := by omega
                  rw [List.getElem?_eq_getElem hi] at hx
                  obtain rfl := Option.some.inj hx
                  exact ltS_ord.irrefl _
              · rw [List.getElem?_eq_getElem hi] at hy
                obtain rfl := Option.some.inj hy
                exact ltS_ord.lt_le hlt (hall j hj x l[m] hx (List.getElem?_eq_getElem hm))
            · refine Ev.congr (fun k => if_neg hlt) (ih (i + 1) m (by omega) hm (by omega) (fun j hj x y hx hy => ?_) hbef)
              rcases Nat.lt_or_ge j i with h | h
              · exact hall j h x y hx hy
              · obtain rfl : j = i := by omega
                rw [List.getElem?_eq_getElem hi] at hx
                rw [List.getElem?_eq_getElem hm] at hy
                obtain rfl := Option.some.inj hx
                obtain rfl := Option.some.inj hy
                exact Bool.eq_false_iff.mpr hlt
termination_by N => N
decreasing_by omega
theorem goF_len (n b : Int) : ∀ (S : List S38) (out : List Int), (goF n b S out).length ≤ out.length + S.length
  | [], out => by unfold goF; split <;> simp
  | x :: r, out => by
    unfold goF
    have := goF_len n b r (out ++ [x.f0])
    rw [List.length_append] at this
    simp only [List.length_cons, List.length_nil] at this ⊢
    split <;> omega
theorem ev_same (u : List Int) (hu : u.length ≤ 5000) : ∀ (d i : Nat), i + d = u.length → Ev (fun k => wagtaillaw28_QuotaNeeded.l0 k u u (i : Int)) true
  | 0, i, hd => by
    refine Ev.step (f := fun k => some true) (fun k => ?_) (Ev.now _)
    simp only [wagtaillaw28_QuotaNeeded.l0]
    rw [if_neg (by omega)]
    rfl
  | d + 1, i, hd => by
    have e1 : wrap64 ((i : Int) + 1) = ((i + 1 : Nat) : Int) := by unfold wrap64; omega
    refine Ev.step (f := fun k => wagtaillaw28_QuotaNeeded.l0 k u u ((i + 1 : Nat) : Int)) (fun k => ?_) (ev_same u hu d (i + 1) (by omega))
    simp only [wagtaillaw28_QuotaNeeded.l0]
    rw [if_pos (by omega), if_pos (by omega), if_pos (by omega), if_pos trivial, e1]
theorem needed_val (l : List S38) (hl : lightL l) (n b : Int) : quota_Needed.f l n b = some (neededOf l n b) := if_pos hl
theorem needed_awake (l : List S38) (n b : Int) : Ev (fun k => wagtaillaw28_QuotaNeeded.j0 k l n b true) true :=
  Ev.step (f := fun _ => some true) (fun k => rfl) (Ev.now _)
theorem needed_j0 (l : List S38) (hl : lightL l) (n b : Int) (hn : -9223372036854775808 ≤ n) (hb : -1099511627776 ≤ b) (hb2 : b ≤ 1099511627776) : Ev (fun k => wagtaillaw28_QuotaNeeded.j0 k l n b false) true := by
  have hno : neededOf l n b = [] → Ev (fun k => wagtaillaw28_QuotaNeeded.j1 k l n b (neededOf l n b) true) true := fun h => by
    rw [h]
    exact Ev.step (f := fun _ => some true) (fun k => rfl) (Ev.now _)
  refine Ev.step (f := fun k => if n < 1 then (wagtaillaw28_QuotaNeeded.j1 k l n b (neededOf l n b) true) else (if n > 3192 then (wagtaillaw28_QuotaNeeded.j1 k l n b (neededOf l n b) true) else ((wagtailref28_Fits.f k l n b).bind fun t181 => (wagtaillaw28_QuotaNeeded.j1 k l n b (neededOf l n b) t181)))) (fun k => ?_) ?_
  · simp only [wagtaillaw28_QuotaNeeded.j0]
    rw [if_neg (by decide), needed_val l hl n b, Option.bind_some]
  by_cases h1 : n < 1
  · refine Ev.congr (fun k => if_pos h1) (hno ?_)
    have hm : mayE l n b = 3 := if_pos (.inl h1)
    unfold neededOf
    rw [hm]
    rfl
  by_cases h2 : n > 3192
  · refine Ev.congr (f := fun k => wagtaillaw28_QuotaNeeded.j1 k l n b (neededOf l n b) true) (fun k => by rw [if_neg h1, if_pos h2]) (hno ?_)
    have hm : mayE l n b = 3 := if_pos (.inr h2)
    unfold neededOf
    rw [hm]
    rfl
  refine Ev.congr (f := fun k => (wagtailref28_Fits.f k l n b).bind fun t181 => (wagtaillaw28_QuotaNeeded.j1 k l n b (neededOf l n b) t181)) (fun k => by rw [if_neg h1, if_neg h2]) ?_
  refine Ev.bind (ev_fits l hl n b (by omega)) ?_
  have hm := may_fits l hl n b (by omega) (by omega) hb hb2
  cases hf : fitsE l n b with
  | true =>
    refine hno ?_
    unfold neededOf
    rw [hm, hf]
    rfl
  | false =>
    have hv : neededOf l n b = goF n b (ssort ltS l) [] := by
      unfold neededOf
      rw [hm, hf, if_pos (by decide)]
      exact goN_goF n b (by omega) (by omega) hb hb2 _ _ (lightL_sub hl (fun y hy => ((ssort_stable ltS_ord l).2.1 y).1 hy) (by rw [ssort_length]; exact Nat.le_refl _)) (by rw [fits_ssort]; exact hf)
    refine Ev.step (f := fun k => (wagtailref28_Needed.f k l n b).bind fun t183 => (if ((neededOf l n b).length : Int) = (t183.length : Int) then (wagtaillaw28_QuotaNeeded.l0 k (neededOf l n b) t183 0) else (some false))) (fun k => rfl) ?_
    refine Ev.bind (ev_ref n b (by omega) (by omega) l.length l [] rfl hl.1 (by simpa using hl.1) hl) ?_
    rw [hv]
    refine Ev.congr (fun k => if_pos rfl) (ev_same _ ?_ _ 0 (Nat.zero_add _))
    have := goF_len n b (ssort ltS l) []
    rw [ssort_length] at this
    have := hl.1
    simp only [List.length_nil] at *
    omega
theorem QuotaNeeded : wagtaillaw28_QuotaNeeded.Pure := by
  intro l n b hl hn hb
  refine Ev.rounds ?_
  have hn' := bounds_i64 hn
  refine Ev.bind (ev_lightF l) ?_
  cases hlb : lightB l with
  | false => exact Ev.congr (f := fun k => wagtaillaw28_QuotaNeeded.j0 k l n b true) (fun k => rfl) (needed_awake l n b)
  | true =>
    obtain ⟨hl1, _⟩ := light_of hlb hl.2
    refine Ev.congr (f := fun k => if b > 1099511627776 then (wagtaillaw28_QuotaNeeded.j0 k l n b true) else (wagtaillaw28_QuotaNeeded.j0 k l n b (decide (b < (-1099511627776))))) (fun k => if_pos rfl) ?_
    by_cases h1 : b > 1099511627776
    · exact Ev.congr (fun k => if_pos h1) (needed_awake l n b)
    · by_cases h2 : b < -1099511627776
      · exact Ev.congr (f := fun k => wagtaillaw28_QuotaNeeded.j0 k l n b true) (fun k => by rw [if_neg h1, decide_eq_true h2]) (needed_awake l n b)
      · exact Ev.congr (f := fun k => wagtaillaw28_QuotaNeeded.j0 k l n b false) (fun k => by rw [if_neg h1, decide_eq_false h2]) (needed_j0 l hl1 n b hn'.1 (by omega) (by omega))
end Go.Proofs.Ytndhjjlicfoiaaa.Pure
