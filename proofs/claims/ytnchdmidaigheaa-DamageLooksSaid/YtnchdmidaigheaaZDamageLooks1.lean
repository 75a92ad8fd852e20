/- Parts of the proof of the statement DamageLooks, laid together (2 of 8). -/
import Derived.Test.YtnchdmidaigheaaZDamageLooks0
namespace Go.Proofs.Ytnchdmidaigheaa.SS
set_option linter.unusedVariables false
variable {α : Type}
structure Ord (lt : α → α → Bool) : Prop where
  asym : ∀ x y, lt x y = true → lt y x = false
  trans : ∀ x y z, lt y x = false → lt z y = false → lt z x = false
theorem Ord.irrefl {lt : α → α → Bool} (h : Ord lt) (x : α) : lt x x = false := by
  cases hx : lt x x with
  | false => rfl
  | true => rw [h.asym x x hx] at hx; cases hx
theorem Ord.le_lt {lt : α → α → Bool} (h : Ord lt) {x y z : α} (h1 : lt y x = false) (h2 : lt y z = true) : lt x z = true := by
  cases hx : lt x z with
  | true => rfl
  | false => rw [h.trans z x y hx h1] at h2; cases h2
theorem Ord.lt_le {lt : α → α → Bool} (h : Ord lt) {x y z : α} (h1 : lt x y = true) (h2 : lt z y = false) : lt x z = true := by
  cases hx : lt x z with
  | true => rfl
  | false => rw [h.trans y z x h2 hx] at h1; cases h1
def eqv (lt : α → α → Bool) (z x : α) : Bool := !lt z x && !lt x z
theorem eqv_of {lt : α → α → Bool} {z x : α} (h1 : lt z x = false) (h2 : lt x z = false) : eqv lt z x = true := by simp [eqv, h1, h2]
theorem of_eqv {lt : α → α → Bool} {z x : α} (h : eqv lt z x = true) : lt z x = false ∧ lt x z = false := by
  unfold eqv at h
  simp only [Bool.and_eq_true, Bool.not_eq_true'] at h
  exact h
def Sorted (lt : α → α → Bool) (l : List α) : Prop := l.Pairwise fun x y => lt y x = false
def mrg (lt : α → α → Bool) : List α → List α → List α
  | [], ys => ys
  | x :: xs, ys => go x xs (mrg lt xs) ys
where
  go (x : α) (xs : List α) (rest : List α → List α) : List α → List α
    | [] => x :: xs
    | y :: ys => if lt y x = true then y :: go x xs rest ys else x :: rest (y :: ys)
theorem mrg_nil (lt : α → α → Bool) (ys : List α) : mrg lt [] ys = ys := by simp [mrg]
theorem mrg_nil_right (lt : α → α → Bool) (xs : List α) : mrg lt xs [] = xs := by cases xs <;> simp [mrg, mrg.go]
theorem mrg_cons (lt : α → α → Bool) (x y : α) (xs ys : List α) : mrg lt (x :: xs) (y :: ys) = if lt y x = true then y :: mrg lt (x :: xs) ys else x :: mrg lt xs (y :: ys) := by
  simp only [mrg, mrg.go]
theorem mem_mrg {lt : α → α → Bool} {z : α} : ∀ (xs ys : List α), z ∈ mrg lt xs ys ↔ z ∈ xs ∨ z ∈ ys
  | [], ys => by simp [mrg_nil]
  | x :: xs, [] => by simp [mrg_nil_right]
  | x :: xs, y :: ys => by
    rw [mrg_cons]
    split
    · rw [List.mem_cons, mem_mrg (x :: xs) ys]
      simp only [List.mem_cons]
      constructor
      · rintro (h | h | h)
        · exact .inr (.inl h)
        · exact .inl h
        · exact .inr (.inr h)
      · rintro (h | h | h)
        · exact .inr (.inl h)
        · exact .inl h
        · exact .inr (.inr h)
    · rw [List.mem_cons, mem_mrg xs (y :: ys)]
      simp only [List.mem_cons]
      constructor
      · rintro (h | h | h)
        · exact .inl (.inl h)
        · exact .inl (.inr h)
        · exact .inr h
      · rintro ((h | h) | h)
        · exact .inl h
        · exact .inr (.inl h)
        · exact .inr (.inr h)
termination_by xs ys => xs.length + ys.length
theorem mrg_length (lt : α → α → Bool) : ∀ (xs ys : List α), (mrg lt xs ys).length = xs.length + ys.length
  | [], ys => by simp [mrg_nil]
  | x :: xs, [] => by simp [mrg_nil_right]
  | x :: xs, y :: ys => by
    rw [mrg_cons]
    split
    · rw [List.length_cons, mrg_length lt (x :: xs) ys]; simp only [List.length_cons]; omega
    · rw [List.length_cons, mrg_length lt xs (y :: ys)]; simp only [List.length_cons]; omega
termination_by xs ys => xs.length + ys.length
theorem mrg_sorted {lt : α → α → Bool} (h : Ord lt) : ∀ (xs ys : List α), Sorted lt xs → Sorted lt ys → Sorted lt (mrg lt xs ys)
  | [], ys, _, hy => by rw [mrg_nil]; exact hy
  | x :: xs, [], hx, _ => by rw [mrg_nil_right]; exact hx
  | x :: xs, y :: ys, hx, hy => by
    have hx' := List.pairwise_cons.1 hx
    have hy' := List.pairwise_cons.1 hy
    rw [mrg_cons]
    split
    · rename_i hlt
      refine List.pairwise_cons.2 ⟨fun z hz => ?_, mrg_sorted h (x :: xs) ys hx hy'.2⟩
      rcases (mem_mrg _ _).1 hz with hz | hz
      · rcases List.mem_cons.1 hz with rfl | hz
        · exact h.asym _ _ hlt
        · exact h.trans y x z (h.asym _ _ hlt) (hx'.1 z hz)
      · exact hy'.1 z hz
    · rename_i hlt
      have hlt : lt y x = false := by simpa using hlt
      refine List.pairwise_cons.2 ⟨fun z hz => ?_, mrg_sorted h xs (y :: ys) hx'.2 hy⟩
      rcases (mem_mrg _ _).1 hz with hz | hz
      · exact hx'.1 z hz
      · rcases List.mem_cons.1 hz with rfl | hz
        · exact hlt
        · exact h.trans x y z hlt (hy'.1 z hz)
termination_by xs ys => xs.length + ys.length
theorem mrg_filter {lt : α → α → Bool} (h : Ord lt) (z : α) : ∀ (xs ys : List α), Sorted lt xs → (mrg lt xs ys).filter (eqv lt z) = xs.filter (eqv lt z) ++ ys.filter (eqv lt z)
  | [], ys, _ => by simp [mrg_nil]
  | x :: xs, [], _ => by simp [mrg_nil_right]
  | x :: xs, y :: ys, hx => by
    have hx' := List.pairwise_cons.1 hx
    rw [mrg_cons]
    split
    · rename_i hlt
      rw [List.filter_cons, mrg_filter h z (x :: xs) ys hx]
      by_cases hz : eqv lt z y = true
      · rw [if_pos hz]
        have hn : (x :: xs).filter (eqv lt z) = [] := by
          refine List.filter_eq_nil_iff.2 (fun u hu hue => ?_)
          have h1 := of_eqv hz
          have h2 := of_eqv hue
          have hyu : lt y u = true := by
            rcases List.mem_cons.1 hu with rfl | hu
            · exact hlt
            · exact h.lt_le hlt (hx'.1 u hu)
          have := h.trans u z y h2.1 h1.2
          rw [this] at hyu
          cases hyu
        rw [hn, List.filter_cons, if_pos hz]
        rfl
      · rw [if_neg hz]
        conv => rhs; rw [List.filter_cons (x := y), if_neg hz]
    · rw [List.filter_cons, mrg_filter h z xs (y :: ys) hx'.2]
      by_cases hz : eqv lt z x = true
      · rw [if_pos hz, List.filter_cons (x := x), if_pos hz]
        rfl
      · rw [if_neg hz, List.filter_cons (x := x), if_neg hz]
termination_by xs ys => xs.length + ys.length
theorem mrg_split {lt : α → α → Bool} : ∀ (a1 a2 b1 b2 : List α), (∀ x ∈ a1, ∀ y ∈ b2, lt y x = false) → (∀ y ∈ b1, ∀ x ∈ a2, lt y x = true) → mrg lt (a1 ++ a2) (b1 ++ b2) = mrg lt a1 b1 ++ mrg lt a2 b2
  | [], a2, [], b2, _, _ => by simp [mrg_nil]
  | [], [], y :: b1, b2, _, _ => by simp [mrg_nil]
  | [], x :: a2, y :: b1, b2, h1, h2 => by
    have ih := mrg_split [] (x :: a2) b1 b2 h1 (fun u hu => h2 u (List.mem_cons_of_mem _ hu))
    simp only [List.nil_append, mrg_nil] at ih ⊢
    rw [List.cons_append, mrg_cons, if_pos (h2 y (List.mem_cons_self ..) x (List.mem_cons_self ..)), ih]
    rfl
  | x :: a1, a2, [], [], _, _ => by simp [mrg_nil_right]
  | x :: a1, a2, [], y :: b2, h1, h2 => by
    have ih := mrg_split a1 a2 [] (y :: b2) (fun u hu => h1 u (List.mem_cons_of_mem _ hu)) h2
    simp only [List.nil_append, mrg_nil_right] at ih ⊢
    rw [List.cons_append, mrg_cons, if_neg (by rw [h1 x (List.mem_cons_self ..) y (List.mem_cons_self ..)]; decide), ih]
    rfl
  | x :: a1, a2, y :: b1, b2, h1, h2 => by
    rw [List.cons_append, List.cons_append, mrg_cons, mrg_cons]
    split
    · have ih := mrg_split (x :: a1) a2 b1 b2 h1 (fun u hu => h2 u (List.mem_cons_of_mem _ hu))
      rw [List.cons_append] at ih
      rw [ih]
      rfl
    · have ih := mrg_split a1 a2 (y :: b1) b2 (fun u hu => h1 u (List.mem_cons_of_mem _ hu)) h2
      rw [List.cons_append] at ih
      rw [ih]
      rfl
termination_by a1 a2 b1 b2 => a1.length + b1.length
def StableOf (lt : α → α → Bool) (l out : List α) : Prop := Sorted lt out ∧ (∀ z, z ∈ out ↔ z ∈ l) ∧ ∀ z, out.filter (eqv lt z) = l.filter (eqv lt z)
theorem StableOf.mrg {lt : α → α → Bool} (h : Ord lt) {a b sa sb : List α} (ha : StableOf lt a sa) (hb : StableOf lt b sb) : StableOf lt (a ++ b) (mrg lt sa sb) := by
  refine ⟨mrg_sorted h sa sb ha.1 hb.1, fun z => ?_, fun z => ?_⟩
  · rw [mem_mrg, ha.2.1, hb.2.1, List.mem_append]
  · rw [mrg_filter h z sa sb ha.1, ha.2.2, hb.2.2, List.filter_append]
theorem Sorted.eq {lt : α → α → Bool} (h : Ord lt) : ∀ (u v : List α), Sorted lt u → Sorted lt v → (∀ z, u.filter (eqv lt z) = v.filter (eqv lt z)) → u = v
  | [], [], _, _, _ => rfl
  | [], y :: v, _, _, hf => by
    have := hf y
    rw [List.filter_cons, if_pos (eqv_of (h.irrefl y) (h.irrefl y))] at this
    cases this
  | x :: u, [], _, _, hf => by
    have := hf x
    rw [List.filter_cons, if_pos (eqv_of (h.irrefl x) (h.irrefl x))] at this
    cases this
  | x :: u, y :: v, hu, hv, hf => by
    have hu' := List.pairwise_cons.1 hu
    have hv' := List.pairwise_cons.1 hv
    have hx : x ∈ y :: v := by
      have := hf x
      rw [List.filter_cons, if_pos (eqv_of (h.irrefl x) (h.irrefl x))] at this
      have hm : x ∈ (y :: v).filter (eqv lt x) := by rw [← this]; exact List.mem_cons_self ..
      exact (List.mem_filter.1 hm).1
    have hy : y ∈ x :: u := by
      have := hf y
      rw [List.filter_cons (x := y), if_pos (eqv_of (h.irrefl y) (h.irrefl y))] at this
      have hm : y ∈ (x :: u).filter (eqv lt y) := by rw [this]; exact List.mem_cons_self ..
      exact (List.mem_filter.1 hm).1
    have hxy : lt x y = false := by
      rcases List.mem_cons.1 hx with rfl | hx
      · exact h.irrefl _
      · exact hv'.1 x hx
    have hyx : lt y x = false := by
      rcases List.mem_cons.1 hy with rfl | hy
      · exact h.irrefl _
      · exact hu'.1 y hy
    have h1 := hf x
    rw [List.filter_cons, if_pos (eqv_of (h.irrefl x) (h.irrefl x)), List.filter_cons, if_pos (eqv_of hxy hyx)] at h1
    have hxe : x = y := by injection h1
    subst hxe
    rw [Sorted.eq h u v hu'.2 hv'.2 (fun z => ?_)]
    have h2 := hf z
    rw [List.filter_cons, List.filter_cons] at h2
    split at h2
    · injection h2
    · exact h2
theorem StableOf.eq {lt : α → α → Bool} (h : Ord lt) {l u v : List α} (hu : StableOf lt l u) (hv : StableOf lt l v) : u = v :=
  Sorted.eq h u v hu.1 hv.1 (fun z => (hu.2.2 z).trans (hv.2.2 z).symm)
def put (lt : α → α → Bool) (x : α) : List α → List α
  | [] => [x]
  | y :: ys => if lt x y = true then x :: y :: ys else y :: put lt x ys
theorem put_mrg (lt : α → α → Bool) (x : α) : ∀ ys : List α, put lt x ys = mrg lt ys [x]
  | [] => by simp [put, mrg_nil]
  | y :: ys => by
    rw [put, mrg_cons, put_mrg lt x ys, mrg_nil_right]
theorem StableOf.put {lt : α → α → Bool} (h : Ord lt) {l s : List α} (hs : StableOf lt l s) (x : α) : StableOf lt (l ++ [x]) (put lt x s) := by
  rw [put_mrg]
  exact hs.mrg h ⟨by simp [Sorted], fun z => Iff.rfl, fun z => rfl⟩
theorem StableOf.nil (lt : α → α → Bool) : StableOf lt ([] : List α) [] := ⟨by simp [Sorted], fun z => Iff.rfl, fun z => rfl⟩
def ssort (lt : α → α → Bool) (l : List α) : List α := l.foldl (fun s x => put lt x s) []
theorem ssort_snoc (lt : α → α → Bool) (l : List α) (x : α) : ssort lt (l ++ [x]) = put lt x (ssort lt l) := by simp [ssort]
theorem ssort_stable_aux {lt : α → α → Bool} (h : Ord lt) : ∀ (n : Nat) (l : List α), l.length = n → StableOf lt l (ssort lt l)
  | 0, l, hl => by rw [List.eq_nil_of_length_eq_zero hl]; exact StableOf.nil lt
  | n + 1, l, hl => by
    have hne : l ≠ [] := by intro e; rw [e] at hl; cases hl
    rw [← List.dropLast_concat_getLast hne, ssort_snoc]
    exact (ssort_stable_aux h n _ (by rw [List.length_dropLast]; omega)).put h _
theorem ssort_stable {lt : α → α → Bool} (h : Ord lt) (l : List α) : StableOf lt l (ssort lt l) := ssort_stable_aux h l.length l rfl
theorem ssort_mrg {lt : α → α → Bool} (h : Ord lt) (a b : List α) : mrg lt (ssort lt a) (ssort lt b) = ssort lt (a ++ b) :=
  ((ssort_stable h a).mrg h (ssort_stable h b)).eq h (ssort_stable h (a ++ b))
def swp1 (d : List α) (p q : Nat) : List α := match d[p]?, d[q]? with | some x, some y => (d.set p y).set q x | _, _ => d
def swp (d : List α) (a b : Nat) : Nat → List α
  | 0 => d
  | i + 1 => swp1 (swp d a b i) (a + i) (b + i)
theorem swp1_length (d : List α) (p q : Nat) : (swp1 d p q).length = d.length := by unfold swp1; split <;> simp
theorem swp_length (d : List α) (a b : Nat) : ∀ i, (swp d a b i).length = d.length
  | 0 => rfl
  | i + 1 => by rw [swp, swp1_length, swp_length d a b i]
theorem swp1_get (d : List α) (p q k : Nat) (hp : p < d.length) (hq : q < d.length) : (swp1 d p q)[k]? = if k = q then d[p]? else if k = p then d[q]? else d[k]? := by
  unfold swp1
  rw [List.getElem?_eq_getElem hp, List.getElem?_eq_getElem hq]
  simp only [List.getElem?_set, List.length_set]
  by_cases h1 : q = k
  · subst h1
    simp [hq]
  · have h1' : ¬ k = q := fun e => h1 e.symm
    by_cases h2 : p = k
    · subst h2
      simp [hp, h1, h1']
    · have h2' : ¬ k = p := fun e => h2 e.symm
      simp [h1, h2, h1', h2']
theorem swp_get (d : List α) (a b : Nat) : ∀ (n : Nat), a + n ≤ b → b + n ≤ d.length → ∀ k, (swp d a b n)[k]? = if a ≤ k ∧ k < a + n then d[k - a + b]? else if b ≤ k ∧ k < b + n then d[k - b + a]? else d[k]?
  | 0, _, _, k => by
    rw [if_neg (by omega), if_neg (by omega)]
    rfl
  | n + 1, h1, h2, k => by
    have ih := swp_get d a b n (by omega) (by omega)
    rw [swp, swp1_get _ _ _ _ (by rw [swp_length]; omega) (by rw [swp_length]; omega), ih (a + n), ih (b + n), ih k]
    rw [if_neg (show ¬(a ≤ a + n ∧ a + n < a + n) by omega), if_neg (show ¬(b ≤ a + n ∧ a + n < b + n) by omega), if_neg (show ¬(a ≤ b + n ∧ b + n < a + n) by omega), if_neg (show ¬(b ≤ b + n ∧ b + n < b + n) by omega)]
    by_cases e1 : k = b + n
    · rw [if_pos e1, if_neg (show ¬(a ≤ k ∧ k < a + (n + 1)) by omega), if_pos (show b ≤ k ∧ k < b + (n + 1) by omega), show k - b + a = a + n by omega]
    · rw [if_neg e1]
      by_cases e2 : k = a + n
      · rw [if_pos e2, if_pos (show a ≤ k ∧ k < a + (n + 1) by omega), show k - a + b = b + n by omega]
      · rw [if_neg e2]
        by_cases e3 : a ≤ k ∧ k < a + n
        · rw [if_pos e3, if_pos (show a ≤ k ∧ k < a + (n + 1) by omega)]
        · rw [if_neg e3, if_neg (show ¬(a ≤ k ∧ k < a + (n + 1)) by omega)]
          by_cases e4 : b ≤ k ∧ k < b + n
          · rw [if_pos e4, if_pos (show b ≤ k ∧ k < b + (n + 1) by omega)]
          · rw [if_neg e4, if_neg (show ¬(b ≤ k ∧ k < b + (n + 1)) by omega)]
theorem swp_parts (P X M Y Q : List α) (h : X.length = Y.length) : swp (P ++ (X ++ (M ++ (Y ++ Q)))) P.length (P.length + X.length + M.length) X.length = P ++ (Y ++ (M ++ (X ++ Q))) := by
  refine List.ext_getElem? fun k => ?_
  rw [swp_get _ _ _ _ (by omega) (by simp only [List.length_append]; omega)]
  by_cases e1 : k < P.length
  · rw [if_neg (by omega), if_neg (by omega), List.getElem?_append_left e1, List.getElem?_append_left e1]
  · rw [List.getElem?_append_right (l₁ := P) (l₂ := Y ++ (M ++ (X ++ Q))) (by omega)]
    by_cases e2 : k < P.length + X.length
    · rw [if_pos (by omega), List.getElem?_append_left (l₁ := Y) (by omega), List.getElem?_append_right (by omega), List.getElem?_append_right (by omega), List.getElem?_append_right (by omega), List.getElem?_append_left (by omega)]
      congr 1
      omega
    · rw [if_neg (by omega), List.getElem?_append_right (l₁ := Y) (by omega)]
      by_cases e3 : k < P.length + X.length + M.length
      · rw [if_neg (by omega), List.getElem?_append_right (by omega), List.getElem?_append_right (by omega), List.getElem?_append_left (by omega), List.getElem?_append_left (by omega)]
        congr 1
        omega
      · rw [List.getElem?_append_right (l₁ := M) (by omega)]
        by_cases e4 : k < P.length + X.length + M.length + X.length
        · rw [if_pos (by omega), List.getElem?_append_left (l₁ := X) (l₂ := Q) (by omega), List.getElem?_append_right (by omega), List.getElem?_append_left (by omega)]
          congr 1
          omega
        · rw [if_neg (by omega), List.getElem?_append_right (l₁ := X) (l₂ := Q) (by omega), List.getElem?_append_right (by omega), List.getElem?_append_right (by omega), List.getElem?_append_right (by omega), List.getElem?_append_right (by omega)]
          congr 1
          omega
theorem swp1_next (P Q : List α) (x y : α) : swp1 (P ++ x :: y :: Q) P.length (P.length + 1) = P ++ y :: x :: Q := by
  have := swp_parts P [x] [] [y] Q rfl
  simpa [swp] using this
theorem swp1_comm (d : List α) (p q : Nat) (hp : p < d.length) (hq : q < d.length) : swp1 d p q = swp1 d q p := by
  refine List.ext_getElem? fun k => ?_
  rw [swp1_get d p q k hp hq, swp1_get d q p k hq hp]
  by_cases e1 : k = q
  · subst e1
    by_cases e2 : k = p
    · subst e2; simp
    · rw [if_pos rfl, if_neg e2, if_pos rfl]
  · rw [if_neg e1]
    by_cases e2 : k = p
    · rw [if_pos e2, if_pos e2]
    · rw [if_neg e2, if_neg e2, if_neg e1]
theorem put_last (lt : α → α → Bool) (x y : α) (h : lt x y = true) : ∀ A : List α, put lt x (A ++ [y]) = put lt x A ++ [y]
  | [] => by simp [put, h]
  | z :: A => by
    rw [List.cons_append, put, put, put_last lt x y h A]
    split <;> rfl
theorem put_end {lt : α → α → Bool} (ho : Ord lt) (x y : α) (h : lt x y = false) (A : List α) (hs : Sorted lt (A ++ [y])) : put lt x (A ++ [y]) = A ++ [y] ++ [x] := by
  rw [put_mrg]
  have := mrg_split (lt := lt) (A ++ [y]) [] [] [x] (fun z hz u hu => by
    rw [List.mem_singleton] at hu
    subst hu
    rcases List.mem_append.1 hz with hz | hz
    · exact ho.trans z y u ((List.pairwise_append.1 hs).2.2 z hz y (by simp)) h
    · rw [List.mem_singleton] at hz
      subst hz
      exact h) (fun z hz => by cases hz)
  simpa [mrg_nil, mrg_nil_right] using this
theorem ssort_one (lt : α → α → Bool) (x : α) : ssort lt [x] = [x] := by simp [ssort, put]
theorem ssort_length {lt : α → α → Bool} : ∀ l : List α, (ssort lt l).length = l.length := by
  have hp : ∀ (x : α) (l : List α), (put lt x l).length = l.length + 1 := by
    intro x l
    rw [put_mrg, mrg_length]
    rfl
  have hf : ∀ (l s : List α), (l.foldl (fun s x => put lt x s) s).length = s.length + l.length := by
    intro l
    induction l with
    | nil => intro s; rfl
    | cons a l ih => intro s; rw [List.foldl_cons, ih, hp, List.length_cons]; omega
  intro l
  unfold ssort
  rw [hf]
  simp
theorem ssort_take (lt : α → α → Bool) (S : List α) (k : Nat) (x : α) (h : S[k]? = some x) : ssort lt (S.take (k + 1)) = put lt x (ssort lt (S.take k)) := by
  rw [List.take_add_one, h, Option.toList_some, ssort_snoc]
theorem sorted_get {lt : α → α → Bool} (ho : Ord lt) {l : List α} (h : Sorted lt l) {i j : Nat} {x y : α} (hi : l[i]? = some x) (hj : l[j]? = some y) (hij : i ≤ j) : lt y x = false := by
  obtain ⟨hi1, rfl⟩ := List.getElem?_eq_some_iff.1 hi
  obtain ⟨hj1, rfl⟩ := List.getElem?_eq_some_iff.1 hj
  rcases Nat.eq_or_lt_of_le hij with e | e
  · subst e
    exact ho.irrefl _
  · exact List.pairwise_iff_getElem.1 h i j hi1 hj1 e
def Bs (f : Nat → Bool) (lo hi i j : Nat) : Prop := lo ≤ i ∧ i ≤ j ∧ j ≤ hi ∧ (∀ k, lo ≤ k → k < i → f k = true) ∧ (∀ k, j ≤ k → k < hi → f k = false)
def Mono (f : Nat → Bool) (lo hi : Nat) : Prop := ∀ k h, lo ≤ k → k ≤ h → h < hi → f h = true → f k = true
theorem Bs.init (f : Nat → Bool) (lo hi : Nat) (h : lo ≤ hi) : Bs f lo hi lo hi := ⟨Nat.le_refl _, h, Nat.le_refl _, fun k h1 h2 => by omega, fun k h1 h2 => by omega⟩
theorem Bs.up {f : Nat → Bool} {lo hi i j c : Nat} (hm : Mono f lo hi) (h : Bs f lo hi i j) (h1 : i ≤ c) (h2 : c < j) (hf : f c = true) : Bs f lo hi (c + 1) j := by
  obtain ⟨a1, a2, a3, a4, a5⟩ := h
  exact ⟨by omega, by omega, a3, fun k k1 k2 => hm k c k1 (by omega) (by omega) hf, a5⟩
theorem Bs.down {f : Nat → Bool} {lo hi i j c : Nat} (hm : Mono f lo hi) (h : Bs f lo hi i j) (h1 : i ≤ c) (h2 : c < j) (hf : f c = false) : Bs f lo hi i c := by
  obtain ⟨a1, a2, a3, a4, a5⟩ := h
  refine ⟨a1, h1, by omega, a4, fun k k1 k2 => ?_⟩
  cases hk : f k with
  | false => rfl
  | true => rw [hm c k (by omega) k1 k2 hk] at hf; cases hf
theorem mrg_one_left {lt : α → α → Bool} (x : α) (B : List α) (c : Nat) (h1 : ∀ y ∈ B.take c, lt y x = true) (h2 : ∀ y ∈ B.drop c, lt y x = false) : mrg lt [x] B = B.take c ++ (x :: B.drop c) := by
  have e1 := mrg_split (lt := lt) [] [x] (B.take c) (B.drop c) (fun z hz => by cases hz) (fun y hy z hz => by rw [List.mem_singleton] at hz; subst hz; exact h1 y hy)
  have e2 := mrg_split (lt := lt) [x] [] [] (B.drop c) (fun z hz y hy => by rw [List.mem_singleton] at hz; subst hz; exact h2 y hy) (fun y hy => by cases hy)
  rw [List.take_append_drop, List.nil_append, mrg_nil] at e1
  simp only [List.append_nil, List.nil_append, mrg_nil, mrg_nil_right] at e2
  rw [e1, e2]
  rfl
theorem mrg_one_right {lt : α → α → Bool} (x : α) (A : List α) (c : Nat) (h1 : ∀ y ∈ A.take c, lt x y = false) (h2 : ∀ y ∈ A.drop c, lt x y = true) : mrg lt A [x] = A.take c ++ (x :: A.drop c) := by
  have e1 := mrg_split (lt := lt) (A.take c) (A.drop c) [x] [] (fun z hz y hy => by cases hy) (fun y hy z hz => by rw [List.mem_singleton] at hy; subst hy; exact h2 z hz)
  have e2 := mrg_split (lt := lt) (A.take c) [] [] [x] (fun z hz y hy => by rw [List.mem_singleton] at hy; subst hy; exact h1 z hz) (fun y hy => by cases hy)
  rw [List.take_append_drop, List.append_nil, mrg_nil_right] at e1
  simp only [List.append_nil, List.nil_append, mrg_nil, mrg_nil_right] at e2
  rw [e1, e2, List.append_assoc]
  rfl
theorem shift_swp (P L Q : List α) (x : α) (t : Nat) (ht : t < L.length) : swp1 (P ++ (L.take t ++ (x :: (L.drop t ++ Q)))) (P.length + t) (P.length + t + 1) = P ++ (L.take (t + 1) ++ (x :: (L.drop (t + 1) ++ Q))) := by
  have h := swp1_next (P ++ L.take t) (L.drop (t + 1) ++ Q) x L[t]
  rw [show (P ++ L.take t).length = P.length + t by rw [List.length_append, List.length_take]; omega] at h
  rw [List.drop_eq_getElem_cons ht, List.take_add_one, List.getElem?_eq_getElem ht]
  simp only [List.append_assoc, List.cons_append, List.nil_append, Option.toList_some] at h ⊢
  exact h
theorem shift_zero (P L Q : List α) (x : α) : P ++ (L.take 0 ++ (x :: (L.drop 0 ++ Q))) = P ++ (x :: (L ++ Q)) := by simp
theorem shift_all (P L Q : List α) (x : α) : P ++ (L.take L.length ++ (x :: (L.drop L.length ++ Q))) = P ++ (L ++ (x :: Q)) := by simp
theorem get_A (P A B Q : List α) (k : Nat) (h1 : P.length ≤ k) (h2 : k < P.length + A.length) : (P ++ (A ++ (B ++ Q)))[k]? = A[k - P.length]? := by
  rw [List.getElem?_append_right h1, List.getElem?_append_left (by omega)]
theorem get_B (P A B Q : List α) (k : Nat) (h1 : P.length + A.length ≤ k) (h2 : k < P.length + A.length + B.length) : (P ++ (A ++ (B ++ Q)))[k]? = B[k - P.length - A.length]? := by
  rw [List.getElem?_append_right (by omega), List.getElem?_append_right (by omega), List.getElem?_append_left (by omega)]
def fA (lt : α → α → Bool) (d : List α) (x : α) (k : Nat) : Bool := match d[k]? with | some y => lt y x | none => false
def fB (lt : α → α → Bool) (d : List α) (x : α) (k : Nat) : Bool := match d[k]? with | some y => !lt x y | none => false
def fC (lt : α → α → Bool) (d : List α) (p c : Nat) : Bool := match d[p - c]?, d[c]? with | some y, some x => !lt y x | _, _ => false
theorem fA_at {lt : α → α → Bool} {d : List α} {x y : α} {k : Nat} (h : d[k]? = some y) : fA lt d x k = lt y x := by simp [fA, h]
theorem fB_at {lt : α → α → Bool} {d : List α} {x y : α} {k : Nat} (h : d[k]? = some y) : fB lt d x k = !lt x y := by simp [fB, h]
theorem fC_at {lt : α → α → Bool} {d : List α} {p c : Nat} {x y : α} (h : d[p - c]? = some y) (h2 : d[c]? = some x) : fC lt d p c = !lt y x := by simp [fC, h, h2]
theorem some_of (l : List α) (k : Nat) (h : k < l.length) : ∃ x, l[k]? = some x := ⟨_, List.getElem?_eq_getElem h⟩
theorem fA_mono {lt : α → α → Bool} (ho : Ord lt) (P A B Q : List α) (x : α) (hs : Sorted lt B) : Mono (fA lt (P ++ (A ++ (B ++ Q))) x) (P.length + A.length) (P.length + A.length + B.length) := by
  intro k h h1 h2 h3 hf
  obtain ⟨y, hy⟩ := some_of B (h - P.length - A.length) (by omega)
  obtain ⟨z, hz⟩ := some_of B (k - P.length - A.length) (by omega)
  rw [fA_at ((get_B P A B Q h (by omega) h3).trans hy)] at hf
  rw [fA_at ((get_B P A B Q k h1 (by omega)).trans hz)]
  exact ho.le_lt (sorted_get ho hs hz hy (by omega)) hf
theorem fB_mono {lt : α → α → Bool} (ho : Ord lt) (P A B Q : List α) (x : α) (hs : Sorted lt A) : Mono (fB lt (P ++ (A ++ (B ++ Q))) x) P.length (P.length + A.length) := by
  intro k h h1 h2 h3 hf
  obtain ⟨y, hy⟩ := some_of A (h - P.length) (by omega)
  obtain ⟨z, hz⟩ := some_of A (k - P.length) (by omega)
  rw [fB_at ((get_A P A B Q h (by omega) h3).trans hy)] at hf
  rw [fB_at ((get_A P A B Q k h1 (by omega)).trans hz)]
  have hf : lt x y = false := by simpa using hf
  simpa using ho.trans z y x (sorted_get ho hs hz hy (by omega)) hf
theorem fC_mono {lt : α → α → Bool} (ho : Ord lt) (P A B Q : List α) (p lo hi : Nat) (ha : Sorted lt A) (hb : Sorted lt B) (h1 : P.length ≤ lo) (h2 : hi ≤ P.length + A.length) (h3 : ∀ c, lo ≤ c → c < hi → c ≤ p ∧ P.length + A.length ≤ p - c ∧ p - c < P.length + A.length + B.length) : Mono (fC lt (P ++ (A ++ (B ++ Q))) p) lo hi := by
  intro k h k1 k2 k3 hf
  have e1 := h3 h (by omega) k3
  have e2 := h3 k k1 (by omega)
  obtain ⟨y, hy⟩ := some_of A (h - P.length) (by omega)
  obtain ⟨z, hz⟩ := some_of A (k - P.length) (by omega)
  obtain ⟨y', hy'⟩ := some_of B (p - h - P.length - A.length) (by omega)
  obtain ⟨z', hz'⟩ := some_of B (p - k - P.length - A.length) (by omega)
  rw [fC_at ((get_B P A B Q (p - h) (by omega) (by omega)).trans hy') ((get_A P A B Q h (by omega) (by omega)).trans hy)] at hf
  rw [fC_at ((get_B P A B Q (p - k) (by omega) (by omega)).trans hz') ((get_A P A B Q k (by omega) (by omega)).trans hz)]
  have hf : lt y' y = false := by simpa using hf
  have g1 := sorted_get ho ha hz hy (by omega)
  have g2 := sorted_get ho hb hy' hz' (by omega)
  have g3 := ho.trans z y y' g1 hf
  simpa using ho.trans z y' z' g3 g2
theorem mem_take_get {l : List α} {n : Nat} {y : α} (h : y ∈ l.take n) : ∃ k, k < n ∧ k < l.length ∧ l[k]? = some y := by
  obtain ⟨k, hk, rfl⟩ := List.getElem_of_mem h
  rw [List.length_take] at hk
  exact ⟨k, by omega, by omega, by rw [List.getElem_take, List.getElem?_eq_getElem]⟩
theorem mem_drop_get {l : List α} {n : Nat} {y : α} (h : y ∈ l.drop n) : ∃ k, n ≤ k ∧ k < l.length ∧ l[k]? = some y := by
  obtain ⟨k, hk, rfl⟩ := List.getElem_of_mem h
  rw [List.length_drop] at hk
  exact ⟨n + k, by omega, by omega, by rw [List.getElem_drop, List.getElem?_eq_getElem]⟩
theorem one_left_end {lt : α → α → Bool} (P B Q : List α) (x : α) (c : Nat) (h : Bs (fA lt (P ++ ([x] ++ (B ++ Q))) x) (P.length + 1) (P.length + 1 + B.length) c c) :
    P ++ (B.take (c - (P.length + 1)) ++ (x :: (B.drop (c - (P.length + 1)) ++ Q))) = P ++ (mrg lt [x] B ++ Q) := by
  obtain ⟨h1, _, h2, h3, h4⟩ := h
  rw [mrg_one_left x B (c - (P.length + 1)) ?_ ?_]
  · simp only [List.append_assoc, List.cons_append]
  · intro y hy
    obtain ⟨k, k1, k2, hk⟩ := mem_take_get hy
    have := h3 (P.length + 1 + k) (by omega) (by omega)
    rw [fA_at (y := y) (by rw [get_B P [x] B Q _ (by simp) (by simp; omega), ← hk]; congr 1; simp; omega)] at this
    exact this
  · intro y hy
    obtain ⟨k, k1, k2, hk⟩ := mem_drop_get hy
    have := h4 (P.length + 1 + k) (by omega) (by omega)
    rw [fA_at (y := y) (by rw [get_B P [x] B Q _ (by simp) (by simp; omega), ← hk]; congr 1; simp; omega)] at this
    exact this
theorem one_right_end {lt : α → α → Bool} (P A Q : List α) (x : α) (c : Nat) (h : Bs (fB lt (P ++ (A ++ ([x] ++ Q))) x) P.length (P.length + A.length) c c) :
    P ++ (A.take (c - P.length) ++ (x :: (A.drop (c - P.length) ++ Q))) = P ++ (mrg lt A [x] ++ Q) := by
  obtain ⟨h1, _, h2, h3, h4⟩ := h
  rw [mrg_one_right x A (c - P.length) ?_ ?_]
  · simp only [List.append_assoc, List.cons_append]
  · intro y hy
    obtain ⟨k, k1, k2, hk⟩ := mem_take_get hy
    have := h3 (P.length + k) (by omega) (by omega)
    rw [fB_at (y := y) (by rw [get_A P A [x] Q _ (by omega) (by omega), ← hk]; congr 1; omega)] at this
    simpa using this
  · intro y hy
    obtain ⟨k, k1, k2, hk⟩ := mem_drop_get hy
    have := h4 (P.length + k) (by omega) (by omega)
    rw [fB_at (y := y) (by rw [get_A P A [x] Q _ (by omega) (by omega), ← hk]; congr 1; omega)] at this
    simpa using this
theorem sym_end {lt : α → α → Bool} (ho : Ord lt) (P A B Q : List α) (ha : Sorted lt A) (hb : Sorted lt B) (ia im ib mid lo hi s e : Nat) (hia : ia = P.length) (him : im = ia + A.length) (hib : ib = im + B.length) (hA : 1 ≤ A.length) (hB : 1 ≤ B.length) (hmid : mid = (ia + ib) / 2)
    (hlo : mid < im ∧ lo = mid + im - ib ∧ hi = mid ∨ im ≤ mid ∧ lo = ia ∧ hi = im) (h : Bs (fC lt (P ++ (A ++ (B ++ Q))) (mid + im - 1)) lo hi s s) (he : e = mid + im - s) :
    mrg lt A B = mrg lt (A.take (s - ia)) (B.take (e - im)) ++ mrg lt (A.drop (s - ia)) (B.drop (e - im)) ∧ ia ≤ s ∧ s ≤ im ∧ s ≤ mid ∧ im ≤ e ∧ e ≤ ib := by
  obtain ⟨h1, _, h2, h3, h4⟩ := h
  have hbd : ia ≤ s ∧ s ≤ im ∧ s ≤ mid ∧ im ≤ e ∧ e ≤ ib := by omega
  refine ⟨?_, hbd⟩
  have := mrg_split (lt := lt) (A.take (s - ia)) (A.drop (s - ia)) (B.take (e - im)) (B.drop (e - im)) ?_ ?_
  · rw [List.take_append_drop, List.take_append_drop] at this
    exact this
  · intro x hx y hy
    obtain ⟨i, i1, i2, hi'⟩ := mem_take_get hx
    obtain ⟨j, j1, j2, hj'⟩ := mem_drop_get hy
    have f1 := h3 (s - 1) (by omega) (by omega)
    obtain ⟨u, hu⟩ := some_of A (s - 1 - ia) (by omega)
    obtain ⟨v, hv⟩ := some_of B (e - im) (by omega)
    rw [fC_at (y := v) (x := u) (by rw [get_B P A B Q _ (by omega) (by omega), ← hv]; congr 1; omega) (by rw [get_A P A B Q _ (by omega) (by omega), ← hu]; congr 1; omega)] at f1
    have f1 : lt v u = false := by simpa using f1
    have g1 := sorted_get ho ha hi' hu (by omega)
    have g2 := sorted_get ho hb hv hj' (by omega)
    exact ho.trans x v y (ho.trans x u v g1 f1) g2
  · intro y hy x hx
    obtain ⟨i, i1, i2, hi'⟩ := mem_drop_get hx
    obtain ⟨j, j1, j2, hj'⟩ := mem_take_get hy
    have f1 := h4 s (by omega) (by omega)
    obtain ⟨u, hu⟩ := some_of A (s - ia) (by omega)
    obtain ⟨v, hv⟩ := some_of B (e - im - 1) (by omega)
    rw [fC_at (y := v) (x := u) (by rw [get_B P A B Q _ (by omega) (by omega), ← hv]; congr 1; omega) (by rw [get_A P A B Q _ (by omega) (by omega), ← hu]; congr 1; omega)] at f1
    have f1 : lt v u = true := by simpa using f1
    have g1 := sorted_get ho ha hu hi' (by omega)
    have g2 := sorted_get ho hb hj' hv (by omega)
    exact ho.lt_le (ho.le_lt g2 f1) g1
theorem shift_back (P L Q : List α) (x : α) (t : Nat) (ht : t < L.length) : swp1 (P ++ (L.take (t + 1) ++ (x :: (L.drop (t + 1) ++ Q)))) (P.length + t) (P.length + t + 1) = P ++ (L.take t ++ (x :: (L.drop t ++ Q))) := by
  have h := swp1_next (P ++ L.take t) (L.drop (t + 1) ++ Q) L[t] x
  rw [show (P ++ L.take t).length = P.length + t by rw [List.length_append, List.length_take]; omega] at h
  rw [List.drop_eq_getElem_cons ht, List.take_add_one, List.getElem?_eq_getElem ht]
  simp only [List.append_assoc, List.cons_append, List.nil_append, Option.toList_some] at h ⊢
  exact h
theorem shift_at (P L Q : List α) (x : α) (t : Nat) (ht : t ≤ L.length) : (P ++ (L.take t ++ (x :: (L.drop t ++ Q))))[P.length + t]? = some x := by
  rw [List.getElem?_append_right (by omega), List.getElem?_append_right (by rw [List.length_take]; omega), List.length_take, show P.length + t - P.length - min t L.length = 0 by omega]
  rfl
theorem shift_above (P L Q : List α) (x : α) (t : Nat) (ht : t < L.length) : (P ++ (L.take t ++ (x :: (L.drop t ++ Q))))[P.length + t + 1]? = L[t]? := by
  rw [List.getElem?_append_right (by omega), List.getElem?_append_right (by rw [List.length_take]; omega), List.length_take, show P.length + t + 1 - P.length - min t L.length = 1 by omega, List.drop_eq_getElem_cons ht, List.getElem?_eq_getElem ht]
  rfl
theorem shift_below (P L Q : List α) (x : α) (t : Nat) (ht : t < L.length) : (P ++ (L.take (t + 1) ++ (x :: (L.drop (t + 1) ++ Q))))[P.length + t]? = L[t]? := by
  rw [List.getElem?_append_right (by omega), List.getElem?_append_left (by rw [List.length_take]; omega), show P.length + t - P.length = t by omega, List.getElem?_take_of_lt (by omega)]
theorem shift_length (P L Q : List α) (x : α) (t : Nat) : (P ++ (L.take t ++ (x :: (L.drop t ++ Q)))).length = P.length + (L.length + (1 + Q.length)) := by
  simp only [List.length_append, List.length_cons, List.length_take, List.length_drop]
  omega
def srtN (lt : α → α → Bool) (bs : Nat) : Nat → List α → List α
  | 0, d => ssort lt d
  | k + 1, d => if d.length ≤ bs then ssort lt d else ssort lt (d.take bs) ++ srtN lt bs k (d.drop bs)
def srt (lt : α → α → Bool) (bs : Nat) (d : List α) : List α := srtN lt bs d.length d
theorem ssort_nil (lt : α → α → Bool) : ssort lt ([] : List α) = [] := rfl
theorem srtN_short (lt : α → α → Bool) (bs : Nat) (k : Nat) (d : List α) (h : d.length ≤ bs) : srtN lt bs k d = ssort lt d := by
  cases k with
  | zero => rfl
  | succ k => rw [srtN, if_pos h]
theorem srtN_more (lt : α → α → Bool) (bs : Nat) (hb : 0 < bs) : ∀ (k m : Nat) (d : List α), d.length ≤ k → d.length ≤ m → srtN lt bs k d = srtN lt bs m d
  | 0, m, d, h1, _ => by rw [srtN_short lt bs m d (by omega)]; rfl
  | k + 1, 0, d, _, h2 => by rw [srtN_short lt bs (k + 1) d (by omega)]; rfl
  | k + 1, m + 1, d, h1, h2 => by
    rw [srtN, srtN]
    split
    · rfl
    · rw [srtN_more lt bs hb k m _ (by rw [List.length_drop]; omega) (by rw [List.length_drop]; omega)]
theorem srt_short (lt : α → α → Bool) (bs : Nat) (d : List α) (h : d.length ≤ bs) : srt lt bs d = ssort lt d := srtN_short lt bs _ d h
theorem srt_step (lt : α → α → Bool) (bs : Nat) (hb : 0 < bs) (d : List α) (h : bs ≤ d.length) : srt lt bs d = ssort lt (d.take bs) ++ srt lt bs (d.drop bs) := by
  rcases Nat.eq_or_lt_of_le h with e | e
  · rw [srt_short lt bs d (by omega), srt_short lt bs _ (by rw [List.length_drop]; omega), e, List.take_length, List.drop_length, ssort_nil, List.append_nil]
  · unfold srt
    obtain ⟨k, hk⟩ : ∃ k, d.length = k + 1 := ⟨d.length - 1, by omega⟩
    rw [hk, srtN, if_neg (by omega), srtN_more lt bs hb k _ _ (by rw [List.length_drop]; omega) (Nat.le_refl _)]
theorem srt_length (lt : α → α → Bool) (bs : Nat) (d : List α) : (srt lt bs d).length = d.length := by
  have : ∀ (k : Nat) (d : List α), (srtN lt bs k d).length = d.length := by
    intro k
    induction k with
    | zero => intro d; exact ssort_length d
    | succ k ih =>
      intro d
      rw [srtN]
      split
      · exact ssort_length d
      · rw [List.length_append, ssort_length, ih, List.length_take, List.length_drop]; omega
  exact this _ d
theorem srt_two (lt : α → α → Bool) (bs : Nat) (hb : 0 < bs) (d : List α) (h : 2 * bs ≤ d.length) : srt lt bs d = ssort lt (d.take bs) ++ (ssort lt ((d.drop bs).take bs) ++ srt lt bs (d.drop (2 * bs))) := by
  rw [srt_step lt bs hb d (by omega), srt_step lt bs hb (d.drop bs) (by rw [List.length_drop]; omega), List.drop_drop, show bs + bs = 2 * bs by omega]
theorem take_two (bs : Nat) (d : List α) : d.take bs ++ (d.drop bs).take bs = d.take (2 * bs) := by
  rw [show 2 * bs = bs + bs by omega, List.take_add]
end Go.Proofs.Ytnchdmidaigheaa.SS
namespace Go.Proofs.Ytnchdmidaigheaa.QS
set_option linter.unusedVariables false
set_option linter.unusedSimpArgs false
open Go.RowKit Go.Proofs.Ytnchdmidaigheaa.SS Go.Proofs.Ytnchdmidaigheaa.Hp Go.Proofs.YtnchdmidaigheaaW.PrintWords Go.Proofs.YtnchdmidaigheaaW.PrintLast Go.Proofs.YtnchdmidaigheaaW.PrintMore
attribute [local go_sem] max2_int min2_int max_two min_two max_three min_three max_four min_four
def swap.T3 : Bool × List (List Nat × List Nat) := (true, [([], []), ([], []), ([], []), ([1, 2], [1, 2]), ([], []), ([], []), ([], []), ([5, 6], [5, 6]), ([], []), ([], []), ([], []), ([9, 10], [9, 10]), ([8, 11], [8, 11]), ([12], [12]), ([], []), ([], []), ([], []), ([15, 16], [15, 16]), ([14, 17], [14, 17]), ([18], [18]), ([0, 3, 0, 1, 2, 3, 8, 9, 10, 11, 12, 13, 19], [0, 3]), ([20, 13, 0, 1, 2, 3, 8, 9, 10, 11, 12, 13, 19], [13, 20]), ([4, 7, 0, 1, 2, 3, 4, 5, 6, 7, 8, 9, 10, 11, 12, 13, 14, 15, 16, 17, 18, 19, 20, 21], [4, 7]), ([22, 19, 21, 0, 1, 2, 3, 4, 5, 6, 7, 8, 9, 10, 11, 12, 13, 14, 15, 16, 17, 18, 19, 20, 21], [19, 22])])
def swap.B3 : List Nat := [0, 0, 0, 6, 0, 0, 0, 96, 0, 0, 0, 1536, 3840, 7936, 0, 0, 0, 98304, 245760, 507904, 1048335, 2096911, 4194303, 8388607]
theorem swap.tab3 : rtab .any (opsOf Try.f131 3) = swap.T3 := by kernel_rfl
theorem swap.bits3 : waitsOk swap.T3.2 swap.B3 = true := by kernel_rfl
set_option maxHeartbeats 4000000 in
set_option maxRecDepth 100000 in
theorem swap_calls (N : Nat) (w0 : World) (g : Nat) (hg : N ≤ g) (cp : Nat) (fv : Value) (ia ib m n : Nat) (d : List Rec) (hn : d.length = n) (hn2 : n ≤ 1000000) (hm : ia + m ≤ ib) (hb : ib + m ≤ n) (w : World) (hB : Kp g w0 w) (hR : RowB w g d) :
    Calls Try.prog 131 #[.slice (some ⟨g, 0, none⟩) n cp, .int .i64 (ia : Int), .int .i64 (ib : Int), .int .i64 (m : Int), fv] w fun e w' => e = .returned (.tuple #[]) ∧ Kp g w0 w' ∧ RowB w' g (swp d ia ib m) := by
  have HG := Aside0.mk hg
  have HN := Aside0.mk hn
  have HM := Aside0.mk (And.intro hn2 (And.intro hm hb))
  replace hB := Aside0.mk hB
  replace hR := Aside0.mk hR
  clear hg hn hn2 hm hb
  go_enter Try.func131, Try.ntmps131
  go_wp2_with fail
  go_loopg [10] (m + 1) (fun kq v10 w' => ∃ i : Nat, v10 = .int .i64 (i : Int) ∧ Aside0 (RowB w' g (swp d ia ib i)) ∧ Aside0 (Kp g w0 w') ∧ Aside0 (i ≤ m) ∧ Aside0 (kq + i = m + 1))
  case atStart => exact ⟨0, rfl, hR, hB, ⟨by omega⟩, ⟨by omega⟩⟩
  case round =>
    clear hR hB
    obtain ⟨i, rfl, RR, BB, HI, HQ⟩ := hrel
    by_cases hi : i < m
    case neg =>
      have hie : i = m := by have := HI.out; omega
      subst hie
      have t1 : decide ((i : Int) < (i : Int)) = false := decide_eq_false (by omega)
      clear hi
      go_wp2_with fail
      go_end0
      exact ⟨rfl, BB.out, RR.out⟩
    case pos =>
      have t1 : decide (i < m) = true := decide_eq_true hi
      have HI2 := Aside0.mk hi
      clear hi
      go_upto_region 3 with fail
      obtain ⟨dd, hdd⟩ : ∃ dd, dd = swp d ia ib i := ⟨_, rfl⟩
      obtain ⟨p, hp⟩ : ∃ p, p = ia + i := ⟨_, rfl⟩
      obtain ⟨q, hq⟩ : ∃ q, q = ib + i := ⟨_, rfl⟩
      have hl : dd.length = n := by rw [hdd, swp_length]; exact HN.out
      have hpq : p < q ∧ q < n := by have := HM.out; have := HI2.out; omega
      obtain ⟨x, hx⟩ : ∃ x, dd[p]? = some x := ⟨_, List.getElem?_eq_getElem (by omega)⟩
      obtain ⟨y, hy⟩ : ∃ y, dd[q]? = some y := ⟨_, List.getElem?_eq_getElem (by omega)⟩
      have HX_p := Aside0.mk hx
      have HX_q := Aside0.mk hy
      have HX2 : Aside0 ((dd.set p y)[q]? = some y) := ⟨by rw [List.getElem?_set_ne (by omega)]; exact hy⟩
      have LO_p := Aside0.mk (eq_true (show (0 : Int) ≤ (p : Int) by omega))
      have LO_q := Aside0.mk (eq_true (show (0 : Int) ≤ (q : Int) by omega))
      have HI_p := Aside0.mk (eq_true (show (p : Int) < (n : Int) by omega))
      have HI_q := Aside0.mk (eq_true (show (q : Int) < (n : Int) by omega))
      have HWp : Aside0 (IntKind.i64.wrap ((ia : Int) + (i : Int)) = (p : Int)) := ⟨by rw [i64_w]; unfold wrap64; have := HM.out; omega⟩
      have HWq : Aside0 (IntKind.i64.wrap ((ib : Int) + (i : Int)) = (q : Int)) := ⟨by rw [i64_w]; unfold wrap64; have := HM.out; omega⟩
      have HF : Aside0 ((dd.set p y).set q x = swp d ia ib (i + 1)) := ⟨by rw [swp, swp1, ← hdd, ← hp, ← hq, hx, hy]⟩
      have B0 := Aside0.mk (kp_drew BB.out)
      have R0 := Aside0.mk (RowB.below RR.out (below_drew1 (Below.refl wr.heap.size wr)))
      rw [← hdd] at R0
      clear hx hy hl hp hq hpq hdd t1 RR BB
      refine start_ (n := 24) (S := fun w' => True) (ds := []) #[false, false, false, false, false, false, false, false, false, false, false, false, false, false, false, false, false, false, false, false, false, false, false, false] (by kernel_rfl) rfl rfl trivial (fun hHeld => ?_)
      refine with_tabW swap.tab3 swap.bits3 (fun HT_ HW_ => ?_)
      generalize wr.drew = wq at B0 R0 hHeld ⊢
      refine inv_at [0, 1, 2, 3, 4, 5, 6, 7, 8, 9, 10, 11, 12, 13, 14, 15, 16, 17, 18, 19, 20, 21, 22, 23] (fun a0_ b a w' => a = putSel a0_ b [(0, 16, .slice (some ⟨g, 0, none⟩) n cp), (1, 17, .int .i64 (ia : Int)), (2, 18, .int .i64 (i : Int)), (3, 19, .int .i64 (p : Int)), (4, 20, .slice (some ⟨g, 0, none⟩) n cp), (5, 21, .int .i64 (ib : Int)), (6, 22, .int .i64 (i : Int)), (7, 23, .int .i64 (q : Int)), (8, 24, .slice (some ⟨g, 0, none⟩) n cp), (9, 25, .int .i64 (ib : Int)), (10, 26, .int .i64 (i : Int)), (11, 27, .int .i64 (q : Int)), (12, 28, .pointer (some ⟨g, q * 3, none⟩)), (13, 29, .agg #[.int .i64 y.nr, .int .i64 y.kd, .slice y.A y.n y.c]), (14, 30, .slice (some ⟨g, 0, none⟩) n cp), (15, 31, .int .i64 (ia : Int)), (16, 32, .int .i64 (i : Int)), (17, 33, .int .i64 (p : Int)), (18, 34, .pointer (some ⟨g, p * 3, none⟩)), (19, 35, .agg #[.int .i64 x.nr, .int .i64 x.kd, .slice x.A x.n x.c]), (20, 36, .pointer (some ⟨g, p * 3, none⟩)), (22, 37, .pointer (some ⟨g, q * 3, none⟩))] ∧ (Kp g w0 w') ∧ (b 21 = false → RowB w' g dd) ∧ (b 21 = true → b 23 = false → RowB w' g (dd.set p y)) ∧ (b 23 = true → RowB w' g ((dd.set p y).set q x))) HT_.out HW_.out (by kernel_rfl) (by kernel_rfl) ?_ ?_ ?_
      · exact ⟨by simp only [putSel, Bool.false_eq_true, if_false], B0.out, fun _ => R0.out, fun h_ => absurd h_ (by decide), fun h_ => absurd h_ (by decide)⟩
      · skip
        clear B0 R0
        refine steps_cons ?_ ?_
        · rintro b a w' ⟨ha, Q_B0, Q_R0, Q_R1, Q_R2⟩ hb_ hon hoff
          refine ⟨_, rfl, fun K hK => ?_⟩
          have e0 : a.tmps[0]? = some (.slice (some ⟨g, 0, none⟩) n cp) := by rw [ha]; exact (putSel_off rfl).trans rfl
          replace ha := Aside0.mk ha
          have B0 := Aside0.mk Q_B0
          have R0 := Aside0.mk (Q_R0 (hoff 21 (by kernel_rfl)))
          refine value_ (w1 := w') (v := .slice (some ⟨g, 0, none⟩) n cp) (by rfl) rfl ?_ ?_
          · go_simp
            (try simp only [i64_w])
            try rfl
          refine hK.out _ _ ⟨(by rw [ha.out]; exact putSel_upk 0 hb_ rfl rfl rfl), Q_B0, Q_R0, fun h0_ _ => absurd ((hoff 21 (by kernel_rfl)).symm.trans h0_) (by decide), fun h0_ => absurd ((hoff 23 (by kernel_rfl)).symm.trans h0_) (by decide)⟩
        refine steps_cons ?_ ?_
        · rintro b a w' ⟨ha, Q_B0, Q_R0, Q_R1, Q_R2⟩ hb_ hon hoff
          refine ⟨_, rfl, fun K hK => ?_⟩
          have e1 : a.tmps[1]? = some (.int .i64 (ia : Int)) := by rw [ha]; exact (putSel_off rfl).trans rfl
          replace ha := Aside0.mk ha
          have B0 := Aside0.mk Q_B0
          have R0 := Aside0.mk (Q_R0 (hoff 21 (by kernel_rfl)))
          refine value_ (w1 := w') (v := .int .i64 (ia : Int)) (by rfl) rfl ?_ ?_
          · go_simp
            (try simp only [i64_w])
            try rfl
          refine hK.out _ _ ⟨(by rw [ha.out]; exact putSel_upk 1 hb_ rfl rfl rfl), Q_B0, Q_R0, fun h0_ _ => absurd ((hoff 21 (by kernel_rfl)).symm.trans h0_) (by decide), fun h0_ => absurd ((hoff 23 (by kernel_rfl)).symm.trans h0_) (by decide)⟩
        refine steps_cons ?_ ?_
        · rintro b a w' ⟨ha, Q_B0, Q_R0, Q_R1, Q_R2⟩ hb_ hon hoff
          refine ⟨_, rfl, fun K hK => ?_⟩
          have e10 : a.tmps[10]? = some (.int .i64 (i : Int)) := by rw [ha]; exact (putSel_off rfl).trans rfl
          replace ha := Aside0.mk ha
          have B0 := Aside0.mk Q_B0
          have R0 := Aside0.mk (Q_R0 (hoff 21 (by kernel_rfl)))
          refine value_ (w1 := w') (v := .int .i64 (i : Int)) (by rfl) rfl ?_ ?_
          · go_simp
            (try simp only [i64_w])
            try rfl
          refine hK.out _ _ ⟨(by rw [ha.out]; exact putSel_upk 2 hb_ rfl rfl rfl), Q_B0, Q_R0, fun h0_ _ => absurd ((hoff 21 (by kernel_rfl)).symm.trans h0_) (by decide), fun h0_ => absurd ((hoff 23 (by kernel_rfl)).symm.trans h0_) (by decide)⟩
        refine steps_cons ?_ ?_
        · rintro b a w' ⟨ha, Q_B0, Q_R0, Q_R1, Q_R2⟩ hb_ hon hoff
          refine ⟨_, rfl, fun K hK => ?_⟩
          have e17 : a.tmps[17]? = some (.int .i64 (ia : Int)) := by rw [ha]; exact putSel_on (e := (1, 17, .int .i64 (ia : Int))) 1 rfl rfl (hon 1 (by kernel_rfl)) rfl
          have e18 : a.tmps[18]? = some (.int .i64 (i : Int)) := by rw [ha]; exact putSel_on (e := (2, 18, .int .i64 (i : Int))) 2 rfl rfl (hon 2 (by kernel_rfl)) rfl
          replace ha := Aside0.mk ha
          have B0 := Aside0.mk Q_B0
          have R0 := Aside0.mk (Q_R0 (hoff 21 (by kernel_rfl)))
          have hw0_ := HWp.out
          refine value_ (w1 := w') (v := .int .i64 (p : Int)) (by rfl) rfl ?_ ?_
          · go_simp
            (try simp only [i64_w])
            try rfl
          refine hK.out _ _ ⟨(by rw [ha.out]; exact putSel_upk 3 hb_ rfl rfl rfl), Q_B0, Q_R0, fun h0_ _ => absurd ((hoff 21 (by kernel_rfl)).symm.trans h0_) (by decide), fun h0_ => absurd ((hoff 23 (by kernel_rfl)).symm.trans h0_) (by decide)⟩
        refine steps_cons ?_ ?_
        · rintro b a w' ⟨ha, Q_B0, Q_R0, Q_R1, Q_R2⟩ hb_ hon hoff
          refine ⟨_, rfl, fun K hK => ?_⟩
          have e0 : a.tmps[0]? = some (.slice (some ⟨g, 0, none⟩) n cp) := by rw [ha]; exact (putSel_off rfl).trans rfl
          replace ha := Aside0.mk ha
          have B0 := Aside0.mk Q_B0
          refine value_ (w1 := w') (v := .slice (some ⟨g, 0, none⟩) n cp) (by rfl) rfl ?_ ?_
          · go_simp
            (try simp only [i64_w])
            try rfl
          refine hK.out _ _ ⟨(by rw [ha.out]; exact putSel_upk 4 hb_ rfl rfl rfl), Q_B0, Q_R0, Q_R1, fun h0_ => absurd ((hoff 23 (by kernel_rfl)).symm.trans h0_) (by decide)⟩
        refine steps_cons ?_ ?_
        · rintro b a w' ⟨ha, Q_B0, Q_R0, Q_R1, Q_R2⟩ hb_ hon hoff
          refine ⟨_, rfl, fun K hK => ?_⟩
          have e2 : a.tmps[2]? = some (.int .i64 (ib : Int)) := by rw [ha]; exact (putSel_off rfl).trans rfl
          replace ha := Aside0.mk ha
          have B0 := Aside0.mk Q_B0
          refine value_ (w1 := w') (v := .int .i64 (ib : Int)) (by rfl) rfl ?_ ?_
          · go_simp
            (try simp only [i64_w])
            try rfl
          refine hK.out _ _ ⟨(by rw [ha.out]; exact putSel_upk 5 hb_ rfl rfl rfl), Q_B0, Q_R0, Q_R1, fun h0_ => absurd ((hoff 23 (by kernel_rfl)).symm.trans h0_) (by decide)⟩
        refine steps_cons ?_ ?_
        · rintro b a w' ⟨ha, Q_B0, Q_R0, Q_R1, Q_R2⟩ hb_ hon hoff
          refine ⟨_, rfl, fun K hK => ?_⟩
          have e10 : a.tmps[10]? = some (.int .i64 (i : Int)) := by rw [ha]; exact (putSel_off rfl).trans rfl
          replace ha := Aside0.mk ha
          have B0 := Aside0.mk Q_B0
          refine value_ (w1 := w') (v := .int .i64 (i : Int)) (by rfl) rfl ?_ ?_
          · go_simp
            (try simp only [i64_w])
            try rfl
          refine hK.out _ _ ⟨(by rw [ha.out]; exact putSel_upk 6 hb_ rfl rfl rfl), Q_B0, Q_R0, Q_R1, fun h0_ => absurd ((hoff 23 (by kernel_rfl)).symm.trans h0_) (by decide)⟩
        refine steps_cons ?_ ?_
        · rintro b a w' ⟨ha, Q_B0, Q_R0, Q_R1, Q_R2⟩ hb_ hon hoff
          refine ⟨_, rfl, fun K hK => ?_⟩
          have e21 : a.tmps[21]? = some (.int .i64 (ib : Int)) := by rw [ha]; exact putSel_on (e := (5, 21, .int .i64 (ib : Int))) 5 rfl rfl (hon 5 (by kernel_rfl)) rfl
          have e22 : a.tmps[22]? = some (.int .i64 (i : Int)) := by rw [ha]; exact putSel_on (e := (6, 22, .int .i64 (i : Int))) 6 rfl rfl (hon 6 (by kernel_rfl)) rfl
          replace ha := Aside0.mk ha
          have B0 := Aside0.mk Q_B0
          have hw0_ := HWq.out
          refine value_ (w1 := w') (v := .int .i64 (q : Int)) (by rfl) rfl ?_ ?_
          · go_simp
            (try simp only [i64_w])
            try rfl
          refine hK.out _ _ ⟨(by rw [ha.out]; exact putSel_upk 7 hb_ rfl rfl rfl), Q_B0, Q_R0, Q_R1, fun h0_ => absurd ((hoff 23 (by kernel_rfl)).symm.trans h0_) (by decide)⟩
        refine steps_cons ?_ ?_
        · rintro b a w' ⟨ha, Q_B0, Q_R0, Q_R1, Q_R2⟩ hb_ hon hoff
          refine ⟨_, rfl, fun K hK => ?_⟩
          have e0 : a.tmps[0]? = some (.slice (some ⟨g, 0, none⟩) n cp) := by rw [ha]; exact (putSel_off rfl).trans rfl
          replace ha := Aside0.mk ha
          have B0 := Aside0.mk Q_B0
          have R0 := Aside0.mk (Q_R0 (hoff 21 (by kernel_rfl)))
          refine value_ (w1 := w') (v := .slice (some ⟨g, 0, none⟩) n cp) (by rfl) rfl ?_ ?_
          · go_simp
            (try simp only [i64_w])
            try rfl
          refine hK.out _ _ ⟨(by rw [ha.out]; exact putSel_upk 8 hb_ rfl rfl rfl), Q_B0, Q_R0, fun h0_ _ => absurd ((hoff 21 (by kernel_rfl)).symm.trans h0_) (by decide), fun h0_ => absurd ((hoff 23 (by kernel_rfl)).symm.trans h0_) (by decide)⟩
        refine steps_cons ?_ ?_
        · rintro b a w' ⟨ha, Q_B0, Q_R0, Q_R1, Q_R2⟩ hb_ hon hoff
          refine ⟨_, rfl, fun K hK => ?_⟩
          have e2 : a.tmps[2]? = some (.int .i64 (ib : Int)) := by rw [ha]; exact (putSel_off rfl).trans rfl
          replace ha := Aside0.mk ha
          have B0 := Aside0.mk Q_B0
          have R0 := Aside0.mk (Q_R0 (hoff 21 (by kernel_rfl)))
          refine value_ (w1 := w') (v := .int .i64 (ib : Int)) (by rfl) rfl ?_ ?_
          · go_simp
            (try simp only [i64_w])
            try rfl
          refine hK.out _ _ ⟨(by rw [ha.out]; exact putSel_upk 9 hb_ rfl rfl rfl), Q_B0, Q_R0, fun h0_ _ => absurd ((hoff 21 (by kernel_rfl)).symm.trans h0_) (by decide), fun h0_ => absurd ((hoff 23 (by kernel_rfl)).symm.trans h0_) (by decide)⟩
        refine steps_cons ?_ ?_
        · rintro b a w' ⟨ha, Q_B0, Q_R0, Q_R1, Q_R2⟩ hb_ hon hoff
          refine ⟨_, rfl, fun K hK => ?_⟩
          have e10 : a.tmps[10]? = some (.int .i64 (i : Int)) := by rw [ha]; exact (putSel_off rfl).trans rfl
          replace ha := Aside0.mk ha
          have B0 := Aside0.mk Q_B0
          have R0 := Aside0.mk (Q_R0 (hoff 21 (by kernel_rfl)))
          refine value_ (w1 := w') (v := .int .i64 (i : Int)) (by rfl) rfl ?_ ?_
          · go_simp
            (try simp only [i64_w])
            try rfl
          refine hK.out _ _ ⟨(by rw [ha.out]; exact putSel_upk 10 hb_ rfl rfl rfl), Q_B0, Q_R0, fun h0_ _ => absurd ((hoff 21 (by kernel_rfl)).symm.trans h0_) (by decide), fun h0_ => absurd ((hoff 23 (by kernel_rfl)).symm.trans h0_) (by decide)⟩
        refine steps_cons ?_ ?_
        · rintro b a w' ⟨ha, Q_B0, Q_R0, Q_R1, Q_R2⟩ hb_ hon hoff
          refine ⟨_, rfl, fun K hK => ?_⟩
          have e25 : a.tmps[25]? = some (.int .i64 (ib : Int)) := by rw [ha]; exact putSel_on (e := (9, 25, .int .i64 (ib : Int))) 9 rfl rfl (hon 9 (by kernel_rfl)) rfl
          have e26 : a.tmps[26]? = some (.int .i64 (i : Int)) := by rw [ha]; exact putSel_on (e := (10, 26, .int .i64 (i : Int))) 10 rfl rfl (hon 10 (by kernel_rfl)) rfl
          replace ha := Aside0.mk ha
          have B0 := Aside0.mk Q_B0
          have R0 := Aside0.mk (Q_R0 (hoff 21 (by kernel_rfl)))
          have hw0_ := HWq.out
          refine value_ (w1 := w') (v := .int .i64 (q : Int)) (by rfl) rfl ?_ ?_
          · go_simp
            (try simp only [i64_w])
            try rfl
          refine hK.out _ _ ⟨(by rw [ha.out]; exact putSel_upk 11 hb_ rfl rfl rfl), Q_B0, Q_R0, fun h0_ _ => absurd ((hoff 21 (by kernel_rfl)).symm.trans h0_) (by decide), fun h0_ => absurd ((hoff 23 (by kernel_rfl)).symm.trans h0_) (by decide)⟩
        refine steps_cons ?_ ?_
        · rintro b a w' ⟨ha, Q_B0, Q_R0, Q_R1, Q_R2⟩ hb_ hon hoff
          refine ⟨_, rfl, fun K hK => ?_⟩
          have e24 : a.tmps[24]? = some (.slice (some ⟨g, 0, none⟩) n cp) := by rw [ha]; exact putSel_on (e := (8, 24, .slice (some ⟨g, 0, none⟩) n cp)) 8 rfl rfl (hon 8 (by kernel_rfl)) rfl
          have e27 : a.tmps[27]? = some (.int .i64 (q : Int)) := by rw [ha]; exact putSel_on (e := (11, 27, .int .i64 (q : Int))) 11 rfl rfl (hon 11 (by kernel_rfl)) rfl
          replace ha := Aside0.mk ha
          have B0 := Aside0.mk Q_B0
          have R0 := Aside0.mk (Q_R0 (hoff 21 (by kernel_rfl)))
          have p1_ := LO_q.out
          have q1_ := HI_q.out
          refine value_ (w1 := w') (v := .pointer (some ⟨g, q * 3, none⟩)) (by rfl) rfl ?_ ?_
          · go_simp
            (try simp only [i64_w])
            try rfl
          refine hK.out _ _ ⟨(by rw [ha.out]; exact putSel_upk 12 hb_ rfl rfl rfl), Q_B0, Q_R0, fun h0_ _ => absurd ((hoff 21 (by kernel_rfl)).symm.trans h0_) (by decide), fun h0_ => absurd ((hoff 23 (by kernel_rfl)).symm.trans h0_) (by decide)⟩
        refine steps_cons ?_ ?_
        · rintro b a w' ⟨ha, Q_B0, Q_R0, Q_R1, Q_R2⟩ hb_ hon hoff
          refine ⟨_, rfl, fun K hK => ?_⟩
          have e28 : a.tmps[28]? = some (.pointer (some ⟨g, q * 3, none⟩)) := by rw [ha]; exact putSel_on (e := (12, 28, .pointer (some ⟨g, q * 3, none⟩))) 12 rfl rfl (hon 12 (by kernel_rfl)) rfl
          replace ha := Aside0.mk ha
          have B0 := Aside0.mk Q_B0
          have R0 := Aside0.mk (Q_R0 (hoff 21 (by kernel_rfl)))
          have cs_ := R0.out.cells HX_q.out
          refine value_ (w1 := w') (v := .agg #[.int .i64 y.nr, .int .i64 y.kd, .slice y.A y.n y.c]) (by rfl) rfl ?_ ?_
          · go_simp
            (try simp only [i64_w])
            try rfl
          refine hK.out _ _ ⟨(by rw [ha.out]; exact putSel_upk 13 hb_ rfl rfl rfl), Q_B0, Q_R0, fun h0_ _ => absurd ((hoff 21 (by kernel_rfl)).symm.trans h0_) (by decide), fun h0_ => absurd ((hoff 23 (by kernel_rfl)).symm.trans h0_) (by decide)⟩
        refine steps_cons ?_ ?_
        · rintro b a w' ⟨ha, Q_B0, Q_R0, Q_R1, Q_R2⟩ hb_ hon hoff
          refine ⟨_, rfl, fun K hK => ?_⟩
          have e0 : a.tmps[0]? = some (.slice (some ⟨g, 0, none⟩) n cp) := by rw [ha]; exact (putSel_off rfl).trans rfl
          replace ha := Aside0.mk ha
          have B0 := Aside0.mk Q_B0
          have R0 := Aside0.mk (Q_R0 (hoff 21 (by kernel_rfl)))
          refine value_ (w1 := w') (v := .slice (some ⟨g, 0, none⟩) n cp) (by rfl) rfl ?_ ?_
          · go_simp
            (try simp only [i64_w])
            try rfl
          refine hK.out _ _ ⟨(by rw [ha.out]; exact putSel_upk 14 hb_ rfl rfl rfl), Q_B0, Q_R0, fun h0_ _ => absurd ((hoff 21 (by kernel_rfl)).symm.trans h0_) (by decide), fun h0_ => absurd ((hoff 23 (by kernel_rfl)).symm.trans h0_) (by decide)⟩
        refine steps_cons ?_ ?_
        · rintro b a w' ⟨ha, Q_B0, Q_R0, Q_R1, Q_R2⟩ hb_ hon hoff
          refine ⟨_, rfl, fun K hK => ?_⟩
          have e1 : a.tmps[1]? = some (.int .i64 (ia : Int)) := by rw [ha]; exact (putSel_off rfl).trans rfl
          replace ha := Aside0.mk ha
          have B0 := Aside0.mk Q_B0
          have R0 := Aside0.mk (Q_R0 (hoff 21 (by kernel_rfl)))
          refine value_ (w1 := w') (v := .int .i64 (ia : Int)) (by rfl) rfl ?_ ?_
          · go_simp
            (try simp only [i64_w])
            try rfl
          refine hK.out _ _ ⟨(by rw [ha.out]; exact putSel_upk 15 hb_ rfl rfl rfl), Q_B0, Q_R0, fun h0_ _ => absurd ((hoff 21 (by kernel_rfl)).symm.trans h0_) (by decide), fun h0_ => absurd ((hoff 23 (by kernel_rfl)).symm.trans h0_) (by decide)⟩
        refine steps_cons ?_ ?_
        · rintro b a w' ⟨ha, Q_B0, Q_R0, Q_R1, Q_R2⟩ hb_ hon hoff
          refine ⟨_, rfl, fun K hK => ?_⟩
          have e10 : a.tmps[10]? = some (.int .i64 (i : Int)) := by rw [ha]; exact (putSel_off rfl).trans rfl
          replace ha := Aside0.mk ha
          have B0 := Aside0.mk Q_B0
          have R0 := Aside0.mk (Q_R0 (hoff 21 (by kernel_rfl)))
          refine value_ (w1 := w') (v := .int .i64 (i : Int)) (by rfl) rfl ?_ ?_
          · go_simp
            (try simp only [i64_w])
            try rfl
          refine hK.out _ _ ⟨(by rw [ha.out]; exact putSel_upk 16 hb_ rfl rfl rfl), Q_B0, Q_R0, fun h0_ _ => absurd ((hoff 21 (by kernel_rfl)).symm.trans h0_) (by decide), fun h0_ => absurd ((hoff 23 (by kernel_rfl)).symm.trans h0_) (by decide)⟩
        refine steps_cons ?_ ?_
        · rintro b a w' ⟨ha, Q_B0, Q_R0, Q_R1, Q_R2⟩ hb_ hon hoff
          refine ⟨_, rfl, fun K hK => ?_⟩
          have e31 : a.tmps[31]? = some (.int .i64 (ia : Int)) := by rw [ha]; exact putSel_on (e := (15, 31, .int .i64 (ia : Int))) 15 rfl rfl (hon 15 (by kernel_rfl)) rfl
          have e32 : a.tmps[32]? = some (.int .i64 (i : Int)) := by rw [ha]; exact putSel_on (e := (16, 32, .int .i64 (i : Int))) 16 rfl rfl (hon 16 (by kernel_rfl)) rfl
          replace ha := Aside0.mk ha
          have B0 := Aside0.mk Q_B0
          have R0 := Aside0.mk (Q_R0 (hoff 21 (by kernel_rfl)))
          have hw0_ := HWp.out
          refine value_ (w1 := w') (v := .int .i64 (p : Int)) (by rfl) rfl ?_ ?_
          · go_simp
            (try simp only [i64_w])
            try rfl
          refine hK.out _ _ ⟨(by rw [ha.out]; exact putSel_upk 17 hb_ rfl rfl rfl), Q_B0, Q_R0, fun h0_ _ => absurd ((hoff 21 (by kernel_rfl)).symm.trans h0_) (by decide), fun h0_ => absurd ((hoff 23 (by kernel_rfl)).symm.trans h0_) (by decide)⟩
        refine steps_cons ?_ ?_
        · rintro b a w' ⟨ha, Q_B0, Q_R0, Q_R1, Q_R2⟩ hb_ hon hoff
          refine ⟨_, rfl, fun K hK => ?_⟩
          have e30 : a.tmps[30]? = some (.slice (some ⟨g, 0, none⟩) n cp) := by rw [ha]; exact putSel_on (e := (14, 30, .slice (some ⟨g, 0, none⟩) n cp)) 14 rfl rfl (hon 14 (by kernel_rfl)) rfl
          have e33 : a.tmps[33]? = some (.int .i64 (p : Int)) := by rw [ha]; exact putSel_on (e := (17, 33, .int .i64 (p : Int))) 17 rfl rfl (hon 17 (by kernel_rfl)) rfl
          replace ha := Aside0.mk ha
          have B0 := Aside0.mk Q_B0
          have R0 := Aside0.mk (Q_R0 (hoff 21 (by kernel_rfl)))
          have p1_ := LO_p.out
          have q1_ := HI_p.out
          refine value_ (w1 := w') (v := .pointer (some ⟨g, p * 3, none⟩)) (by rfl) rfl ?_ ?_
          · go_simp
            (try simp only [i64_w])
            try rfl
          refine hK.out _ _ ⟨(by rw [ha.out]; exact putSel_upk 18 hb_ rfl rfl rfl), Q_B0, Q_R0, fun h0_ _ => absurd ((hoff 21 (by kernel_rfl)).symm.trans h0_) (by decide), fun h0_ => absurd ((hoff 23 (by kernel_rfl)).symm.trans h0_) (by decide)⟩
        refine steps_cons ?_ ?_
        · rintro b a w' ⟨ha, Q_B0, Q_R0, Q_R1, Q_R2⟩ hb_ hon hoff
          refine ⟨_, rfl, fun K hK => ?_⟩
          have e34 : a.tmps[34]? = some (.pointer (some ⟨g, p * 3, none⟩)) := by rw [ha]; exact putSel_on (e := (18, 34, .pointer (some ⟨g, p * 3, none⟩))) 18 rfl rfl (hon 18 (by kernel_rfl)) rfl
          replace ha := Aside0.mk ha
          have B0 := Aside0.mk Q_B0
          have R0 := Aside0.mk (Q_R0 (hoff 21 (by kernel_rfl)))
          have cs_ := R0.out.cells HX_p.out
          refine value_ (w1 := w') (v := .agg #[.int .i64 x.nr, .int .i64 x.kd, .slice x.A x.n x.c]) (by rfl) rfl ?_ ?_
          · go_simp
            (try simp only [i64_w])
            try rfl
          refine hK.out _ _ ⟨(by rw [ha.out]; exact putSel_upk 19 hb_ rfl rfl rfl), Q_B0, Q_R0, fun h0_ _ => absurd ((hoff 21 (by kernel_rfl)).symm.trans h0_) (by decide), fun h0_ => absurd ((hoff 23 (by kernel_rfl)).symm.trans h0_) (by decide)⟩
        refine steps_cons ?_ ?_
        · rintro b a w' ⟨ha, Q_B0, Q_R0, Q_R1, Q_R2⟩ hb_ hon hoff
          refine ⟨_, rfl, fun K hK => ?_⟩
          have e16 : a.tmps[16]? = some (.slice (some ⟨g, 0, none⟩) n cp) := by rw [ha]; exact putSel_on (e := (0, 16, .slice (some ⟨g, 0, none⟩) n cp)) 0 rfl rfl (hon 0 (by kernel_rfl)) rfl
          have e19 : a.tmps[19]? = some (.int .i64 (p : Int)) := by rw [ha]; exact putSel_on (e := (3, 19, .int .i64 (p : Int))) 3 rfl rfl (hon 3 (by kernel_rfl)) rfl
          replace ha := Aside0.mk ha
          have B0 := Aside0.mk Q_B0
          have R0 := Aside0.mk (Q_R0 (hoff 21 (by kernel_rfl)))
          have p1_ := LO_p.out
          have q1_ := HI_p.out
          refine value_ (w1 := w') (v := .pointer (some ⟨g, p * 3, none⟩)) (by rfl) rfl ?_ ?_
          · go_simp
            (try simp only [i64_w])
            try rfl
          refine hK.out _ _ ⟨(by rw [ha.out]; exact putSel_upk 20 hb_ rfl rfl rfl), Q_B0, Q_R0, fun h0_ _ => absurd ((hoff 21 (by kernel_rfl)).symm.trans h0_) (by decide), fun h0_ => absurd ((hoff 23 (by kernel_rfl)).symm.trans h0_) (by decide)⟩
        refine steps_cons ?_ ?_
        · rintro b a w' ⟨ha, Q_B0, Q_R0, Q_R1, Q_R2⟩ hb_ hon hoff
          refine ⟨_, rfl, fun K hK => ?_⟩
          have e36 : a.tmps[36]? = some (.pointer (some ⟨g, p * 3, none⟩)) := by rw [ha]; exact putSel_on (e := (20, 36, .pointer (some ⟨g, p * 3, none⟩))) 20 rfl rfl (hon 20 (by kernel_rfl)) rfl
          have e29 : a.tmps[29]? = some (.agg #[.int .i64 y.nr, .int .i64 y.kd, .slice y.A y.n y.c]) := by rw [ha]; exact putSel_on (e := (13, 29, .agg #[.int .i64 y.nr, .int .i64 y.kd, .slice y.A y.n y.c])) 13 rfl rfl (hon 13 (by kernel_rfl)) rfl
          replace ha := Aside0.mk ha
          have B0 := Aside0.mk Q_B0
          have R0 := Aside0.mk (Q_R0 hb_)
          have cs_ := R0.out.cells HX_p.out
          have f0_ := R0.out.frozen (p * 3)
          have f1_ := R0.out.frozen (p * 3 + 1)
          have f2_ := R0.out.frozen (p * 3 + 2)
          refine skip_ (w1 := ?_) (by rfl) rfl ?_ ?_
          rotate_left
          · go_simp
            rfl
          refine hK.out _ _ ⟨(by rw [ha.out]; exact putSel_none (v := undef) rfl), setRec_below (j := p) (x := y) B0.out HG.out, fun h0_ => absurd ((up_self b 21).symm.trans h0_) (by decide), fun _ _ => R0.out.set p y, fun h0_ => absurd ((hoff 23 (by kernel_rfl)).symm.trans h0_) (by decide)⟩
        refine steps_cons ?_ ?_
        · rintro b a w' ⟨ha, Q_B0, Q_R0, Q_R1, Q_R2⟩ hb_ hon hoff
          refine ⟨_, rfl, fun K hK => ?_⟩
          have e20 : a.tmps[20]? = some (.slice (some ⟨g, 0, none⟩) n cp) := by rw [ha]; exact putSel_on (e := (4, 20, .slice (some ⟨g, 0, none⟩) n cp)) 4 rfl rfl (hon 4 (by kernel_rfl)) rfl
          have e23 : a.tmps[23]? = some (.int .i64 (q : Int)) := by rw [ha]; exact putSel_on (e := (7, 23, .int .i64 (q : Int))) 7 rfl rfl (hon 7 (by kernel_rfl)) rfl
          replace ha := Aside0.mk ha
          have B0 := Aside0.mk Q_B0
          have R1 := Aside0.mk (Q_R1 (hon 21 (by kernel_rfl)) (hoff 23 (by kernel_rfl)))
          have p1_ := LO_q.out
          have q1_ := HI_q.out
          refine value_ (w1 := w') (v := .pointer (some ⟨g, q * 3, none⟩)) (by rfl) rfl ?_ ?_
          · go_simp
            (try simp only [i64_w])
            try rfl
          refine hK.out _ _ ⟨(by rw [ha.out]; exact putSel_upk 21 hb_ rfl rfl rfl), Q_B0, fun h0_ => absurd ((hon 21 (by kernel_rfl)).symm.trans h0_) (by decide), Q_R1, fun h0_ => absurd ((hoff 23 (by kernel_rfl)).symm.trans h0_) (by decide)⟩
        refine steps_cons ?_ ?_
        · rintro b a w' ⟨ha, Q_B0, Q_R0, Q_R1, Q_R2⟩ hb_ hon hoff
          refine ⟨_, rfl, fun K hK => ?_⟩
          have e37 : a.tmps[37]? = some (.pointer (some ⟨g, q * 3, none⟩)) := by rw [ha]; exact putSel_on (e := (22, 37, .pointer (some ⟨g, q * 3, none⟩))) 21 rfl rfl (hon 22 (by kernel_rfl)) rfl
          have e35 : a.tmps[35]? = some (.agg #[.int .i64 x.nr, .int .i64 x.kd, .slice x.A x.n x.c]) := by rw [ha]; exact putSel_on (e := (19, 35, .agg #[.int .i64 x.nr, .int .i64 x.kd, .slice x.A x.n x.c])) 19 rfl rfl (hon 19 (by kernel_rfl)) rfl
          replace ha := Aside0.mk ha
          have B0 := Aside0.mk Q_B0
          have R1 := Aside0.mk (Q_R1 (hon 21 (by kernel_rfl)) hb_)
          have cs_ := R1.out.cells HX2.out
          have f0_ := R1.out.frozen (q * 3)
          have f1_ := R1.out.frozen (q * 3 + 1)
          have f2_ := R1.out.frozen (q * 3 + 2)
          refine skip_ (w1 := ?_) (by rfl) rfl ?_ ?_
          rotate_left
          · go_simp
            rfl
          refine hK.out _ _ ⟨(by rw [ha.out]; exact putSel_none (v := undef) rfl), setRec_below (j := q) (x := x) B0.out HG.out, fun h0_ => absurd ((hon 21 (by kernel_rfl)).symm.trans h0_) (by decide), fun _ h1_ => absurd ((up_self b 23).symm.trans h1_) (by decide), fun _ => R1.out.set q x⟩
        exact steps_nil
      rintro b a wl hall ⟨ha, Q_B0, Q_R0, Q_R1, Q_R2⟩
      clear B0 R0
      have hb0_ := hall 0 (by kernel_rfl)
      have hb1_ := hall 1 (by kernel_rfl)
      have hb2_ := hall 2 (by kernel_rfl)
      have hb3_ := hall 3 (by kernel_rfl)
      have hb4_ := hall 4 (by kernel_rfl)
      have hb5_ := hall 5 (by kernel_rfl)
      have hb6_ := hall 6 (by kernel_rfl)
      have hb7_ := hall 7 (by kernel_rfl)
      have hb8_ := hall 8 (by kernel_rfl)
      have hb9_ := hall 9 (by kernel_rfl)
      have hb10_ := hall 10 (by kernel_rfl)
      have hb11_ := hall 11 (by kernel_rfl)
      have hb12_ := hall 12 (by kernel_rfl)
      have hb13_ := hall 13 (by kernel_rfl)
      have hb14_ := hall 14 (by kernel_rfl)
      have hb15_ := hall 15 (by kernel_rfl)
      have hb16_ := hall 16 (by kernel_rfl)
      have hb17_ := hall 17 (by kernel_rfl)
      have hb18_ := hall 18 (by kernel_rfl)
      have hb19_ := hall 19 (by kernel_rfl)
      have hb20_ := hall 20 (by kernel_rfl)
      have hb21_ := hall 21 (by kernel_rfl)
      have hb22_ := hall 22 (by kernel_rfl)
      have hb23_ := hall 23 (by kernel_rfl)
      subst ha
      simp only [putSel, hb0_, hb1_, hb2_, hb3_, hb4_, hb5_, hb6_, hb7_, hb8_, hb9_, hb10_, hb11_, hb12_, hb13_, hb14_, hb15_, hb16_, hb17_, hb18_, hb19_, hb20_, hb21_, hb22_, hb23_, if_true, Act.put, List.setIfInBounds_toArray, List.set_cons_zero, List.set_cons_succ]
      have B0 := Aside0.mk Q_B0
      clear Q_B0
      clear Q_R0
      clear Q_R1
      have R2 := Aside0.mk (Q_R2 hb23_)
      clear Q_R2
      clear hall hb0_ hb1_ hb2_ hb3_ hb4_ hb5_ hb6_ hb7_ hb8_ hb9_ hb10_ hb11_ hb12_ hb13_ hb14_ hb15_ hb16_ hb17_ hb18_ hb19_ hb20_ hb21_ hb22_ hb23_
      go_wp2_with fail
      go_roundg (m - i)
      case measure => have := HQ.out; have := HI2.out; omega
      case rel => exact ⟨i + 1, by first | rfl | (simp; unfold wrap64; have := HI2.out; have := HM.out; omega), ⟨by rw [← HF.out]; exact R2.out⟩, B0, ⟨by have := HI2.out; omega⟩, ⟨by have := HQ.out; have := HI2.out; omega⟩⟩
end Go.Proofs.Ytnchdmidaigheaa.QS
namespace Go.Proofs.Ytnchdmidaigheaa.QS
set_option linter.unusedVariables false
set_option linter.unusedSimpArgs false
open Go.RowKit Go.Proofs.Ytnchdmidaigheaa.SS Go.Proofs.Ytnchdmidaigheaa.Hp Go.Proofs.YtnchdmidaigheaaW.PrintWords Go.Proofs.YtnchdmidaigheaaW.PrintLast Go.Proofs.YtnchdmidaigheaaW.PrintMore
attribute [local go_sem] max2_int min2_int max_two min_two max_three min_three max_four min_four
set_option maxHeartbeats 4000000 in
set_option maxRecDepth 100000 in
theorem rotate_calls (N : Nat) (w0 : World) (g : Nat) (hg : N ≤ g) (cp : Nat) (fv : Value) (ia im ib n : Nat) (P X Y Q : List Rec) (hP : P.length = ia) (hX : ia + X.length = im) (hY : im + Y.length = ib) (hX0 : 0 < X.length) (hY0 : 0 < Y.length) (hn : (P ++ (X ++ (Y ++ Q))).length = n) (hn2 : n ≤ 1000000) (w : World) (hB : Kp g w0 w) (hR : RowB w g (P ++ (X ++ (Y ++ Q)))) :
    Calls Try.prog 127 #[.slice (some ⟨g, 0, none⟩) n cp, .int .i64 (ia : Int), .int .i64 (im : Int), .int .i64 (ib : Int), fv] w fun e w' => e = .returned (.tuple #[]) ∧ Kp g w0 w' ∧ RowB w' g (P ++ (Y ++ (X ++ Q))) := by
  have HG := Aside0.mk hg
  obtain ⟨tgt, ht⟩ : ∃ t, t = P ++ (Y ++ (X ++ Q)) := ⟨_, rfl⟩
  obtain ⟨i0, hi0⟩ : ∃ i, i = X.length := ⟨_, rfl⟩
  obtain ⟨j0, hj0⟩ : ∃ i, i = Y.length := ⟨_, rfl⟩
  rw [← ht]
  have HTL : Aside0 (tgt.length = n ∧ n ≤ 1000000) := ⟨by rw [ht, ← hn]; simp only [List.length_append]; omega, hn2⟩
  have hw1 : IntKind.i64.wrap ((im : Int) - (ia : Int)) = (i0 : Int) := by rw [i64_w]; unfold wrap64; simp only [List.length_append] at hn; omega
  have hw2 : IntKind.i64.wrap ((ib : Int) - (im : Int)) = (j0 : Int) := by rw [i64_w]; unfold wrap64; simp only [List.length_append] at hn; omega
  have HS : Aside0 (∃ (P X Y Q : List Rec), RowB w g (P ++ (X ++ (Y ++ Q))) ∧ P.length + i0 = im ∧ X.length = i0 ∧ Y.length = j0 ∧ P ++ (Y ++ (X ++ Q)) = tgt) := ⟨P, X, Y, Q, hR, by omega, hi0.symm, hj0.symm, ht.symm⟩
  have HIJ : Aside0 (0 < i0 ∧ 0 < j0) := ⟨by omega⟩
  replace hB := Aside0.mk hB
  clear hg hP hX hY hX0 hY0 hn hn2 hR ht hi0 hj0
  go_enter Try.func127, Try.ntmps127
  go_wp2_with fail
  go_loopg [10, 11] (i0 + j0) (fun kq v10 v11 w' => ∃ i j : Nat, v10 = .int .i64 (i : Int) ∧ v11 = .int .i64 (j : Int) ∧ Aside0 (∃ (P X Y Q : List Rec), RowB w' g (P ++ (X ++ (Y ++ Q))) ∧ P.length + i = im ∧ X.length = i ∧ Y.length = j ∧ P ++ (Y ++ (X ++ Q)) = tgt) ∧ Aside0 (Kp g w0 w') ∧ Aside0 (0 < i ∧ 0 < j) ∧ Aside0 (kq = i + j))
  case atStart => exact ⟨i0, j0, by first | rfl | (rw [← i64_w, hw1]) | (simp [hw1]), by first | rfl | (rw [← i64_w, hw2]) | (simp [hw2]), HS, hB, HIJ, ⟨rfl⟩⟩
  case round =>
    clear HS hB HIJ hw1 hw2
    obtain ⟨i, j, rfl, rfl, HS, BB, HIJ, HQ⟩ := hrel
    obtain ⟨P, X, Y, Q, RR, hP, hX, hY, ht⟩ := HS.out
    clear HS
    have hTL := HTL.out
    have hl : (P ++ (X ++ (Y ++ Q))).length = n := by rw [← hTL.1, ← ht]; simp only [List.length_append]; omega
    have hl' := hl
    simp only [List.length_append] at hl'
    obtain ⟨p, hp⟩ : ∃ p, p = P.length := ⟨_, rfl⟩
    have hw1 : IntKind.i64.wrap ((im : Int) - (i : Int)) = (p : Int) := by rw [i64_w]; unfold wrap64; omega
    by_cases hij : i = j
    case pos =>
      subst hij
      have HC : Aside0 (∀ W, Kp g w0 W → RowB W g (P ++ (X ++ (Y ++ Q))) → Calls Try.prog 131 #[.slice (some ⟨g, 0, none⟩) n cp, .int .i64 (p : Int), .int .i64 (im : Int), .int .i64 (i : Int), fv] W fun e w' => e = .returned (.tuple #[]) ∧ Kp g w0 w' ∧ RowB w' g tgt) := ⟨fun W hB hR => by
        refine (swap_calls N w0 g HG.out cp fv p im i n _ hl hTL.2 (by omega) (by omega) W hB hR).mono ?_
        rintro e w' ⟨h1, h2, h3⟩
        refine ⟨h1, h2, ?_⟩
        have hs := swp_parts P X [] Y Q (by omega)
        simp only [List.nil_append, List.length_nil, Nat.add_zero] at hs
        rw [show P.length = p from hp.symm, show p + X.length = im by omega, hX] at hs
        rw [hs, ht] at h3
        exact h3⟩
      replace RR := Aside0.mk RR
      clear hTL hl hl' hp hP hX hY ht
      go_wp2_with (go_at_call 131; refine (HC.out _ BB.out RR.out).mono ?_; rintro e w2 ⟨rfl, hb, hr⟩)
      go_end0
      exact ⟨rfl, hb, hr⟩
    case neg =>
      by_cases hlt : j < i
      case pos =>
        have HC : Aside0 (∀ W, Kp g w0 W → RowB W g (P ++ (X ++ (Y ++ Q))) → Calls Try.prog 131 #[.slice (some ⟨g, 0, none⟩) n cp, .int .i64 (p : Int), .int .i64 (im : Int), .int .i64 (j : Int), fv] W fun e w' => e = .returned (.tuple #[]) ∧ Kp g w0 w' ∧ RowB w' g ((P ++ Y) ++ (X.drop j ++ (X.take j ++ Q)))) := ⟨fun W hB hR => by
          refine (swap_calls N w0 g HG.out cp fv p im j n _ hl hTL.2 (by omega) (by omega) W hB hR).mono ?_
          rintro e w' ⟨h1, h2, h3⟩
          refine ⟨h1, h2, ?_⟩
          have hs := swp_parts P (X.take j) (X.drop j) Y Q (by rw [List.length_take]; omega)
          rw [show X.take j ++ (X.drop j ++ (Y ++ Q)) = X ++ (Y ++ Q) by rw [← List.append_assoc, List.take_append_drop], List.length_take, List.length_drop, show min j X.length = j by omega, show P.length = p from hp.symm, show p + j + (X.length - j) = im by omega] at hs
          rw [hs, ← List.append_assoc] at h3
          exact h3⟩
        have hw2 : IntKind.i64.wrap ((i : Int) - (j : Int)) = ((i - j : Nat) : Int) := by rw [i64_w]; unfold wrap64; omega
        have HP2 : Aside0 ((P ++ Y).length + (i - j) = im ∧ (X.drop j).length = i - j ∧ (X.take j).length = j ∧ (P ++ Y) ++ (X.take j ++ (X.drop j ++ Q)) = tgt) := ⟨by simp only [List.length_append]; omega, by rw [List.length_drop]; omega, by rw [List.length_take]; omega, by rw [← ht, List.append_assoc, ← List.append_assoc (X.take j), List.take_append_drop]⟩
        generalize (P ++ Y) = P2 at HP2 HC
        generalize X.drop j = X2 at HP2 HC
        generalize X.take j = Y2 at HP2 HC
        replace RR := Aside0.mk RR
        have HLT := Aside0.mk hlt
        clear hTL hl hl' hp hP hX hY ht
        go_wp2_with (go_at_call 131; refine (HC.out _ BB.out RR.out).mono ?_; rintro e w2 ⟨rfl, hb, hr⟩)
        go_roundg (i - j + j)
        case measure => have := HQ.out; have := HIJ.out; have := HLT.out; omega
        case rel => exact ⟨i - j, j, by first | rfl | (rw [← i64_w, hw2]) | (simp [hw2]), rfl, ⟨P2, X2, Y2, Q, hr, HP2.out.1, HP2.out.2.1, HP2.out.2.2.1, HP2.out.2.2.2⟩, ⟨hb⟩, ⟨by have := HLT.out; have := HIJ.out; omega⟩, ⟨rfl⟩⟩
      case neg =>
        have HLT : Aside0 (i < j) := ⟨by omega⟩
        obtain ⟨r, hr⟩ : ∃ r, r = im + j - i := ⟨_, rfl⟩
        have hltf := HLT.out
        have HC : Aside0 (∀ W, Kp g w0 W → RowB W g (P ++ (X ++ (Y ++ Q))) → Calls Try.prog 131 #[.slice (some ⟨g, 0, none⟩) n cp, .int .i64 (p : Int), .int .i64 (r : Int), .int .i64 (i : Int), fv] W fun e w' => e = .returned (.tuple #[]) ∧ Kp g w0 w' ∧ RowB w' g (P ++ (Y.drop (j - i) ++ (Y.take (j - i) ++ (X ++ Q))))) := ⟨fun W hB hR => by
          refine (swap_calls N w0 g HG.out cp fv p r i n _ hl hTL.2 (by omega) (by omega) W hB hR).mono ?_
          rintro e w' ⟨h1, h2, h3⟩
          refine ⟨h1, h2, ?_⟩
          have hs := swp_parts P X (Y.take (j - i)) (Y.drop (j - i)) Q (by rw [List.length_drop]; omega)
          rw [show Y.take (j - i) ++ (Y.drop (j - i) ++ Q) = Y ++ Q by rw [← List.append_assoc, List.take_append_drop], List.length_take, show min (j - i) Y.length = j - i by omega, show P.length = p from hp.symm, show p + X.length + (j - i) = r by omega, hX] at hs
          rw [hs] at h3
          exact h3⟩
        have hw2 : IntKind.i64.wrap ((j : Int) - (i : Int)) = ((j - i : Nat) : Int) := by rw [i64_w]; unfold wrap64; omega
        have hw3 : IntKind.i64.wrap ((im : Int) + (j : Int)) = ((im + j : Nat) : Int) := by rw [i64_w]; unfold wrap64; omega
        have hw4 : IntKind.i64.wrap (((im + j : Nat) : Int) - (i : Int)) = (r : Int) := by rw [i64_w]; unfold wrap64; omega
        have HP2 : Aside0 (P.length + i = im ∧ (Y.drop (j - i)).length = i ∧ (Y.take (j - i)).length = j - i ∧ P ++ (Y.take (j - i) ++ (Y.drop (j - i) ++ (X ++ Q))) = tgt) := ⟨by omega, by rw [List.length_drop]; omega, by rw [List.length_take]; omega, by rw [← ht, ← List.append_assoc (Y.take _), List.take_append_drop]⟩
        generalize X ++ Q = Q2 at HP2 HC
        generalize Y.drop (j - i) = X2 at HP2 HC
        generalize Y.take (j - i) = Y2 at HP2 HC
        replace RR := Aside0.mk RR
        generalize im + j = s at hw3 hw4
        clear hTL hl hl' hp hP hX hY ht hltf hr
        go_wp2_with (go_at_call 131; refine (HC.out _ BB.out RR.out).mono ?_; rintro e w2 ⟨rfl, hb, hr⟩)
        go_roundg (i + (j - i))
        case measure => have := HQ.out; have := HIJ.out; have := HLT.out; omega
        case rel => exact ⟨i, j - i, rfl, by first | rfl | (rw [← i64_w, hw2]) | (simp [hw2]), ⟨P, X2, Y2, Q2, hr, HP2.out.1, HP2.out.2.1, HP2.out.2.2.1, HP2.out.2.2.2⟩, ⟨hb⟩, ⟨by have := HLT.out; have := HIJ.out; omega⟩, ⟨rfl⟩⟩
end Go.Proofs.Ytnchdmidaigheaa.QS
namespace Go.Proofs.Ytnchdmidaigheaa.QS
set_option linter.unusedVariables false
set_option linter.unusedSimpArgs false
open Go.RowKit Go.Proofs.Ytnchdmidaigheaa.SS Go.Proofs.Ytnchdmidaigheaa.Hp Go.Proofs.YtnchdmidaigheaaW.PrintWords Go.Proofs.YtnchdmidaigheaaW.PrintLast Go.Proofs.YtnchdmidaigheaaW.PrintMore
attribute [local go_sem] max2_int min2_int max_two min_two max_three min_three max_four min_four
def ins.T4 : Bool × List (List Nat × List Nat) := (true, [([], []), ([], []), ([0, 1], [0, 1]), ([2], [2]), ([3], [3]), ([3], [3]), ([3], [3]), ([5, 6, 3], [3, 5, 6]), ([7, 3], [3, 7]), ([3], [3]), ([3], [3]), ([10, 3], [3, 10]), ([9, 11, 3], [3, 9, 11]), ([12, 3], [3, 12]), ([4, 8, 13, 3, 3], [3, 4, 8, 13]), ([14, 3], [3, 14]), ([3, 15], [3, 15])])
def ins.B4 : List Nat := [0, 0, 3, 7, 15, 15, 15, 111, 239, 15, 15, 1039, 3599, 7695, 16383, 32767, 65535]
theorem ins.tab4 : rtab .any (opsOf Try.f119 4) = ins.T4 := by kernel_rfl
theorem ins.bits4 : waitsOk ins.T4.2 ins.B4 = true := by kernel_rfl
def ins.T6 : Bool × List (List Nat × List Nat) := (true, [([], []), ([], []), ([], []), ([], []), ([3], [3]), ([], []), ([], []), ([6], [6]), ([5, 7], [5, 7]), ([8], [8]), ([], []), ([], []), ([10, 11], [10, 11]), ([12], [12]), ([0, 1, 0, 1, 5, 6, 7, 8, 9, 13], [0, 1]), ([14, 9, 0, 1, 5, 6, 7, 8, 9, 13], [9, 14]), ([2, 4, 0, 1, 2, 3, 4, 5, 6, 7, 8, 9, 10, 11, 12, 13, 14, 15], [2, 4]), ([16, 13, 15, 0, 1, 2, 3, 4, 5, 6, 7, 8, 9, 10, 11, 12, 13, 14, 15], [13, 16])])
def ins.B6 : List Nat := [0, 0, 0, 0, 8, 0, 0, 64, 224, 480, 0, 0, 3072, 7168, 16355, 32739, 65535, 131071]
theorem ins.tab6 : rtab .any (opsOf Try.f119 6) = ins.T6 := by kernel_rfl
theorem ins.bits6 : waitsOk ins.T6.2 ins.B6 = true := by kernel_rfl
def Cmp (lt : Rec → Rec → Bool) : Prop := ∀ (W : World) (x y : Rec), Calls Try.prog 85 #[.agg #[.int .i64 x.nr, .int .i64 x.kd, .slice x.A x.n x.c], .agg #[.int .i64 y.nr, .int .i64 y.kd, .slice y.A y.n y.c]] W fun e w' => ∃ r : Int, e = .returned (.int .i64 r) ∧ decide (r < 0) = lt x y ∧ Below W.heap.size W w'
set_option maxHeartbeats 8000000 in
set_option maxRecDepth 100000 in
theorem ins_calls (lt : Rec → Rec → Bool) (ho : Ord lt) (hc : Cmp lt) (N : Nat) (w0 : World) (g : Nat) (hg : N ≤ g) (cp : Nat) (ia ib n : Nat) (P S Q : List Rec) (hP : P.length = ia) (hS : ia + S.length = ib) (hn : (P ++ (S ++ Q)).length = n) (hn2 : n ≤ 1000000) (w : World) (hB : Kp g w0 w) (hR : RowB w g (P ++ (S ++ Q))) :
    Calls Try.prog 119 #[.slice (some ⟨g, 0, none⟩) n cp, .int .i64 (ia : Int), .int .i64 (ib : Int), .func (.func 85) #[] #[]] w fun e w' => e = .returned (.tuple #[]) ∧ Kp g w0 w' ∧ RowB w' g (P ++ (ssort lt S ++ Q)) := by
  have HG := Aside0.mk hg
  have HO := Aside0.mk ho
  have HCMP : Aside0 (∀ (W : World) (x y : Rec), Calls Try.prog 85 #[.agg #[.int .i64 x.nr, .int .i64 x.kd, .slice x.A x.n x.c], .agg #[.int .i64 y.nr, .int .i64 y.kd, .slice y.A y.n y.c]] W fun e w' => ∃ r : Int, e = .returned (.int .i64 r) ∧ decide (r < 0) = lt x y ∧ Below W.heap.size W w') := ⟨hc⟩
  have HL : Aside0 (P.length = ia ∧ ia + S.length = ib ∧ P.length + (S.length + Q.length) = n ∧ n ≤ 1000000) := ⟨hP, hS, by rw [← hn]; simp only [List.length_append], hn2⟩
  have hS1 : ssort lt (S.take 1) ++ S.drop 1 = S := by
    cases S with
    | nil => rfl
    | cons s S => simp [ssort_one]
  have HR : Aside0 (RowB w g (P ++ (ssort lt (S.take (ia + 1 - ia)) ++ (S.drop (ia + 1 - ia) ++ Q)))) := ⟨by rw [Nat.add_sub_cancel_left, ← List.append_assoc (ssort lt _), hS1]; exact hR⟩
  replace hB := Aside0.mk hB
  clear hg ho hc hP hS hn hn2 hR hS1
  go_enter Try.func119, Try.ntmps119
  go_wp2_with fail
  go_loopg [8] (S.length + 1) (fun kq v8 w' => ∃ i : Nat, v8 = .int .i64 (i : Int) ∧ Aside0 (ia < i ∧ (i ≤ ib ∨ i = ia + 1)) ∧ Aside0 (RowB w' g (P ++ (ssort lt (S.take (i - ia)) ++ (S.drop (i - ia) ++ Q)))) ∧ Aside0 (Kp g w0 w') ∧ Aside0 (kq + i = ib + 2))
  case atStart => exact ⟨ia + 1, by first | rfl | (simp; unfold wrap64; have := HL.out; omega), ⟨by omega⟩, HR, hB, ⟨by have := HL.out; omega⟩⟩
  case round =>
    clear HR hB
    obtain ⟨i, rfl, HI, RR, BB, HQ⟩ := hrel
    by_cases hi : i < ib
    case neg =>
      have t1 : decide (i < ib) = false := decide_eq_false hi
      have h1 : S.take (i - ia) = S := List.take_of_length_le (by have := HL.out; omega)
      have h2 : S.drop (i - ia) = [] := List.drop_of_length_le (by have := HL.out; omega)
      have rr := RR.out
      rw [h1, h2, List.nil_append] at rr
      replace rr := Aside0.mk rr
      clear hi h1 h2 RR
      go_wp2_with fail
      go_end0
      exact ⟨rfl, BB.out, rr.out⟩
    case pos =>
      have t1 : decide (i < ib) = true := decide_eq_true hi
      have hk : i - ia < S.length := by have := HL.out; have := HI.out; omega
      obtain ⟨x, hx⟩ : ∃ x, S[i - ia]? = some x := ⟨_, List.getElem?_eq_getElem hk⟩
      have HIN : Aside0 (∃ A1 A2, RowB wr g (P ++ (A1 ++ (x :: (A2 ++ (S.drop (i - ia + 1) ++ Q))))) ∧ P.length + A1.length = i ∧ Sorted lt A1 ∧ put lt x A1 ++ A2 = ssort lt (S.take (i + 1 - ia))) := ⟨ssort lt (S.take (i - ia)), [], by
        have rr := RR.out
        rw [List.drop_eq_getElem_cons hk, show S[i - ia] = x from Option.some.inj ((List.getElem?_eq_getElem hk).symm.trans hx)] at rr
        exact rr, by rw [ssort_length, List.length_take]; have := HL.out; have := HI.out; omega, (ssort_stable HO.out _).1, by rw [List.append_nil, show i + 1 - ia = i - ia + 1 by have := HI.out; omega, ssort_take lt S _ x hx]⟩
      have HI2 := Aside0.mk hi
      obtain ⟨T, hT⟩ : ∃ T, T = ssort lt (S.take (i + 1 - ia)) := ⟨_, rfl⟩
      obtain ⟨R, hRR⟩ : ∃ R, R = S.drop (i - ia + 1) ++ Q := ⟨_, rfl⟩
      have hTL : T.length = i + 1 - ia := by rw [hT, ssort_length, List.length_take]; omega
      have HLN : Aside0 (P.length + (T.length + R.length) = n) := ⟨by rw [hTL, hRR, List.length_append, List.length_drop]; have := HL.out; have := HI.out; omega⟩
      rw [← hT, ← hRR] at HIN
      have HT := Aside0.mk hT
      have HR2 : Aside0 (R = S.drop (i + 1 - ia) ++ Q) := ⟨by rw [show i + 1 - ia = i - ia + 1 by have := HI.out; omega]; exact hRR⟩
      clear hi hk hx RR hT hRR hTL
      go_upto_region 4 with fail
      go_loopg [9] (i + 1) (fun kq v9 w' => ∃ j : Nat, v9 = .int .i64 (j : Int) ∧ Aside0 (∃ A1 A2, RowB w' g (P ++ (A1 ++ (x :: (A2 ++ R)))) ∧ P.length + A1.length = j ∧ Sorted lt A1 ∧ put lt x A1 ++ A2 = T) ∧ Aside0 (Kp g w0 w') ∧ Aside0 (kq = j + 1))
      case atStart => exact ⟨i, rfl, HIN, BB, ⟨rfl⟩⟩
      case round =>
      clear HIN BB
      obtain ⟨j, rfl, HIN, BB, HQJ⟩ := hrel
      go_upto_region 4 with fail
      obtain ⟨A1, A2, rr, hj, hs, hp⟩ := HIN.out
      clear HIN
      have hpl : A1.length + 1 + A2.length = T.length := by rw [← hp, put_mrg, List.length_append, mrg_length]; rfl
      have hlen : (P ++ (A1 ++ (x :: (A2 ++ R)))).length = n := by rw [← HLN.out]; simp only [List.length_append, List.length_cons]; omega
      obtain ⟨dd, hdd⟩ : ∃ dd, dd = P ++ (A1 ++ (x :: (A2 ++ R))) := ⟨_, rfl⟩
      have hx : dd[j]? = some x := by rw [hdd, List.getElem?_append_right (by omega), List.getElem?_append_right (by omega), show j - P.length - A1.length = 0 by omega]; rfl
      rw [← hdd] at rr hlen
      have hjn : j < n := by
        rcases Nat.lt_or_ge j dd.length with h | h
        · omega
        · rw [List.getElem?_eq_none h] at hx; cases hx
      have B0 := Aside0.mk (kp_drew BB.out)
      have R0 := Aside0.mk (RowB.below rr (below_drew1 (Below.refl wr.heap.size wr)))
      have HX_j := Aside0.mk hx
      have LO_j := Aside0.mk (eq_true (show (0 : Int) ≤ (j : Int) by omega))
      have HI_j := Aside0.mk (eq_true (show (j : Int) < (n : Int) by omega))
      clear rr BB
      rcases List.eq_nil_or_concat A1 with hnil | ⟨A0, y, hc⟩
      · have hje : j = ia := by rw [hnil] at hj; have := HL.out; simp at hj; omega
        have HGT : Aside0 (decide ((j : Int) > (ia : Int)) = false ∧ decide ((ia : Int) < (j : Int)) = false ∧ decide (ia < j) = false) := ⟨by simp [hje]⟩
        have HEND : Aside0 (dd = P ++ (T ++ R)) := ⟨by rw [hdd, ← hp, hnil]; simp [put]⟩
        clear hx hjn hlen hdd hpl hj hs hp hnil hje HX_j
        refine start_ (n := 17) (S := fun w' => True) (ds := []) #[false, false, false, false, false, false, false, false, false, false, false, false, false, false, false, false, false] (by kernel_rfl) rfl rfl trivial (fun hHeld => ?_)
        refine with_tabW ins.tab4 ins.bits4 (fun HT_ HW_ => ?_)
        generalize wr.drew = wq at B0 R0 hHeld ⊢
        refine inv_at [0, 1, 2, 3, 4, 5, 6, 7, 8, 9, 10, 11, 12, 13, 14, 15, 16] (fun a0_ b a w' => a = putSel a0_ b [(0, 18, .int .i64 (j : Int)), (1, 19, .int .i64 (ia : Int)), (2, 20, .bool false), (3, 21, .bool false), (4, 22, undef), (5, 23, undef), (6, 24, undef), (7, 25, undef), (8, 26, undef), (9, 27, undef), (10, 28, undef), (11, 29, undef), (12, 30, undef), (13, 31, undef), (14, 32, undef), (15, 33, undef), (16, 34, .bool false)] ∧ (Kp g w0 w') ∧ (RowB w' g dd)) HT_.out HW_.out (by kernel_rfl) (by kernel_rfl) ?_ ?_ ?_
        · exact ⟨by simp only [putSel, Bool.false_eq_true, if_false], B0.out, R0.out⟩
        · skip
          clear B0 R0
          refine steps_cons ?_ ?_
          · rintro b a w' ⟨ha, Q_B0, Q_R0⟩ hb_ hon hoff
            refine ⟨_, rfl, fun K hK => ?_⟩
            have e9 : a.tmps[9]? = some (.int .i64 (j : Int)) := by rw [ha]; exact (putSel_off rfl).trans rfl
            replace ha := Aside0.mk ha
            have B0 := Aside0.mk Q_B0
            have R0 := Aside0.mk Q_R0
            refine value_ (w1 := w') (v := .int .i64 (j : Int)) (by rfl) rfl ?_ ?_
            · go_simp
              (try simp only [i64_w])
              try rfl
            refine hK.out _ _ ⟨(by rw [ha.out]; exact putSel_upk 0 hb_ rfl rfl rfl), Q_B0, Q_R0⟩
          refine steps_cons ?_ ?_
          · rintro b a w' ⟨ha, Q_B0, Q_R0⟩ hb_ hon hoff
            refine ⟨_, rfl, fun K hK => ?_⟩
            have e1 : a.tmps[1]? = some (.int .i64 (ia : Int)) := by rw [ha]; exact (putSel_off rfl).trans rfl
            replace ha := Aside0.mk ha
            have B0 := Aside0.mk Q_B0
            have R0 := Aside0.mk Q_R0
            refine value_ (w1 := w') (v := .int .i64 (ia : Int)) (by rfl) rfl ?_ ?_
            · go_simp
              (try simp only [i64_w])
              try rfl
            refine hK.out _ _ ⟨(by rw [ha.out]; exact putSel_upk 1 hb_ rfl rfl rfl), Q_B0, Q_R0⟩
          refine steps_cons ?_ ?_
          · rintro b a w' ⟨ha, Q_B0, Q_R0⟩ hb_ hon hoff
            refine ⟨_, rfl, fun K hK => ?_⟩
            have e18 : a.tmps[18]? = some (.int .i64 (j : Int)) := by rw [ha]; exact putSel_on (e := (0, 18, .int .i64 (j : Int))) 0 rfl rfl (hon 0 (by kernel_rfl)) rfl
            have e19 : a.tmps[19]? = some (.int .i64 (ia : Int)) := by rw [ha]; exact putSel_on (e := (1, 19, .int .i64 (ia : Int))) 1 rfl rfl (hon 1 (by kernel_rfl)) rfl
            replace ha := Aside0.mk ha
            have B0 := Aside0.mk Q_B0
            have R0 := Aside0.mk Q_R0
            have hw0_ := HGT.out.1
            have hw1_ := HGT.out.2.1
            have hw2_ := HGT.out.2.2
            refine value_ (w1 := w') (v := .bool false) (by rfl) rfl ?_ ?_
            · go_simp
              (try simp only [i64_w])
              try rfl
            refine hK.out _ _ ⟨(by rw [ha.out]; exact putSel_upk 2 hb_ rfl rfl rfl), Q_B0, Q_R0⟩
          refine steps_cons ?_ ?_
          · rintro b a w' ⟨ha, Q_B0, Q_R0⟩ hb_ hon hoff
            refine ⟨_, rfl, fun K hK => ?_⟩
            have e20 : a.tmps[20]? = some (.bool false) := by rw [ha]; exact putSel_on (e := (2, 20, .bool false)) 2 rfl rfl (hon 2 (by kernel_rfl)) rfl
            replace ha := Aside0.mk ha
            have B0 := Aside0.mk Q_B0
            have R0 := Aside0.mk Q_R0
            refine value_ (w1 := w') (v := .bool false) (by rfl) rfl ?_ ?_
            · go_simp
              (try simp only [i64_w])
              try rfl
            refine hK.out _ _ ⟨(by rw [ha.out]; exact putSel_upk 3 hb_ rfl rfl rfl), Q_B0, Q_R0⟩
          refine steps_cons ?_ ?_
          · rintro b a w' ⟨ha, Q_B0, Q_R0⟩ hb_ hon hoff
            refine ⟨_, rfl, fun K hK => ?_⟩
            have e21 : a.tmps[21]? = some (.bool false) := by rw [ha]; exact putSel_on (e := (3, 21, .bool false)) 3 rfl rfl (hon 3 (by kernel_rfl)) rfl
            replace ha := Aside0.mk ha
            have B0 := Aside0.mk Q_B0
            have R0 := Aside0.mk Q_R0
            refine off_ (wanted_off rfl rfl rfl (e21.trans (by first | rfl | (simp [*]; done)))) ?_
            refine hK.out _ _ ⟨(by rw [ha.out]; exact putSel_upk 4 hb_ rfl rfl rfl), Q_B0, Q_R0⟩
          refine steps_cons ?_ ?_
          · rintro b a w' ⟨ha, Q_B0, Q_R0⟩ hb_ hon hoff
            refine ⟨_, rfl, fun K hK => ?_⟩
            have e21 : a.tmps[21]? = some (.bool false) := by rw [ha]; exact putSel_on (e := (3, 21, .bool false)) 3 rfl rfl (hon 3 (by kernel_rfl)) rfl
            replace ha := Aside0.mk ha
            have B0 := Aside0.mk Q_B0
            have R0 := Aside0.mk Q_R0
            refine off_ (wanted_off rfl rfl rfl (e21.trans (by first | rfl | (simp [*]; done)))) ?_
            refine hK.out _ _ ⟨(by rw [ha.out]; exact putSel_upk 5 hb_ rfl rfl rfl), Q_B0, Q_R0⟩
          refine steps_cons ?_ ?_
          · rintro b a w' ⟨ha, Q_B0, Q_R0⟩ hb_ hon hoff
            refine ⟨_, rfl, fun K hK => ?_⟩
            have e21 : a.tmps[21]? = some (.bool false) := by rw [ha]; exact putSel_on (e := (3, 21, .bool false)) 3 rfl rfl (hon 3 (by kernel_rfl)) rfl
            replace ha := Aside0.mk ha
            have B0 := Aside0.mk Q_B0
            have R0 := Aside0.mk Q_R0
            refine off_ (wanted_off rfl rfl rfl (e21.trans (by first | rfl | (simp [*]; done)))) ?_
            refine hK.out _ _ ⟨(by rw [ha.out]; exact putSel_upk 6 hb_ rfl rfl rfl), Q_B0, Q_R0⟩
          refine steps_cons ?_ ?_
          · rintro b a w' ⟨ha, Q_B0, Q_R0⟩ hb_ hon hoff
            refine ⟨_, rfl, fun K hK => ?_⟩
            have e21 : a.tmps[21]? = some (.bool false) := by rw [ha]; exact putSel_on (e := (3, 21, .bool false)) 3 rfl rfl (hon 3 (by kernel_rfl)) rfl
            replace ha := Aside0.mk ha
            have B0 := Aside0.mk Q_B0
            have R0 := Aside0.mk Q_R0
            refine off_ (wanted_off rfl rfl rfl (e21.trans (by first | rfl | (simp [*]; done)))) ?_
            refine hK.out _ _ ⟨(by rw [ha.out]; exact putSel_upk 7 hb_ rfl rfl rfl), Q_B0, Q_R0⟩
          refine steps_cons ?_ ?_
          · rintro b a w' ⟨ha, Q_B0, Q_R0⟩ hb_ hon hoff
            refine ⟨_, rfl, fun K hK => ?_⟩
            have e21 : a.tmps[21]? = some (.bool false) := by rw [ha]; exact putSel_on (e := (3, 21, .bool false)) 3 rfl rfl (hon 3 (by kernel_rfl)) rfl
            replace ha := Aside0.mk ha
            have B0 := Aside0.mk Q_B0
            have R0 := Aside0.mk Q_R0
            refine off_ (wanted_off rfl rfl rfl (e21.trans (by first | rfl | (simp [*]; done)))) ?_
            refine hK.out _ _ ⟨(by rw [ha.out]; exact putSel_upk 8 hb_ rfl rfl rfl), Q_B0, Q_R0⟩
          refine steps_cons ?_ ?_
          · rintro b a w' ⟨ha, Q_B0, Q_R0⟩ hb_ hon hoff
            refine ⟨_, rfl, fun K hK => ?_⟩
            have e21 : a.tmps[21]? = some (.bool false) := by rw [ha]; exact putSel_on (e := (3, 21, .bool false)) 3 rfl rfl (hon 3 (by kernel_rfl)) rfl
            replace ha := Aside0.mk ha
            have B0 := Aside0.mk Q_B0
            have R0 := Aside0.mk Q_R0
            refine off_ (wanted_off rfl rfl rfl (e21.trans (by first | rfl | (simp [*]; done)))) ?_
            refine hK.out _ _ ⟨(by rw [ha.out]; exact putSel_upk 9 hb_ rfl rfl rfl), Q_B0, Q_R0⟩
          refine steps_cons ?_ ?_
          · rintro b a w' ⟨ha, Q_B0, Q_R0⟩ hb_ hon hoff
            refine ⟨_, rfl, fun K hK => ?_⟩
            have e21 : a.tmps[21]? = some (.bool false) := by rw [ha]; exact putSel_on (e := (3, 21, .bool false)) 3 rfl rfl (hon 3 (by kernel_rfl)) rfl
            replace ha := Aside0.mk ha
            have B0 := Aside0.mk Q_B0
            have R0 := Aside0.mk Q_R0
            refine off_ (wanted_off rfl rfl rfl (e21.trans (by first | rfl | (simp [*]; done)))) ?_
            refine hK.out _ _ ⟨(by rw [ha.out]; exact putSel_upk 10 hb_ rfl rfl rfl), Q_B0, Q_R0⟩
          refine steps_cons ?_ ?_
          · rintro b a w' ⟨ha, Q_B0, Q_R0⟩ hb_ hon hoff
            refine ⟨_, rfl, fun K hK => ?_⟩
            have e21 : a.tmps[21]? = some (.bool false) := by rw [ha]; exact putSel_on (e := (3, 21, .bool false)) 3 rfl rfl (hon 3 (by kernel_rfl)) rfl
            replace ha := Aside0.mk ha
            have B0 := Aside0.mk Q_B0
            have R0 := Aside0.mk Q_R0
            refine off_ (wanted_off rfl rfl rfl (e21.trans (by first | rfl | (simp [*]; done)))) ?_
            refine hK.out _ _ ⟨(by rw [ha.out]; exact putSel_upk 11 hb_ rfl rfl rfl), Q_B0, Q_R0⟩
          refine steps_cons ?_ ?_
          · rintro b a w' ⟨ha, Q_B0, Q_R0⟩ hb_ hon hoff
            refine ⟨_, rfl, fun K hK => ?_⟩
            have e21 : a.tmps[21]? = some (.bool false) := by rw [ha]; exact putSel_on (e := (3, 21, .bool false)) 3 rfl rfl (hon 3 (by kernel_rfl)) rfl
            replace ha := Aside0.mk ha
            have B0 := Aside0.mk Q_B0
            have R0 := Aside0.mk Q_R0
            refine off_ (wanted_off rfl rfl rfl (e21.trans (by first | rfl | (simp [*]; done)))) ?_
            refine hK.out _ _ ⟨(by rw [ha.out]; exact putSel_upk 12 hb_ rfl rfl rfl), Q_B0, Q_R0⟩
          refine steps_cons ?_ ?_
          · rintro b a w' ⟨ha, Q_B0, Q_R0⟩ hb_ hon hoff
            refine ⟨_, rfl, fun K hK => ?_⟩
            have e21 : a.tmps[21]? = some (.bool false) := by rw [ha]; exact putSel_on (e := (3, 21, .bool false)) 3 rfl rfl (hon 3 (by kernel_rfl)) rfl
            replace ha := Aside0.mk ha
            have B0 := Aside0.mk Q_B0
            have R0 := Aside0.mk Q_R0
            refine off_ (wanted_off rfl rfl rfl (e21.trans (by first | rfl | (simp [*]; done)))) ?_
            refine hK.out _ _ ⟨(by rw [ha.out]; exact putSel_upk 13 hb_ rfl rfl rfl), Q_B0, Q_R0⟩
          refine steps_cons ?_ ?_
          · rintro b a w' ⟨ha, Q_B0, Q_R0⟩ hb_ hon hoff
            refine ⟨_, rfl, fun K hK => ?_⟩
            have e21 : a.tmps[21]? = some (.bool false) := by rw [ha]; exact putSel_on (e := (3, 21, .bool false)) 3 rfl rfl (hon 3 (by kernel_rfl)) rfl
            replace ha := Aside0.mk ha
            have B0 := Aside0.mk Q_B0
            have R0 := Aside0.mk Q_R0
            refine off_ (wanted_off rfl rfl rfl (e21.trans (by first | rfl | (simp [*]; done)))) ?_
            refine hK.out _ _ ⟨(by rw [ha.out]; exact putSel_upk 14 hb_ rfl rfl rfl), Q_B0, Q_R0⟩
          refine steps_cons ?_ ?_
          · rintro b a w' ⟨ha, Q_B0, Q_R0⟩ hb_ hon hoff
            refine ⟨_, rfl, fun K hK => ?_⟩
            have e21 : a.tmps[21]? = some (.bool false) := by rw [ha]; exact putSel_on (e := (3, 21, .bool false)) 3 rfl rfl (hon 3 (by kernel_rfl)) rfl
            replace ha := Aside0.mk ha
            have B0 := Aside0.mk Q_B0
            have R0 := Aside0.mk Q_R0
            refine off_ (wanted_off rfl rfl rfl (e21.trans (by first | rfl | (simp [*]; done)))) ?_
            refine hK.out _ _ ⟨(by rw [ha.out]; exact putSel_upk 15 hb_ rfl rfl rfl), Q_B0, Q_R0⟩
          refine steps_cons ?_ ?_
          · rintro b a w' ⟨ha, Q_B0, Q_R0⟩ hb_ hon hoff
            refine ⟨_, rfl, fun K hK => ?_⟩
            have e21 : a.tmps[21]? = some (.bool false) := by rw [ha]; exact putSel_on (e := (3, 21, .bool false)) 3 rfl rfl (hon 3 (by kernel_rfl)) rfl
            have e33 : a.tmps[33]? = some (undef) := by rw [ha]; exact putSel_on (e := (15, 33, undef)) 15 rfl rfl (hon 15 (by kernel_rfl)) rfl
            replace ha := Aside0.mk ha
            have B0 := Aside0.mk Q_B0
            have R0 := Aside0.mk Q_R0
            refine value_ (w1 := w') (v := .bool false) (by rfl) rfl ?_ ?_
            · go_simp
              (try simp only [i64_w])
              try rfl
            refine hK.out _ _ ⟨(by rw [ha.out]; exact putSel_upk 16 hb_ rfl rfl rfl), Q_B0, Q_R0⟩
          exact steps_nil
        rintro b a wl hall ⟨ha, Q_B0, Q_R0⟩
        clear B0 R0
        have hb0_ := hall 0 (by kernel_rfl)
        have hb1_ := hall 1 (by kernel_rfl)
        have hb2_ := hall 2 (by kernel_rfl)
        have hb3_ := hall 3 (by kernel_rfl)
        have hb4_ := hall 4 (by kernel_rfl)
        have hb5_ := hall 5 (by kernel_rfl)
        have hb6_ := hall 6 (by kernel_rfl)
        have hb7_ := hall 7 (by kernel_rfl)
        have hb8_ := hall 8 (by kernel_rfl)
        have hb9_ := hall 9 (by kernel_rfl)
        have hb10_ := hall 10 (by kernel_rfl)
        have hb11_ := hall 11 (by kernel_rfl)
        have hb12_ := hall 12 (by kernel_rfl)
        have hb13_ := hall 13 (by kernel_rfl)
        have hb14_ := hall 14 (by kernel_rfl)
        have hb15_ := hall 15 (by kernel_rfl)
        have hb16_ := hall 16 (by kernel_rfl)
        subst ha
        simp only [putSel, hb0_, hb1_, hb2_, hb3_, hb4_, hb5_, hb6_, hb7_, hb8_, hb9_, hb10_, hb11_, hb12_, hb13_, hb14_, hb15_, hb16_, if_true, Act.put, List.setIfInBounds_toArray, List.set_cons_zero, List.set_cons_succ]
        have B0 := Aside0.mk Q_B0
        clear Q_B0
        have R0 := Aside0.mk Q_R0
        clear Q_R0
        clear hall hb0_ hb1_ hb2_ hb3_ hb4_ hb5_ hb6_ hb7_ hb8_ hb9_ hb10_ hb11_ hb12_ hb13_ hb14_ hb15_ hb16_
        go_wp2_with fail
        go_roundg (ib + 1 - i)
        case measure => have := HQ.out; have := HI2.out; omega
        case rel => exact ⟨i + 1, by first | rfl | (simp; unfold wrap64; have := HI2.out; have := HL.out; omega), ⟨by have := HI2.out; have := HI.out; omega⟩, ⟨by rw [← HT.out, ← HR2.out, ← HEND.out]; exact R0.out⟩, B0, ⟨by have := HI2.out; omega⟩⟩
      · have hjl : P.length + A0.length + 1 = j := by rw [← hj, hc]; simp [Nat.add_assoc]
        obtain ⟨j1, hj1⟩ : ∃ j1, j1 = P.length + A0.length := ⟨_, rfl⟩
        have hy : dd[j1]? = some y := by rw [hdd, hc, List.getElem?_append_right (by omega), List.concat_eq_append, List.append_assoc, List.getElem?_append_right (by omega), show j1 - P.length - A0.length = 0 by omega]; rfl
        have HX_j1 := Aside0.mk hy
        have HW1 : Aside0 (IntKind.i64.wrap ((j : Int) - 1) = (j1 : Int)) := ⟨by rw [i64_w]; unfold wrap64; have := HL.out; omega⟩
        have HX2 : Aside0 ((dd.set j y)[j1]? = some y) := ⟨by rw [List.getElem?_set_ne (by omega)]; exact hy⟩
        have LO_j1 := Aside0.mk (eq_true (show (0 : Int) ≤ (j1 : Int) by omega))
        have HI_j1 := Aside0.mk (eq_true (show (j1 : Int) < (n : Int) by omega))
        have HGT : Aside0 (decide ((j : Int) > (ia : Int)) = true ∧ decide ((ia : Int) < (j : Int)) = true ∧ decide (ia < j) = true) := ⟨by have := HL.out; refine ⟨decide_eq_true (by omega), decide_eq_true (by omega), decide_eq_true (by omega)⟩⟩
        have hcc : A1 = A0 ++ [y] := by rw [hc, List.concat_eq_append]
        rw [hcc] at hs hp
        have HJ := Aside0.mk (And.intro hjl (And.intro hj1 hjn))
        by_cases htv : lt x y = true
        · have HTV := Aside0.mk htv
          have HIN : Aside0 (∃ A1 A2', (dd.set j y).set j1 x = P ++ (A1 ++ (x :: (A2' ++ R))) ∧ P.length + A1.length = j1 ∧ Sorted lt A1 ∧ put lt x A1 ++ A2' = T) := ⟨A0, y :: A2, by
            have h1 : swp1 dd j j1 = (dd.set j y).set j1 x := by unfold swp1; rw [hx, hy]
            rw [← h1, swp1_comm dd j j1 (by omega) (by omega), hdd, hcc]
            have h2 := swp1_next (P ++ A0) (A2 ++ R) y x
            rw [show (P ++ A0).length = j1 by rw [List.length_append]; omega, show j1 + 1 = j by omega] at h2
            simpa [List.append_assoc] using h2, by omega, (List.pairwise_append.1 hs).1, by rw [← hp, put_last lt x y htv, List.append_assoc]; rfl⟩
          clear htv hx hy hjn hlen hdd hpl hj hs hp hc hcc hjl hj1
          refine start_ (n := 17) (S := fun w' => True) (ds := []) #[false, false, false, false, false, false, false, false, false, false, false, false, false, false, false, false, false] (by kernel_rfl) rfl rfl trivial (fun hHeld => ?_)
          refine with_tabW ins.tab4 ins.bits4 (fun HT_ HW_ => ?_)
          generalize wr.drew = wq at B0 R0 hHeld ⊢
          refine inv_at [0, 1, 2, 3, 4, 5, 6, 7, 8, 9, 10, 11, 12, 13, 14, 15, 16] (fun a0_ b a w' => ∃ (rv : Value), a = putSel a0_ b [(0, 18, .int .i64 (j : Int)), (1, 19, .int .i64 (ia : Int)), (2, 20, .bool true), (3, 21, .bool true), (4, 22, .func (.func 85) #[] #[]), (5, 23, .slice (some ⟨g, 0, none⟩) n cp), (6, 24, .int .i64 (j : Int)), (7, 25, .pointer (some ⟨g, j * 3, none⟩)), (8, 26, .agg #[.int .i64 x.nr, .int .i64 x.kd, .slice x.A x.n x.c]), (9, 27, .slice (some ⟨g, 0, none⟩) n cp), (10, 28, .int .i64 (j : Int)), (11, 29, .int .i64 (j1 : Int)), (12, 30, .pointer (some ⟨g, j1 * 3, none⟩)), (13, 31, .agg #[.int .i64 y.nr, .int .i64 y.kd, .slice y.A y.n y.c]), (14, 32, rv), (15, 33, .bool true), (16, 34, .bool true)] ∧ (Kp g w0 w') ∧ (RowB w' g dd) ∧ (b 14 = true → ∃ r_ : Int, rv = .int .i64 r_ ∧ decide (r_ < 0) = true)) HT_.out HW_.out (by kernel_rfl) (by kernel_rfl) ?_ ?_ ?_
          · exact ⟨.bool false, by simp only [putSel, Bool.false_eq_true, if_false], B0.out, R0.out, fun h_ => absurd h_ (by decide)⟩
          · skip
            clear B0 R0
            refine steps_cons ?_ ?_
            · rintro b a w' ⟨rv, ha, Q_B0, Q_R0, Q_HRV⟩ hb_ hon hoff
              refine ⟨_, rfl, fun K hK => ?_⟩
              have e9 : a.tmps[9]? = some (.int .i64 (j : Int)) := by rw [ha]; exact (putSel_off rfl).trans rfl
              replace ha := Aside0.mk ha
              have B0 := Aside0.mk Q_B0
              have R0 := Aside0.mk Q_R0
              refine value_ (w1 := w') (v := .int .i64 (j : Int)) (by rfl) rfl ?_ ?_
              · go_simp
                (try simp only [i64_w])
                try rfl
              refine hK.out _ _ ⟨rv, (by rw [ha.out]; exact putSel_upk 0 hb_ rfl rfl rfl), Q_B0, Q_R0, fun h0_ => absurd ((hoff 14 (by kernel_rfl)).symm.trans h0_) (by decide)⟩
            refine steps_cons ?_ ?_
            · rintro b a w' ⟨rv, ha, Q_B0, Q_R0, Q_HRV⟩ hb_ hon hoff
              refine ⟨_, rfl, fun K hK => ?_⟩
              have e1 : a.tmps[1]? = some (.int .i64 (ia : Int)) := by rw [ha]; exact (putSel_off rfl).trans rfl
              replace ha := Aside0.mk ha
              have B0 := Aside0.mk Q_B0
              have R0 := Aside0.mk Q_R0
              refine value_ (w1 := w') (v := .int .i64 (ia : Int)) (by rfl) rfl ?_ ?_
              · go_simp
                (try simp only [i64_w])
                try rfl
              refine hK.out _ _ ⟨rv, (by rw [ha.out]; exact putSel_upk 1 hb_ rfl rfl rfl), Q_B0, Q_R0, fun h0_ => absurd ((hoff 14 (by kernel_rfl)).symm.trans h0_) (by decide)⟩
            refine steps_cons ?_ ?_
            · rintro b a w' ⟨rv, ha, Q_B0, Q_R0, Q_HRV⟩ hb_ hon hoff
              refine ⟨_, rfl, fun K hK => ?_⟩
              have e18 : a.tmps[18]? = some (.int .i64 (j : Int)) := by rw [ha]; exact putSel_on (e := (0, 18, .int .i64 (j : Int))) 0 rfl rfl (hon 0 (by kernel_rfl)) rfl
              have e19 : a.tmps[19]? = some (.int .i64 (ia : Int)) := by rw [ha]; exact putSel_on (e := (1, 19, .int .i64 (ia : Int))) 1 rfl rfl (hon 1 (by kernel_rfl)) rfl
              replace ha := Aside0.mk ha
              have B0 := Aside0.mk Q_B0
              have R0 := Aside0.mk Q_R0
              have hw0_ := HGT.out.1
              have hw1_ := HGT.out.2.1
              have hw2_ := HGT.out.2.2
              refine value_ (w1 := w') (v := .bool true) (by rfl) rfl ?_ ?_
              · go_simp
                (try simp only [i64_w])
                try rfl
              refine hK.out _ _ ⟨rv, (by rw [ha.out]; exact putSel_upk 2 hb_ rfl rfl rfl), Q_B0, Q_R0, fun h0_ => absurd ((hoff 14 (by kernel_rfl)).symm.trans h0_) (by decide)⟩
            refine steps_cons ?_ ?_
            · rintro b a w' ⟨rv, ha, Q_B0, Q_R0, Q_HRV⟩ hb_ hon hoff
              refine ⟨_, rfl, fun K hK => ?_⟩
              have e20 : a.tmps[20]? = some (.bool true) := by rw [ha]; exact putSel_on (e := (2, 20, .bool true)) 2 rfl rfl (hon 2 (by kernel_rfl)) rfl
              replace ha := Aside0.mk ha
              have B0 := Aside0.mk Q_B0
              have R0 := Aside0.mk Q_R0
              refine value_ (w1 := w') (v := .bool true) (by rfl) rfl ?_ ?_
              · go_simp
                (try simp only [i64_w])
                try rfl
              refine hK.out _ _ ⟨rv, (by rw [ha.out]; exact putSel_upk 3 hb_ rfl rfl rfl), Q_B0, Q_R0, fun h0_ => absurd ((hoff 14 (by kernel_rfl)).symm.trans h0_) (by decide)⟩
            refine steps_cons ?_ ?_
            · rintro b a w' ⟨rv, ha, Q_B0, Q_R0, Q_HRV⟩ hb_ hon hoff
              refine ⟨_, rfl, fun K hK => ?_⟩
              have e3 : a.tmps[3]? = some (.func (.func 85) #[] #[]) := by rw [ha]; exact (putSel_off rfl).trans rfl
              have e21 : a.tmps[21]? = some (.bool true) := by rw [ha]; exact putSel_on (e := (3, 21, .bool true)) 3 rfl rfl (hon 3 (by kernel_rfl)) rfl
              replace ha := Aside0.mk ha
              have B0 := Aside0.mk Q_B0
              have R0 := Aside0.mk Q_R0
              refine value_ (w1 := w') (v := .func (.func 85) #[] #[]) (wanted_on rfl rfl rfl (e21.trans (by first | rfl | (simp [*]; done)))) rfl ?_ ?_
              · go_simp
                (try simp only [i64_w])
                try rfl
              refine hK.out _ _ ⟨rv, (by rw [ha.out]; exact putSel_upk 4 hb_ rfl rfl rfl), Q_B0, Q_R0, fun h0_ => absurd ((hoff 14 (by kernel_rfl)).symm.trans h0_) (by decide)⟩
            refine steps_cons ?_ ?_
            · rintro b a w' ⟨rv, ha, Q_B0, Q_R0, Q_HRV⟩ hb_ hon hoff
              refine ⟨_, rfl, fun K hK => ?_⟩
              have e0 : a.tmps[0]? = some (.slice (some ⟨g, 0, none⟩) n cp) := by rw [ha]; exact (putSel_off rfl).trans rfl
              have e21 : a.tmps[21]? = some (.bool true) := by rw [ha]; exact putSel_on (e := (3, 21, .bool true)) 3 rfl rfl (hon 3 (by kernel_rfl)) rfl
              replace ha := Aside0.mk ha
              have B0 := Aside0.mk Q_B0
              have R0 := Aside0.mk Q_R0
              refine value_ (w1 := w') (v := .slice (some ⟨g, 0, none⟩) n cp) (wanted_on rfl rfl rfl (e21.trans (by first | rfl | (simp [*]; done)))) rfl ?_ ?_
              · go_simp
                (try simp only [i64_w])
                try rfl
              refine hK.out _ _ ⟨rv, (by rw [ha.out]; exact putSel_upk 5 hb_ rfl rfl rfl), Q_B0, Q_R0, fun h0_ => absurd ((hoff 14 (by kernel_rfl)).symm.trans h0_) (by decide)⟩
            refine steps_cons ?_ ?_
            · rintro b a w' ⟨rv, ha, Q_B0, Q_R0, Q_HRV⟩ hb_ hon hoff
              refine ⟨_, rfl, fun K hK => ?_⟩
              have e9 : a.tmps[9]? = some (.int .i64 (j : Int)) := by rw [ha]; exact (putSel_off rfl).trans rfl
              have e21 : a.tmps[21]? = some (.bool true) := by rw [ha]; exact putSel_on (e := (3, 21, .bool true)) 3 rfl rfl (hon 3 (by kernel_rfl)) rfl
              replace ha := Aside0.mk ha
              have B0 := Aside0.mk Q_B0
              have R0 := Aside0.mk Q_R0
              refine value_ (w1 := w') (v := .int .i64 (j : Int)) (wanted_on rfl rfl rfl (e21.trans (by first | rfl | (simp [*]; done)))) rfl ?_ ?_
              · go_simp
                (try simp only [i64_w])
                try rfl
              refine hK.out _ _ ⟨rv, (by rw [ha.out]; exact putSel_upk 6 hb_ rfl rfl rfl), Q_B0, Q_R0, fun h0_ => absurd ((hoff 14 (by kernel_rfl)).symm.trans h0_) (by decide)⟩
            refine steps_cons ?_ ?_
            · rintro b a w' ⟨rv, ha, Q_B0, Q_R0, Q_HRV⟩ hb_ hon hoff
              refine ⟨_, rfl, fun K hK => ?_⟩
              have e23 : a.tmps[23]? = some (.slice (some ⟨g, 0, none⟩) n cp) := by rw [ha]; exact putSel_on (e := (5, 23, .slice (some ⟨g, 0, none⟩) n cp)) 5 rfl rfl (hon 5 (by kernel_rfl)) rfl
              have e24 : a.tmps[24]? = some (.int .i64 (j : Int)) := by rw [ha]; exact putSel_on (e := (6, 24, .int .i64 (j : Int))) 6 rfl rfl (hon 6 (by kernel_rfl)) rfl
              have e21 : a.tmps[21]? = some (.bool true) := by rw [ha]; exact putSel_on (e := (3, 21, .bool true)) 3 rfl rfl (hon 3 (by kernel_rfl)) rfl
              replace ha := Aside0.mk ha
              have B0 := Aside0.mk Q_B0
              have R0 := Aside0.mk Q_R0
              have p1_ := LO_j.out
              have q1_ := HI_j.out
              refine value_ (w1 := w') (v := .pointer (some ⟨g, j * 3, none⟩)) (wanted_on rfl rfl rfl (e21.trans (by first | rfl | (simp [*]; done)))) rfl ?_ ?_
              · go_simp
                (try simp only [i64_w])
                try rfl
              refine hK.out _ _ ⟨rv, (by rw [ha.out]; exact putSel_upk 7 hb_ rfl rfl rfl), Q_B0, Q_R0, fun h0_ => absurd ((hoff 14 (by kernel_rfl)).symm.trans h0_) (by decide)⟩
            refine steps_cons ?_ ?_
            · rintro b a w' ⟨rv, ha, Q_B0, Q_R0, Q_HRV⟩ hb_ hon hoff
              refine ⟨_, rfl, fun K hK => ?_⟩
              have e25 : a.tmps[25]? = some (.pointer (some ⟨g, j * 3, none⟩)) := by rw [ha]; exact putSel_on (e := (7, 25, .pointer (some ⟨g, j * 3, none⟩))) 7 rfl rfl (hon 7 (by kernel_rfl)) rfl
              have e21 : a.tmps[21]? = some (.bool true) := by rw [ha]; exact putSel_on (e := (3, 21, .bool true)) 3 rfl rfl (hon 3 (by kernel_rfl)) rfl
              replace ha := Aside0.mk ha
              have B0 := Aside0.mk Q_B0
              have R0 := Aside0.mk Q_R0
              have cs_ := R0.out.cells HX_j.out
              refine value_ (w1 := w') (v := .agg #[.int .i64 x.nr, .int .i64 x.kd, .slice x.A x.n x.c]) (wanted_on rfl rfl rfl (e21.trans (by first | rfl | (simp [*]; done)))) rfl ?_ ?_
              · go_simp
                (try simp only [i64_w])
                try rfl
              refine hK.out _ _ ⟨rv, (by rw [ha.out]; exact putSel_upk 8 hb_ rfl rfl rfl), Q_B0, Q_R0, fun h0_ => absurd ((hoff 14 (by kernel_rfl)).symm.trans h0_) (by decide)⟩
            refine steps_cons ?_ ?_
            · rintro b a w' ⟨rv, ha, Q_B0, Q_R0, Q_HRV⟩ hb_ hon hoff
              refine ⟨_, rfl, fun K hK => ?_⟩
              have e0 : a.tmps[0]? = some (.slice (some ⟨g, 0, none⟩) n cp) := by rw [ha]; exact (putSel_off rfl).trans rfl
              have e21 : a.tmps[21]? = some (.bool true) := by rw [ha]; exact putSel_on (e := (3, 21, .bool true)) 3 rfl rfl (hon 3 (by kernel_rfl)) rfl
              replace ha := Aside0.mk ha
              have B0 := Aside0.mk Q_B0
              have R0 := Aside0.mk Q_R0
              refine value_ (w1 := w') (v := .slice (some ⟨g, 0, none⟩) n cp) (wanted_on rfl rfl rfl (e21.trans (by first | rfl | (simp [*]; done)))) rfl ?_ ?_
              · go_simp
                (try simp only [i64_w])
                try rfl
              refine hK.out _ _ ⟨rv, (by rw [ha.out]; exact putSel_upk 9 hb_ rfl rfl rfl), Q_B0, Q_R0, fun h0_ => absurd ((hoff 14 (by kernel_rfl)).symm.trans h0_) (by decide)⟩
            refine steps_cons ?_ ?_
            · rintro b a w' ⟨rv, ha, Q_B0, Q_R0, Q_HRV⟩ hb_ hon hoff
              refine ⟨_, rfl, fun K hK => ?_⟩
              have e9 : a.tmps[9]? = some (.int .i64 (j : Int)) := by rw [ha]; exact (putSel_off rfl).trans rfl
              have e21 : a.tmps[21]? = some (.bool true) := by rw [ha]; exact putSel_on (e := (3, 21, .bool true)) 3 rfl rfl (hon 3 (by kernel_rfl)) rfl
              replace ha := Aside0.mk ha
              have B0 := Aside0.mk Q_B0
              have R0 := Aside0.mk Q_R0
              refine value_ (w1 := w') (v := .int .i64 (j : Int)) (wanted_on rfl rfl rfl (e21.trans (by first | rfl | (simp [*]; done)))) rfl ?_ ?_
              · go_simp
                (try simp only [i64_w])
                try rfl
              refine hK.out _ _ ⟨rv, (by rw [ha.out]; exact putSel_upk 10 hb_ rfl rfl rfl), Q_B0, Q_R0, fun h0_ => absurd ((hoff 14 (by kernel_rfl)).symm.trans h0_) (by decide)⟩
            refine steps_cons ?_ ?_
            · rintro b a w' ⟨rv, ha, Q_B0, Q_R0, Q_HRV⟩ hb_ hon hoff
              refine ⟨_, rfl, fun K hK => ?_⟩
              have e28 : a.tmps[28]? = some (.int .i64 (j : Int)) := by rw [ha]; exact putSel_on (e := (10, 28, .int .i64 (j : Int))) 10 rfl rfl (hon 10 (by kernel_rfl)) rfl
              have e21 : a.tmps[21]? = some (.bool true) := by rw [ha]; exact putSel_on (e := (3, 21, .bool true)) 3 rfl rfl (hon 3 (by kernel_rfl)) rfl
              replace ha := Aside0.mk ha
              have B0 := Aside0.mk Q_B0
              have R0 := Aside0.mk Q_R0
              have hw0_ := HW1.out
              refine value_ (w1 := w') (v := .int .i64 (j1 : Int)) (wanted_on rfl rfl rfl (e21.trans (by first | rfl | (simp [*]; done)))) rfl ?_ ?_
              · go_simp
                (try simp only [i64_w])
                try rfl
              refine hK.out _ _ ⟨rv, (by rw [ha.out]; exact putSel_upk 11 hb_ rfl rfl rfl), Q_B0, Q_R0, fun h0_ => absurd ((hoff 14 (by kernel_rfl)).symm.trans h0_) (by decide)⟩
            refine steps_cons ?_ ?_
            · rintro b a w' ⟨rv, ha, Q_B0, Q_R0, Q_HRV⟩ hb_ hon hoff
              refine ⟨_, rfl, fun K hK => ?_⟩
              have e27 : a.tmps[27]? = some (.slice (some ⟨g, 0, none⟩) n cp) := by rw [ha]; exact putSel_on (e := (9, 27, .slice (some ⟨g, 0, none⟩) n cp)) 9 rfl rfl (hon 9 (by kernel_rfl)) rfl
              have e29 : a.tmps[29]? = some (.int .i64 (j1 : Int)) := by rw [ha]; exact putSel_on (e := (11, 29, .int .i64 (j1 : Int))) 11 rfl rfl (hon 11 (by kernel_rfl)) rfl
              have e21 : a.tmps[21]? = some (.bool true) := by rw [ha]; exact putSel_on (e := (3, 21, .bool true)) 3 rfl rfl (hon 3 (by kernel_rfl)) rfl
              replace ha := Aside0.mk ha
              have B0 := Aside0.mk Q_B0
              have R0 := Aside0.mk Q_R0
              have p1_ := LO_j1.out
              have q1_ := HI_j1.out
              refine value_ (w1 := w') (v := .pointer (some ⟨g, j1 * 3, none⟩)) (wanted_on rfl rfl rfl (e21.trans (by first | rfl | (simp [*]; done)))) rfl ?_ ?_
              · go_simp
                (try simp only [i64_w])
                try rfl
              refine hK.out _ _ ⟨rv, (by rw [ha.out]; exact putSel_upk 12 hb_ rfl rfl rfl), Q_B0, Q_R0, fun h0_ => absurd ((hoff 14 (by kernel_rfl)).symm.trans h0_) (by decide)⟩
            refine steps_cons ?_ ?_
            · rintro b a w' ⟨rv, ha, Q_B0, Q_R0, Q_HRV⟩ hb_ hon hoff
              refine ⟨_, rfl, fun K hK => ?_⟩
              have e30 : a.tmps[30]? = some (.pointer (some ⟨g, j1 * 3, none⟩)) := by rw [ha]; exact putSel_on (e := (12, 30, .pointer (some ⟨g, j1 * 3, none⟩))) 12 rfl rfl (hon 12 (by kernel_rfl)) rfl
              have e21 : a.tmps[21]? = some (.bool true) := by rw [ha]; exact putSel_on (e := (3, 21, .bool true)) 3 rfl rfl (hon 3 (by kernel_rfl)) rfl
              replace ha := Aside0.mk ha
              have B0 := Aside0.mk Q_B0
              have R0 := Aside0.mk Q_R0
              have cs_ := R0.out.cells HX_j1.out
              refine value_ (w1 := w') (v := .agg #[.int .i64 y.nr, .int .i64 y.kd, .slice y.A y.n y.c]) (wanted_on rfl rfl rfl (e21.trans (by first | rfl | (simp [*]; done)))) rfl ?_ ?_
              · go_simp
                (try simp only [i64_w])
                try rfl
              refine hK.out _ _ ⟨rv, (by rw [ha.out]; exact putSel_upk 13 hb_ rfl rfl rfl), Q_B0, Q_R0, fun h0_ => absurd ((hoff 14 (by kernel_rfl)).symm.trans h0_) (by decide)⟩
            refine steps_cons ?_ ?_
            · rintro b a w' ⟨rv, ha, Q_B0, Q_R0, Q_HRV⟩ hb_ hon hoff
              refine ⟨_, rfl, fun K hK => ?_⟩
              have e22 : a.tmps[22]? = some (.func (.func 85) #[] #[]) := by rw [ha]; exact putSel_on (e := (4, 22, .func (.func 85) #[] #[])) 4 rfl rfl (hon 4 (by kernel_rfl)) rfl
              have e26 : a.tmps[26]? = some (.agg #[.int .i64 x.nr, .int .i64 x.kd, .slice x.A x.n x.c]) := by rw [ha]; exact putSel_on (e := (8, 26, .agg #[.int .i64 x.nr, .int .i64 x.kd, .slice x.A x.n x.c])) 8 rfl rfl (hon 8 (by kernel_rfl)) rfl
              have e31 : a.tmps[31]? = some (.agg #[.int .i64 y.nr, .int .i64 y.kd, .slice y.A y.n y.c]) := by rw [ha]; exact putSel_on (e := (13, 31, .agg #[.int .i64 y.nr, .int .i64 y.kd, .slice y.A y.n y.c])) 13 rfl rfl (hon 13 (by kernel_rfl)) rfl
              have e21 : a.tmps[21]? = some (.bool true) := by rw [ha]; exact putSel_on (e := (3, 21, .bool true)) 3 rfl rfl (hon 3 (by kernel_rfl)) rfl
              replace ha := Aside0.mk ha
              have B0 := Aside0.mk Q_B0
              have R0 := Aside0.mk Q_R0
              refine goesv_ (t := 22) Try.func85 (by kernel_rfl) rfl #[.agg #[.int .i64 x.nr, .int .i64 x.kd, .slice x.A x.n x.c], .agg #[.int .i64 y.nr, .int .i64 y.kd, .slice y.A y.n y.c]] (wanted_on rfl rfl rfl (e21.trans rfl)) rfl rfl e22 (by first | (simp only [List.map_toArray, List.map_cons, List.map_nil, Act.eval, Array.getD_eq_getD_getElem?, Option.getD_some, e22, e26, e31, e21]; done) | (simp only [List.map_toArray, List.map_cons, List.map_nil, Act.eval, Array.getD_eq_getD_getElem?, Option.getD_some, e22, e26, e31, e21]; rfl)) ?_
              with_reducible refine (HCMP.out w' x y).mono ?_
              rintro e w2 ⟨r_, rfl, hr_, hb⟩
              refine ⟨_, rfl, ?_⟩
              refine hK.out _ _ ⟨.int .i64 r_, (by rw [ha.out]; exact putSel_upk 14 hb_ rfl rfl rfl), below_row B0.out HG.out R0.out hb, RowB.below R0.out hb, fun _ => ⟨r_, rfl, hr_.trans HTV.out⟩⟩
            refine steps_cons ?_ ?_
            · rintro b a w' ⟨rv, ha, Q_B0, Q_R0, Q_HRV⟩ hb_ hon hoff
              refine ⟨_, rfl, fun K hK => ?_⟩
              have e32 : a.tmps[32]? = some (rv) := by rw [ha]; exact putSel_on (e := (14, 32, rv)) 14 rfl rfl (hon 14 (by kernel_rfl)) rfl
              have e21 : a.tmps[21]? = some (.bool true) := by rw [ha]; exact putSel_on (e := (3, 21, .bool true)) 3 rfl rfl (hon 3 (by kernel_rfl)) rfl
              replace ha := Aside0.mk ha
              have B0 := Aside0.mk Q_B0
              have R0 := Aside0.mk Q_R0
              have HRV := Aside0.mk (Q_HRV (hon 14 (by kernel_rfl)))
              obtain ⟨r_, hr1_, hr2_⟩ := HRV.out
              rw [hr1_] at e32
              refine value_ (w1 := w') (v := .bool true) (wanted_on rfl rfl rfl (e21.trans (by first | rfl | (simp [*]; done)))) rfl ?_ ?_
              · go_simp
                (try simp only [i64_w])
                try rfl
              refine hK.out _ _ ⟨rv, (by rw [ha.out]; exact putSel_upk 15 hb_ rfl rfl rfl), Q_B0, Q_R0, Q_HRV⟩
            refine steps_cons ?_ ?_
            · rintro b a w' ⟨rv, ha, Q_B0, Q_R0, Q_HRV⟩ hb_ hon hoff
              refine ⟨_, rfl, fun K hK => ?_⟩
              have e21 : a.tmps[21]? = some (.bool true) := by rw [ha]; exact putSel_on (e := (3, 21, .bool true)) 3 rfl rfl (hon 3 (by kernel_rfl)) rfl
              have e33 : a.tmps[33]? = some (.bool true) := by rw [ha]; exact putSel_on (e := (15, 33, .bool true)) 15 rfl rfl (hon 15 (by kernel_rfl)) rfl
              replace ha := Aside0.mk ha
              have B0 := Aside0.mk Q_B0
              have R0 := Aside0.mk Q_R0
              have HRV := Aside0.mk (Q_HRV (hon 14 (by kernel_rfl)))
              refine value_ (w1 := w') (v := .bool true) (by rfl) rfl ?_ ?_
              · go_simp
                (try simp only [i64_w])
                try rfl
              refine hK.out _ _ ⟨rv, (by rw [ha.out]; exact putSel_upk 16 hb_ rfl rfl rfl), Q_B0, Q_R0, Q_HRV⟩
            exact steps_nil
          rintro b a wl hall ⟨rv, ha, Q_B0, Q_R0, Q_HRV⟩
          clear B0 R0
          have hb0_ := hall 0 (by kernel_rfl)
          have hb1_ := hall 1 (by kernel_rfl)
          have hb2_ := hall 2 (by kernel_rfl)
          have hb3_ := hall 3 (by kernel_rfl)
          have hb4_ := hall 4 (by kernel_rfl)
          have hb5_ := hall 5 (by kernel_rfl)
          have hb6_ := hall 6 (by kernel_rfl)
          have hb7_ := hall 7 (by kernel_rfl)
          have hb8_ := hall 8 (by kernel_rfl)
          have hb9_ := hall 9 (by kernel_rfl)
          have hb10_ := hall 10 (by kernel_rfl)
          have hb11_ := hall 11 (by kernel_rfl)
          have hb12_ := hall 12 (by kernel_rfl)
          have hb13_ := hall 13 (by kernel_rfl)
          have hb14_ := hall 14 (by kernel_rfl)
          have hb15_ := hall 15 (by kernel_rfl)
          have hb16_ := hall 16 (by kernel_rfl)
          subst ha
          simp only [putSel, hb0_, hb1_, hb2_, hb3_, hb4_, hb5_, hb6_, hb7_, hb8_, hb9_, hb10_, hb11_, hb12_, hb13_, hb14_, hb15_, hb16_, if_true, Act.put, List.setIfInBounds_toArray, List.set_cons_zero, List.set_cons_succ]
          have B0 := Aside0.mk Q_B0
          clear Q_B0
          have R0 := Aside0.mk Q_R0
          clear Q_R0
          have HRV := Aside0.mk (Q_HRV hb14_)
          clear Q_HRV
          clear hall hb0_ hb1_ hb2_ hb3_ hb4_ hb5_ hb6_ hb7_ hb8_ hb9_ hb10_ hb11_ hb12_ hb13_ hb14_ hb15_ hb16_
          clear HRV
          replace B0 := Aside0.mk (kp_drew B0.out)
          go_upto_region 6 with fail
          replace R0 := Aside0.mk (RowB.below R0.out (below_drew1 (Below.refl wl.heap.size wl)))
          refine start_ (n := 18) (S := fun w' => True) (ds := []) #[false, false, false, false, false, false, false, false, false, false, false, false, false, false, false, false, false, false] (by kernel_rfl) rfl rfl trivial (fun hHeld => ?_)
          refine with_tabW ins.tab6 ins.bits6 (fun HT_ HW_ => ?_)
          generalize wl.drew = wq at B0 R0 hHeld ⊢
          refine inv_at [0, 1, 2, 3, 4, 5, 6, 7, 8, 9, 10, 11, 12, 13, 14, 15, 16, 17] (fun a0_ b a w' => a = putSel a0_ b [(0, 37, .slice (some ⟨g, 0, none⟩) n cp), (1, 38, .int .i64 (j : Int)), (2, 39, .slice (some ⟨g, 0, none⟩) n cp), (3, 40, .int .i64 (j : Int)), (4, 41, .int .i64 (j1 : Int)), (5, 42, .slice (some ⟨g, 0, none⟩) n cp), (6, 43, .int .i64 (j : Int)), (7, 44, .int .i64 (j1 : Int)), (8, 45, .pointer (some ⟨g, j1 * 3, none⟩)), (9, 46, .agg #[.int .i64 y.nr, .int .i64 y.kd, .slice y.A y.n y.c]), (10, 47, .slice (some ⟨g, 0, none⟩) n cp), (11, 48, .int .i64 (j : Int)), (12, 49, .pointer (some ⟨g, j * 3, none⟩)), (13, 50, .agg #[.int .i64 x.nr, .int .i64 x.kd, .slice x.A x.n x.c]), (14, 51, .pointer (some ⟨g, j * 3, none⟩)), (16, 52, .pointer (some ⟨g, j1 * 3, none⟩))] ∧ (Kp g w0 w') ∧ (b 15 = false → RowB w' g dd) ∧ (b 15 = true → b 17 = false → RowB w' g (dd.set j y)) ∧ (b 17 = true → RowB w' g ((dd.set j y).set j1 x))) HT_.out HW_.out (by kernel_rfl) (by kernel_rfl) ?_ ?_ ?_
          · exact ⟨by simp only [putSel, Bool.false_eq_true, if_false], B0.out, fun _ => R0.out, fun h_ => absurd h_ (by decide), fun h_ => absurd h_ (by decide)⟩
          · skip
            clear B0 R0
            refine steps_cons ?_ ?_
            · rintro b a w' ⟨ha, Q_B0, Q_R0, Q_R1, Q_R2⟩ hb_ hon hoff
              refine ⟨_, rfl, fun K hK => ?_⟩
              have e0 : a.tmps[0]? = some (.slice (some ⟨g, 0, none⟩) n cp) := by rw [ha]; exact (putSel_off rfl).trans rfl
              replace ha := Aside0.mk ha
              have B0 := Aside0.mk Q_B0
              have R0 := Aside0.mk (Q_R0 (hoff 15 (by kernel_rfl)))
              refine value_ (w1 := w') (v := .slice (some ⟨g, 0, none⟩) n cp) (by rfl) rfl ?_ ?_
              · go_simp
                (try simp only [i64_w])
                try rfl
              refine hK.out _ _ ⟨(by rw [ha.out]; exact putSel_upk 0 hb_ rfl rfl rfl), Q_B0, Q_R0, fun h0_ _ => absurd ((hoff 15 (by kernel_rfl)).symm.trans h0_) (by decide), fun h0_ => absurd ((hoff 17 (by kernel_rfl)).symm.trans h0_) (by decide)⟩
            refine steps_cons ?_ ?_
            · rintro b a w' ⟨ha, Q_B0, Q_R0, Q_R1, Q_R2⟩ hb_ hon hoff
              refine ⟨_, rfl, fun K hK => ?_⟩
              have e9 : a.tmps[9]? = some (.int .i64 (j : Int)) := by rw [ha]; exact (putSel_off rfl).trans rfl
              replace ha := Aside0.mk ha
              have B0 := Aside0.mk Q_B0
              have R0 := Aside0.mk (Q_R0 (hoff 15 (by kernel_rfl)))
              refine value_ (w1 := w') (v := .int .i64 (j : Int)) (by rfl) rfl ?_ ?_
              · go_simp
                (try simp only [i64_w])
                try rfl
              refine hK.out _ _ ⟨(by rw [ha.out]; exact putSel_upk 1 hb_ rfl rfl rfl), Q_B0, Q_R0, fun h0_ _ => absurd ((hoff 15 (by kernel_rfl)).symm.trans h0_) (by decide), fun h0_ => absurd ((hoff 17 (by kernel_rfl)).symm.trans h0_) (by decide)⟩
            refine steps_cons ?_ ?_
            · rintro b a w' ⟨ha, Q_B0, Q_R0, Q_R1, Q_R2⟩ hb_ hon hoff
              refine ⟨_, rfl, fun K hK => ?_⟩
              have e0 : a.tmps[0]? = some (.slice (some ⟨g, 0, none⟩) n cp) := by rw [ha]; exact (putSel_off rfl).trans rfl
              replace ha := Aside0.mk ha
              have B0 := Aside0.mk Q_B0
              refine value_ (w1 := w') (v := .slice (some ⟨g, 0, none⟩) n cp) (by rfl) rfl ?_ ?_
              · go_simp
                (try simp only [i64_w])
                try rfl
              refine hK.out _ _ ⟨(by rw [ha.out]; exact putSel_upk 2 hb_ rfl rfl rfl), Q_B0, Q_R0, Q_R1, fun h0_ => absurd ((hoff 17 (by kernel_rfl)).symm.trans h0_) (by decide)⟩
            refine steps_cons ?_ ?_
            · rintro b a w' ⟨ha, Q_B0, Q_R0, Q_R1, Q_R2⟩ hb_ hon hoff
              refine ⟨_, rfl, fun K hK => ?_⟩
              have e9 : a.tmps[9]? = some (.int .i64 (j : Int)) := by rw [ha]; exact (putSel_off rfl).trans rfl
              replace ha := Aside0.mk ha
              have B0 := Aside0.mk Q_B0
              refine value_ (w1 := w') (v := .int .i64 (j : Int)) (by rfl) rfl ?_ ?_
              · go_simp
                (try simp only [i64_w])
                try rfl
              refine hK.out _ _ ⟨(by rw [ha.out]; exact putSel_upk 3 hb_ rfl rfl rfl), Q_B0, Q_R0, Q_R1, fun h0_ => absurd ((hoff 17 (by kernel_rfl)).symm.trans h0_) (by decide)⟩
            refine steps_cons ?_ ?_
            · rintro b a w' ⟨ha, Q_B0, Q_R0, Q_R1, Q_R2⟩ hb_ hon hoff
              refine ⟨_, rfl, fun K hK => ?_⟩
              have e40 : a.tmps[40]? = some (.int .i64 (j : Int)) := by rw [ha]; exact putSel_on (e := (3, 40, .int .i64 (j : Int))) 3 rfl rfl (hon 3 (by kernel_rfl)) rfl
              replace ha := Aside0.mk ha
              have B0 := Aside0.mk Q_B0
              have hw0_ := HW1.out
              refine value_ (w1 := w') (v := .int .i64 (j1 : Int)) (by rfl) rfl ?_ ?_
              · go_simp
                (try simp only [i64_w])
                try rfl
              refine hK.out _ _ ⟨(by rw [ha.out]; exact putSel_upk 4 hb_ rfl rfl rfl), Q_B0, Q_R0, Q_R1, fun h0_ => absurd ((hoff 17 (by kernel_rfl)).symm.trans h0_) (by decide)⟩
            refine steps_cons ?_ ?_
            · rintro b a w' ⟨ha, Q_B0, Q_R0, Q_R1, Q_R2⟩ hb_ hon hoff
              refine ⟨_, rfl, fun K hK => ?_⟩
              have e0 : a.tmps[0]? = some (.slice (some ⟨g, 0, none⟩) n cp) := by rw [ha]; exact (putSel_off rfl).trans rfl
              replace ha := Aside0.mk ha
              have B0 := Aside0.mk Q_B0
              have R0 := Aside0.mk (Q_R0 (hoff 15 (by kernel_rfl)))
              refine value_ (w1 := w') (v := .slice (some ⟨g, 0, none⟩) n cp) (by rfl) rfl ?_ ?_
              · go_simp
                (try simp only [i64_w])
                try rfl
              refine hK.out _ _ ⟨(by rw [ha.out]; exact putSel_upk 5 hb_ rfl rfl rfl), Q_B0, Q_R0, fun h0_ _ => absurd ((hoff 15 (by kernel_rfl)).symm.trans h0_) (by decide), fun h0_ => absurd ((hoff 17 (by kernel_rfl)).symm.trans h0_) (by decide)⟩
            refine steps_cons ?_ ?_
            · rintro b a w' ⟨ha, Q_B0, Q_R0, Q_R1, Q_R2⟩ hb_ hon hoff
              refine ⟨_, rfl, fun K hK => ?_⟩
              have e9 : a.tmps[9]? = some (.int .i64 (j : Int)) := by rw [ha]; exact (putSel_off rfl).trans rfl
              replace ha := Aside0.mk ha
              have B0 := Aside0.mk Q_B0
              have R0 := Aside0.mk (Q_R0 (hoff 15 (by kernel_rfl)))
              refine value_ (w1 := w') (v := .int .i64 (j : Int)) (by rfl) rfl ?_ ?_
              · go_simp
                (try simp only [i64_w])
                try rfl
              refine hK.out _ _ ⟨(by rw [ha.out]; exact putSel_upk 6 hb_ rfl rfl rfl), Q_B0, Q_R0, fun h0_ _ => absurd ((hoff 15 (by kernel_rfl)).symm.trans h0_) (by decide), fun h0_ => absurd ((hoff 17 (by kernel_rfl)).symm.trans h0_) (by decide)⟩
            refine steps_cons ?_ ?_
            · rintro b a w' ⟨ha, Q_B0, Q_R0, Q_R1, Q_R2⟩ hb_ hon hoff
              refine ⟨_, rfl, fun K hK => ?_⟩
              have e43 : a.tmps[43]? = some (.int .i64 (j : Int)) := by rw [ha]; exact putSel_on (e := (6, 43, .int .i64 (j : Int))) 6 rfl rfl (hon 6 (by kernel_rfl)) rfl
              replace ha := Aside0.mk ha
              have B0 := Aside0.mk Q_B0
              have R0 := Aside0.mk (Q_R0 (hoff 15 (by kernel_rfl)))
              have hw0_ := HW1.out
              refine value_ (w1 := w') (v := .int .i64 (j1 : Int)) (by rfl) rfl ?_ ?_
              · go_simp
                (try simp only [i64_w])
                try rfl
              refine hK.out _ _ ⟨(by rw [ha.out]; exact putSel_upk 7 hb_ rfl rfl rfl), Q_B0, Q_R0, fun h0_ _ => absurd ((hoff 15 (by kernel_rfl)).symm.trans h0_) (by decide), fun h0_ => absurd ((hoff 17 (by kernel_rfl)).symm.trans h0_) (by decide)⟩
            refine steps_cons ?_ ?_
            · rintro b a w' ⟨ha, Q_B0, Q_R0, Q_R1, Q_R2⟩ hb_ hon hoff
              refine ⟨_, rfl, fun K hK => ?_⟩
              have e42 : a.tmps[42]? = some (.slice (some ⟨g, 0, none⟩) n cp) := by rw [ha]; exact putSel_on (e := (5, 42, .slice (some ⟨g, 0, none⟩) n cp)) 5 rfl rfl (hon 5 (by kernel_rfl)) rfl
              have e44 : a.tmps[44]? = some (.int .i64 (j1 : Int)) := by rw [ha]; exact putSel_on (e := (7, 44, .int .i64 (j1 : Int))) 7 rfl rfl (hon 7 (by kernel_rfl)) rfl
              replace ha := Aside0.mk ha
              have B0 := Aside0.mk Q_B0
              have R0 := Aside0.mk (Q_R0 (hoff 15 (by kernel_rfl)))
              have p1_ := LO_j1.out
              have q1_ := HI_j1.out
              refine value_ (w1 := w') (v := .pointer (some ⟨g, j1 * 3, none⟩)) (by rfl) rfl ?_ ?_
              · go_simp
                (try simp only [i64_w])
                try rfl
              refine hK.out _ _ ⟨(by rw [ha.out]; exact putSel_upk 8 hb_ rfl rfl rfl), Q_B0, Q_R0, fun h0_ _ => absurd ((hoff 15 (by kernel_rfl)).symm.trans h0_) (by decide), fun h0_ => absurd ((hoff 17 (by kernel_rfl)).symm.trans h0_) (by decide)⟩
            refine steps_cons ?_ ?_
            · rintro b a w' ⟨ha, Q_B0, Q_R0, Q_R1, Q_R2⟩ hb_ hon hoff
              refine ⟨_, rfl, fun K hK => ?_⟩
              have e45 : a.tmps[45]? = some (.pointer (some ⟨g, j1 * 3, none⟩)) := by rw [ha]; exact putSel_on (e := (8, 45, .pointer (some ⟨g, j1 * 3, none⟩))) 8 rfl rfl (hon 8 (by kernel_rfl)) rfl
              replace ha := Aside0.mk ha
              have B0 := Aside0.mk Q_B0
              have R0 := Aside0.mk (Q_R0 (hoff 15 (by kernel_rfl)))
              have cs_ := R0.out.cells HX_j1.out
              refine value_ (w1 := w') (v := .agg #[.int .i64 y.nr, .int .i64 y.kd, .slice y.A y.n y.c]) (by rfl) rfl ?_ ?_
              · go_simp
                (try simp only [i64_w])
                try rfl
              refine hK.out _ _ ⟨(by rw [ha.out]; exact putSel_upk 9 hb_ rfl rfl rfl), Q_B0, Q_R0, fun h0_ _ => absurd ((hoff 15 (by kernel_rfl)).symm.trans h0_) (by decide), fun h0_ => absurd ((hoff 17 (by kernel_rfl)).symm.trans h0_) (by decide)⟩
            refine steps_cons ?_ ?_
            · rintro b a w' ⟨ha, Q_B0, Q_R0, Q_R1, Q_R2⟩ hb_ hon hoff
              refine ⟨_, rfl, fun K hK => ?_⟩
              have e0 : a.tmps[0]? = some (.slice (some ⟨g, 0, none⟩) n cp) := by rw [ha]; exact (putSel_off rfl).trans rfl
              replace ha := Aside0.mk ha
              have B0 := Aside0.mk Q_B0
              have R0 := Aside0.mk (Q_R0 (hoff 15 (by kernel_rfl)))
              refine value_ (w1 := w') (v := .slice (some ⟨g, 0, none⟩) n cp) (by rfl) rfl ?_ ?_
              · go_simp
                (try simp only [i64_w])
                try rfl
              refine hK.out _ _ ⟨(by rw [ha.out]; exact putSel_upk 10 hb_ rfl rfl rfl), Q_B0, Q_R0, fun h0_ _ => absurd ((hoff 15 (by kernel_rfl)).symm.trans h0_) (by decide), fun h0_ => absurd ((hoff 17 (by kernel_rfl)).symm.trans h0_) (by decide)⟩
            refine steps_cons ?_ ?_
            · rintro b a w' ⟨ha, Q_B0, Q_R0, Q_R1, Q_R2⟩ hb_ hon hoff
              refine ⟨_, rfl, fun K hK => ?_⟩
              have e9 : a.tmps[9]? = some (.int .i64 (j : Int)) := by rw [ha]; exact (putSel_off rfl).trans rfl
              replace ha := Aside0.mk ha
              have B0 := Aside0.mk Q_B0
              have R0 := Aside0.mk (Q_R0 (hoff 15 (by kernel_rfl)))
              refine value_ (w1 := w') (v := .int .i64 (j : Int)) (by rfl) rfl ?_ ?_
              · go_simp
                (try simp only [i64_w])
                try rfl
              refine hK.out _ _ ⟨(by rw [ha.out]; exact putSel_upk 11 hb_ rfl rfl rfl), Q_B0, Q_R0, fun h0_ _ => absurd ((hoff 15 (by kernel_rfl)).symm.trans h0_) (by decide), fun h0_ => absurd ((hoff 17 (by kernel_rfl)).symm.trans h0_) (by decide)⟩
            refine steps_cons ?_ ?_
            · rintro b a w' ⟨ha, Q_B0, Q_R0, Q_R1, Q_R2⟩ hb_ hon hoff
              refine ⟨_, rfl, fun K hK => ?_⟩
              have e47 : a.tmps[47]? = some (.slice (some ⟨g, 0, none⟩) n cp) := by rw [ha]; exact putSel_on (e := (10, 47, .slice (some ⟨g, 0, none⟩) n cp)) 10 rfl rfl (hon 10 (by kernel_rfl)) rfl
              have e48 : a.tmps[48]? = some (.int .i64 (j : Int)) := by rw [ha]; exact putSel_on (e := (11, 48, .int .i64 (j : Int))) 11 rfl rfl (hon 11 (by kernel_rfl)) rfl
              replace ha := Aside0.mk ha
              have B0 := Aside0.mk Q_B0
              have R0 := Aside0.mk (Q_R0 (hoff 15 (by kernel_rfl)))
              have p1_ := LO_j.out
              have q1_ := HI_j.out
              refine value_ (w1 := w') (v := .pointer (some ⟨g, j * 3, none⟩)) (by rfl) rfl ?_ ?_
              · go_simp
                (try simp only [i64_w])
                try rfl
              refine hK.out _ _ ⟨(by rw [ha.out]; exact putSel_upk 12 hb_ rfl rfl rfl), Q_B0, Q_R0, fun h0_ _ => absurd ((hoff 15 (by kernel_rfl)).symm.trans h0_) (by decide), fun h0_ => absurd ((hoff 17 (by kernel_rfl)).symm.trans h0_) (by decide)⟩
            refine steps_cons ?_ ?_
            · rintro b a w' ⟨ha, Q_B0, Q_R0, Q_R1, Q_R2⟩ hb_ hon hoff
              refine ⟨_, rfl, fun K hK => ?_⟩
              have e49 : a.tmps[49]? = some (.pointer (some ⟨g, j * 3, none⟩)) := by rw [ha]; exact putSel_on (e := (12, 49, .pointer (some ⟨g, j * 3, none⟩))) 12 rfl rfl (hon 12 (by kernel_rfl)) rfl
              replace ha := Aside0.mk ha
              have B0 := Aside0.mk Q_B0
              have R0 := Aside0.mk (Q_R0 (hoff 15 (by kernel_rfl)))
              have cs_ := R0.out.cells HX_j.out
              refine value_ (w1 := w') (v := .agg #[.int .i64 x.nr, .int .i64 x.kd, .slice x.A x.n x.c]) (by rfl) rfl ?_ ?_
              · go_simp
                (try simp only [i64_w])
                try rfl
              refine hK.out _ _ ⟨(by rw [ha.out]; exact putSel_upk 13 hb_ rfl rfl rfl), Q_B0, Q_R0, fun h0_ _ => absurd ((hoff 15 (by kernel_rfl)).symm.trans h0_) (by decide), fun h0_ => absurd ((hoff 17 (by kernel_rfl)).symm.trans h0_) (by decide)⟩
            refine steps_cons ?_ ?_
            · rintro b a w' ⟨ha, Q_B0, Q_R0, Q_R1, Q_R2⟩ hb_ hon hoff
              refine ⟨_, rfl, fun K hK => ?_⟩
              have e37 : a.tmps[37]? = some (.slice (some ⟨g, 0, none⟩) n cp) := by rw [ha]; exact putSel_on (e := (0, 37, .slice (some ⟨g, 0, none⟩) n cp)) 0 rfl rfl (hon 0 (by kernel_rfl)) rfl
              have e38 : a.tmps[38]? = some (.int .i64 (j : Int)) := by rw [ha]; exact putSel_on (e := (1, 38, .int .i64 (j : Int))) 1 rfl rfl (hon 1 (by kernel_rfl)) rfl
              replace ha := Aside0.mk ha
              have B0 := Aside0.mk Q_B0
              have R0 := Aside0.mk (Q_R0 (hoff 15 (by kernel_rfl)))
              have p1_ := LO_j.out
              have q1_ := HI_j.out
              refine value_ (w1 := w') (v := .pointer (some ⟨g, j * 3, none⟩)) (by rfl) rfl ?_ ?_
              · go_simp
                (try simp only [i64_w])
                try rfl
              refine hK.out _ _ ⟨(by rw [ha.out]; exact putSel_upk 14 hb_ rfl rfl rfl), Q_B0, Q_R0, fun h0_ _ => absurd ((hoff 15 (by kernel_rfl)).symm.trans h0_) (by decide), fun h0_ => absurd ((hoff 17 (by kernel_rfl)).symm.trans h0_) (by decide)⟩
            refine steps_cons ?_ ?_
            · rintro b a w' ⟨ha, Q_B0, Q_R0, Q_R1, Q_R2⟩ hb_ hon hoff
              refine ⟨_, rfl, fun K hK => ?_⟩
              have e51 : a.tmps[51]? = some (.pointer (some ⟨g, j * 3, none⟩)) := by rw [ha]; exact putSel_on (e := (14, 51, .pointer (some ⟨g, j * 3, none⟩))) 14 rfl rfl (hon 14 (by kernel_rfl)) rfl
              have e46 : a.tmps[46]? = some (.agg #[.int .i64 y.nr, .int .i64 y.kd, .slice y.A y.n y.c]) := by rw [ha]; exact putSel_on (e := (9, 46, .agg #[.int .i64 y.nr, .int .i64 y.kd, .slice y.A y.n y.c])) 9 rfl rfl (hon 9 (by kernel_rfl)) rfl
              replace ha := Aside0.mk ha
              have B0 := Aside0.mk Q_B0
              have R0 := Aside0.mk (Q_R0 hb_)
              have cs_ := R0.out.cells HX_j.out
              have f0_ := R0.out.frozen (j * 3)
              have f1_ := R0.out.frozen (j * 3 + 1)
              have f2_ := R0.out.frozen (j * 3 + 2)
              refine skip_ (w1 := ?_) (by rfl) rfl ?_ ?_
              rotate_left
              · go_simp
                rfl
              refine hK.out _ _ ⟨(by rw [ha.out]; exact putSel_none (v := undef) rfl), setRec_below (j := j) (x := y) B0.out HG.out, fun h0_ => absurd ((up_self b 15).symm.trans h0_) (by decide), fun _ _ => R0.out.set j y, fun h0_ => absurd ((hoff 17 (by kernel_rfl)).symm.trans h0_) (by decide)⟩
            refine steps_cons ?_ ?_
            · rintro b a w' ⟨ha, Q_B0, Q_R0, Q_R1, Q_R2⟩ hb_ hon hoff
              refine ⟨_, rfl, fun K hK => ?_⟩
              have e39 : a.tmps[39]? = some (.slice (some ⟨g, 0, none⟩) n cp) := by rw [ha]; exact putSel_on (e := (2, 39, .slice (some ⟨g, 0, none⟩) n cp)) 2 rfl rfl (hon 2 (by kernel_rfl)) rfl
              have e41 : a.tmps[41]? = some (.int .i64 (j1 : Int)) := by rw [ha]; exact putSel_on (e := (4, 41, .int .i64 (j1 : Int))) 4 rfl rfl (hon 4 (by kernel_rfl)) rfl
              replace ha := Aside0.mk ha
              have B0 := Aside0.mk Q_B0
              have R1 := Aside0.mk (Q_R1 (hon 15 (by kernel_rfl)) (hoff 17 (by kernel_rfl)))
              have p1_ := LO_j1.out
              have q1_ := HI_j1.out
              refine value_ (w1 := w') (v := .pointer (some ⟨g, j1 * 3, none⟩)) (by rfl) rfl ?_ ?_
              · go_simp
                (try simp only [i64_w])
                try rfl
              refine hK.out _ _ ⟨(by rw [ha.out]; exact putSel_upk 15 hb_ rfl rfl rfl), Q_B0, fun h0_ => absurd ((hon 15 (by kernel_rfl)).symm.trans h0_) (by decide), Q_R1, fun h0_ => absurd ((hoff 17 (by kernel_rfl)).symm.trans h0_) (by decide)⟩
            refine steps_cons ?_ ?_
            · rintro b a w' ⟨ha, Q_B0, Q_R0, Q_R1, Q_R2⟩ hb_ hon hoff
              refine ⟨_, rfl, fun K hK => ?_⟩
              have e52 : a.tmps[52]? = some (.pointer (some ⟨g, j1 * 3, none⟩)) := by rw [ha]; exact putSel_on (e := (16, 52, .pointer (some ⟨g, j1 * 3, none⟩))) 15 rfl rfl (hon 16 (by kernel_rfl)) rfl
              have e50 : a.tmps[50]? = some (.agg #[.int .i64 x.nr, .int .i64 x.kd, .slice x.A x.n x.c]) := by rw [ha]; exact putSel_on (e := (13, 50, .agg #[.int .i64 x.nr, .int .i64 x.kd, .slice x.A x.n x.c])) 13 rfl rfl (hon 13 (by kernel_rfl)) rfl
              replace ha := Aside0.mk ha
              have B0 := Aside0.mk Q_B0
              have R1 := Aside0.mk (Q_R1 (hon 15 (by kernel_rfl)) hb_)
              have cs_ := R1.out.cells HX2.out
              have f0_ := R1.out.frozen (j1 * 3)
              have f1_ := R1.out.frozen (j1 * 3 + 1)
              have f2_ := R1.out.frozen (j1 * 3 + 2)
              refine skip_ (w1 := ?_) (by rfl) rfl ?_ ?_
              rotate_left
              · go_simp
                rfl
              refine hK.out _ _ ⟨(by rw [ha.out]; exact putSel_none (v := undef) rfl), setRec_below (j := j1) (x := x) B0.out HG.out, fun h0_ => absurd ((hon 15 (by kernel_rfl)).symm.trans h0_) (by decide), fun _ h1_ => absurd ((up_self b 17).symm.trans h1_) (by decide), fun _ => R1.out.set j1 x⟩
            exact steps_nil
          rintro b a wm hall ⟨ha, Q_B0, Q_R0, Q_R1, Q_R2⟩
          clear B0 R0
          have hb0_ := hall 0 (by kernel_rfl)
          have hb1_ := hall 1 (by kernel_rfl)
          have hb2_ := hall 2 (by kernel_rfl)
          have hb3_ := hall 3 (by kernel_rfl)
          have hb4_ := hall 4 (by kernel_rfl)
          have hb5_ := hall 5 (by kernel_rfl)
          have hb6_ := hall 6 (by kernel_rfl)
          have hb7_ := hall 7 (by kernel_rfl)
          have hb8_ := hall 8 (by kernel_rfl)
          have hb9_ := hall 9 (by kernel_rfl)
          have hb10_ := hall 10 (by kernel_rfl)
          have hb11_ := hall 11 (by kernel_rfl)
          have hb12_ := hall 12 (by kernel_rfl)
          have hb13_ := hall 13 (by kernel_rfl)
          have hb14_ := hall 14 (by kernel_rfl)
          have hb15_ := hall 15 (by kernel_rfl)
          have hb16_ := hall 16 (by kernel_rfl)
          have hb17_ := hall 17 (by kernel_rfl)
          subst ha
          simp only [putSel, hb0_, hb1_, hb2_, hb3_, hb4_, hb5_, hb6_, hb7_, hb8_, hb9_, hb10_, hb11_, hb12_, hb13_, hb14_, hb15_, hb16_, hb17_, if_true, Act.put, List.setIfInBounds_toArray, List.set_cons_zero, List.set_cons_succ]
          have B0 := Aside0.mk Q_B0
          clear Q_B0
          clear Q_R0
          clear Q_R1
          have R2 := Aside0.mk (Q_R2 hb17_)
          clear Q_R2
          clear hall hb0_ hb1_ hb2_ hb3_ hb4_ hb5_ hb6_ hb7_ hb8_ hb9_ hb10_ hb11_ hb12_ hb13_ hb14_ hb15_ hb16_ hb17_
          go_wp2_with fail
          go_roundg (j1 + 1)
          case measure => have := HQJ.out; have := HJ.out; omega
          case rel =>
            obtain ⟨A1', A2', h1, h2, h3, h4⟩ := HIN.out
            exact ⟨j1, by first | rfl | (rw [← i64_w, HW1.out]) | (simp; unfold wrap64; have := HJ.out; have := HL.out; omega), ⟨A1', A2', by rw [← h1]; exact R2.out, h2, h3, h4⟩, B0, ⟨rfl⟩⟩
        · have htv : lt x y = false := by simpa using htv
          have HTV := Aside0.mk htv
          have HEND : Aside0 (dd = P ++ (T ++ R)) := ⟨by rw [hdd, ← hp, put_end HO.out x y htv A0 hs, hcc]; simp [List.append_assoc]⟩
          clear htv hx hy hjn hlen hdd hpl hj hs hp hc hcc hjl hj1
          refine start_ (n := 17) (S := fun w' => True) (ds := []) #[false, false, false, false, false, false, false, false, false, false, false, false, false, false, false, false, false] (by kernel_rfl) rfl rfl trivial (fun hHeld => ?_)
          refine with_tabW ins.tab4 ins.bits4 (fun HT_ HW_ => ?_)
          generalize wr.drew = wq at B0 R0 hHeld ⊢
          refine inv_at [0, 1, 2, 3, 4, 5, 6, 7, 8, 9, 10, 11, 12, 13, 14, 15, 16] (fun a0_ b a w' => ∃ (rv : Value), a = putSel a0_ b [(0, 18, .int .i64 (j : Int)), (1, 19, .int .i64 (ia : Int)), (2, 20, .bool true), (3, 21, .bool true), (4, 22, .func (.func 85) #[] #[]), (5, 23, .slice (some ⟨g, 0, none⟩) n cp), (6, 24, .int .i64 (j : Int)), (7, 25, .pointer (some ⟨g, j * 3, none⟩)), (8, 26, .agg #[.int .i64 x.nr, .int .i64 x.kd, .slice x.A x.n x.c]), (9, 27, .slice (some ⟨g, 0, none⟩) n cp), (10, 28, .int .i64 (j : Int)), (11, 29, .int .i64 (j1 : Int)), (12, 30, .pointer (some ⟨g, j1 * 3, none⟩)), (13, 31, .agg #[.int .i64 y.nr, .int .i64 y.kd, .slice y.A y.n y.c]), (14, 32, rv), (15, 33, .bool false), (16, 34, .bool false)] ∧ (Kp g w0 w') ∧ (RowB w' g dd) ∧ (b 14 = true → ∃ r_ : Int, rv = .int .i64 r_ ∧ decide (r_ < 0) = false)) HT_.out HW_.out (by kernel_rfl) (by kernel_rfl) ?_ ?_ ?_
          · exact ⟨.bool false, by simp only [putSel, Bool.false_eq_true, if_false], B0.out, R0.out, fun h_ => absurd h_ (by decide)⟩
          · skip
            clear B0 R0
            refine steps_cons ?_ ?_
            · rintro b a w' ⟨rv, ha, Q_B0, Q_R0, Q_HRV⟩ hb_ hon hoff
              refine ⟨_, rfl, fun K hK => ?_⟩
              have e9 : a.tmps[9]? = some (.int .i64 (j : Int)) := by rw [ha]; exact (putSel_off rfl).trans rfl
              replace ha := Aside0.mk ha
              have B0 := Aside0.mk Q_B0
              have R0 := Aside0.mk Q_R0
              refine value_ (w1 := w') (v := .int .i64 (j : Int)) (by rfl) rfl ?_ ?_
              · go_simp
                (try simp only [i64_w])
                try rfl
              refine hK.out _ _ ⟨rv, (by rw [ha.out]; exact putSel_upk 0 hb_ rfl rfl rfl), Q_B0, Q_R0, fun h0_ => absurd ((hoff 14 (by kernel_rfl)).symm.trans h0_) (by decide)⟩
            refine steps_cons ?_ ?_
            · rintro b a w' ⟨rv, ha, Q_B0, Q_R0, Q_HRV⟩ hb_ hon hoff
              refine ⟨_, rfl, fun K hK => ?_⟩
              have e1 : a.tmps[1]? = some (.int .i64 (ia : Int)) := by rw [ha]; exact (putSel_off rfl).trans rfl
              replace ha := Aside0.mk ha
              have B0 := Aside0.mk Q_B0
              have R0 := Aside0.mk Q_R0
              refine value_ (w1 := w') (v := .int .i64 (ia : Int)) (by rfl) rfl ?_ ?_
              · go_simp
                (try simp only [i64_w])
                try rfl
              refine hK.out _ _ ⟨rv, (by rw [ha.out]; exact putSel_upk 1 hb_ rfl rfl rfl), Q_B0, Q_R0, fun h0_ => absurd ((hoff 14 (by kernel_rfl)).symm.trans h0_) (by decide)⟩
            refine steps_cons ?_ ?_
            · rintro b a w' ⟨rv, ha, Q_B0, Q_R0, Q_HRV⟩ hb_ hon hoff
              refine ⟨_, rfl, fun K hK => ?_⟩
              have e18 : a.tmps[18]? = some (.int .i64 (j : Int)) := by rw [ha]; exact putSel_on (e := (0, 18, .int .i64 (j : Int))) 0 rfl rfl (hon 0 (by kernel_rfl)) rfl
              have e19 : a.tmps[19]? = some (.int .i64 (ia : Int)) := by rw [ha]; exact putSel_on (e := (1, 19, .int .i64 (ia : Int))) 1 rfl rfl (hon 1 (by kernel_rfl)) rfl
              replace ha := Aside0.mk ha
              have B0 := Aside0.mk Q_B0
              have R0 := Aside0.mk Q_R0
              have hw0_ := HGT.out.1
              have hw1_ := HGT.out.2.1
              have hw2_ := HGT.out.2.2
              refine value_ (w1 := w') (v := .bool true) (by rfl) rfl ?_ ?_
              · go_simp
                (try simp only [i64_w])
                try rfl
              refine hK.out _ _ ⟨rv, (by rw [ha.out]; exact putSel_upk 2 hb_ rfl rfl rfl), Q_B0, Q_R0, fun h0_ => absurd ((hoff 14 (by kernel_rfl)).symm.trans h0_) (by decide)⟩
            refine steps_cons ?_ ?_
            · rintro b a w' ⟨rv, ha, Q_B0, Q_R0, Q_HRV⟩ hb_ hon hoff
              refine ⟨_, rfl, fun K hK => ?_⟩
              have e20 : a.tmps[20]? = some (.bool true) := by rw [ha]; exact putSel_on (e := (2, 20, .bool true)) 2 rfl rfl (hon 2 (by kernel_rfl)) rfl
              replace ha := Aside0.mk ha
              have B0 := Aside0.mk Q_B0
              have R0 := Aside0.mk Q_R0
              refine value_ (w1 := w') (v := .bool true) (by rfl) rfl ?_ ?_
              · go_simp
                (try simp only [i64_w])
                try rfl
              refine hK.out _ _ ⟨rv, (by rw [ha.out]; exact putSel_upk 3 hb_ rfl rfl rfl), Q_B0, Q_R0, fun h0_ => absurd ((hoff 14 (by kernel_rfl)).symm.trans h0_) (by decide)⟩
            refine steps_cons ?_ ?_
            · rintro b a w' ⟨rv, ha, Q_B0, Q_R0, Q_HRV⟩ hb_ hon hoff
              refine ⟨_, rfl, fun K hK => ?_⟩
              have e3 : a.tmps[3]? = some (.func (.func 85) #[] #[]) := by rw [ha]; exact (putSel_off rfl).trans rfl
              have e21 : a.tmps[21]? = some (.bool true) := by rw [ha]; exact putSel_on (e := (3, 21, .bool true)) 3 rfl rfl (hon 3 (by kernel_rfl)) rfl
              replace ha := Aside0.mk ha
              have B0 := Aside0.mk Q_B0
              have R0 := Aside0.mk Q_R0
              refine value_ (w1 := w') (v := .func (.func 85) #[] #[]) (wanted_on rfl rfl rfl (e21.trans (by first | rfl | (simp [*]; done)))) rfl ?_ ?_
              · go_simp
                (try simp only [i64_w])
                try rfl
              refine hK.out _ _ ⟨rv, (by rw [ha.out]; exact putSel_upk 4 hb_ rfl rfl rfl), Q_B0, Q_R0, fun h0_ => absurd ((hoff 14 (by kernel_rfl)).symm.trans h0_) (by decide)⟩
            refine steps_cons ?_ ?_
            · rintro b a w' ⟨rv, ha, Q_B0, Q_R0, Q_HRV⟩ hb_ hon hoff
              refine ⟨_, rfl, fun K hK => ?_⟩
              have e0 : a.tmps[0]? = some (.slice (some ⟨g, 0, none⟩) n cp) := by rw [ha]; exact (putSel_off rfl).trans rfl
              have e21 : a.tmps[21]? = some (.bool true) := by rw [ha]; exact putSel_on (e := (3, 21, .bool true)) 3 rfl rfl (hon 3 (by kernel_rfl)) rfl
              replace ha := Aside0.mk ha
              have B0 := Aside0.mk Q_B0
              have R0 := Aside0.mk Q_R0
              refine value_ (w1 := w') (v := .slice (some ⟨g, 0, none⟩) n cp) (wanted_on rfl rfl rfl (e21.trans (by first | rfl | (simp [*]; done)))) rfl ?_ ?_
              · go_simp
                (try simp only [i64_w])
                try rfl
              refine hK.out _ _ ⟨rv, (by rw [ha.out]; exact putSel_upk 5 hb_ rfl rfl rfl), Q_B0, Q_R0, fun h0_ => absurd ((hoff 14 (by kernel_rfl)).symm.trans h0_) (by decide)⟩
            refine steps_cons ?_ ?_
            · rintro b a w' ⟨rv, ha, Q_B0, Q_R0, Q_HRV⟩ hb_ hon hoff
              refine ⟨_, rfl, fun K hK => ?_⟩
              have e9 : a.tmps[9]? = some (.int .i64 (j : Int)) := by rw [ha]; exact (putSel_off rfl).trans rfl
              have e21 : a.tmps[21]? = some (.bool true) := by rw [ha]; exact putSel_on (e := (3, 21, .bool true)) 3 rfl rfl (hon 3 (by kernel_rfl)) rfl
              replace ha := Aside0.mk ha
              have B0 := Aside0.mk Q_B0
              have R0 := Aside0.mk Q_R0
              refine value_ (w1 := w') (v := .int .i64 (j : Int)) (wanted_on rfl rfl rfl (e21.trans (by first | rfl | (simp [*]; done)))) rfl ?_ ?_
              · go_simp
                (try simp only [i64_w])
                try rfl
              refine hK.out _ _ ⟨rv, (by rw [ha.out]; exact putSel_upk 6 hb_ rfl rfl rfl), Q_B0, Q_R0, fun h0_ => absurd ((hoff 14 (by kernel_rfl)).symm.trans h0_) (by decide)⟩
            refine steps_cons ?_ ?_
            · rintro b a w' ⟨rv, ha, Q_B0, Q_R0, Q_HRV⟩ hb_ hon hoff
              refine ⟨_, rfl, fun K hK => ?_⟩
              have e23 : a.tmps[23]? = some (.slice (some ⟨g, 0, none⟩) n cp) := by rw [ha]; exact putSel_on (e := (5, 23, .slice (some ⟨g, 0, none⟩) n cp)) 5 rfl rfl (hon 5 (by kernel_rfl)) rfl
              have e24 : a.tmps[24]? = some (.int .i64 (j : Int)) := by rw [ha]; exact putSel_on (e := (6, 24, .int .i64 (j : Int))) 6 rfl rfl (hon 6 (by kernel_rfl)) rfl
              have e21 : a.tmps[21]? = some (.bool true) := by rw [ha]; exact putSel_on (e := (3, 21, .bool true)) 3 rfl rfl (hon 3 (by kernel_rfl)) rfl
              replace ha := Aside0.mk ha
              have B0 := Aside0.mk Q_B0
              have R0 := Aside0.mk Q_R0
              have p1_ := LO_j.out
              have q1_ := HI_j.out
              refine value_ (w1 := w') (v := .pointer (some ⟨g, j * 3, none⟩)) (wanted_on rfl rfl rfl (e21.trans (by first | rfl | (simp [*]; done)))) rfl ?_ ?_
              · go_simp
                (try simp only [i64_w])
                try rfl
              refine hK.out _ _ ⟨rv, (by rw [ha.out]; exact putSel_upk 7 hb_ rfl rfl rfl), Q_B0, Q_R0, fun h0_ => absurd ((hoff 14 (by kernel_rfl)).symm.trans h0_) (by decide)⟩
            refine steps_cons ?_ ?_
            · rintro b a w' ⟨rv, ha, Q_B0, Q_R0, Q_HRV⟩ hb_ hon hoff
              refine ⟨_, rfl, fun K hK => ?_⟩
              have e25 : a.tmps[25]? = some (.pointer (some ⟨g, j * 3, none⟩)) := by rw [ha]; exact putSel_on (e := (7, 25, .pointer (some ⟨g, j * 3, none⟩))) 7 rfl rfl (hon 7 (by kernel_rfl)) rfl
              have e21 : a.tmps[21]? = some (.bool true) := by rw [ha]; exact putSel_on (e := (3, 21, .bool true)) 3 rfl rfl (hon 3 (by kernel_rfl)) rfl
              replace ha := Aside0.mk ha
              have B0 := Aside0.mk Q_B0
              have R0 := Aside0.mk Q_R0
              have cs_ := R0.out.cells HX_j.out
              refine value_ (w1 := w') (v := .agg #[.int .i64 x.nr, .int .i64 x.kd, .slice x.A x.n x.c]) (wanted_on rfl rfl rfl (e21.trans (by first | rfl | (simp [*]; done)))) rfl ?_ ?_
              · go_simp
                (try simp only [i64_w])
                try rfl
              refine hK.out _ _ ⟨rv, (by rw [ha.out]; exact putSel_upk 8 hb_ rfl rfl rfl), Q_B0, Q_R0, fun h0_ => absurd ((hoff 14 (by kernel_rfl)).symm.trans h0_) (by decide)⟩
            refine steps_cons ?_ ?_
            · rintro b a w' ⟨rv, ha, Q_B0, Q_R0, Q_HRV⟩ hb_ hon hoff
              refine ⟨_, rfl, fun K hK => ?_⟩
              have e0 : a.tmps[0]? = some (.slice (some ⟨g, 0, none⟩) n cp) := by rw [ha]; exact (putSel_off rfl).trans rfl
              have e21 : a.tmps[21]? = some (.bool true) := by rw [ha]; exact putSel_on (e := (3, 21, .bool true)) 3 rfl rfl (hon 3 (by kernel_rfl)) rfl
              replace ha := Aside0.mk ha
              have B0 := Aside0.mk Q_B0
              have R0 := Aside0.mk Q_R0
              refine value_ (w1 := w') (v := .slice (some ⟨g, 0, none⟩) n cp) (wanted_on rfl rfl rfl (e21.trans (by first | rfl | (simp [*]; done)))) rfl ?_ ?_
              · go_simp
                (try simp only [i64_w])
                try rfl
              refine hK.out _ _ ⟨rv, (by rw [ha.out]; exact putSel_upk 9 hb_ rfl rfl rfl), Q_B0, Q_R0, fun h0_ => absurd ((hoff 14 (by kernel_rfl)).symm.trans h0_) (by decide)⟩
            refine steps_cons ?_ ?_
            · rintro b a w' ⟨rv, ha, Q_B0, Q_R0, Q_HRV⟩ hb_ hon hoff
              refine ⟨_, rfl, fun K hK => ?_⟩
              have e9 : a.tmps[9]? = some (.int .i64 (j : Int)) := by rw [ha]; exact (putSel_off rfl).trans rfl
              have e21 : a.tmps[21]? = some (.bool true) := by rw [ha]; exact putSel_on (e := (3, 21, .bool true)) 3 rfl rfl (hon 3 (by kernel_rfl)) rfl
              replace ha := Aside0.mk ha
              have B0 := Aside0.mk Q_B0
              have R0 := Aside0.mk Q_R0
              refine value_ (w1 := w') (v := .int .i64 (j : Int)) (wanted_on rfl rfl rfl (e21.trans (by first | rfl | (simp [*]; done)))) rfl ?_ ?_
              · go_simp
                (try simp only [i64_w])
                try rfl
              refine hK.out _ _ ⟨rv, (by rw [ha.out]; exact putSel_upk 10 hb_ rfl rfl rfl), Q_B0, Q_R0, fun h0_ => absurd ((hoff 14 (by kernel_rfl)).symm.trans h0_) (by decide)⟩
            refine steps_cons ?_ ?_
            · rintro b a w' ⟨rv, ha, Q_B0, Q_R0, Q_HRV⟩ hb_ hon hoff
              refine ⟨_, rfl, fun K hK => ?_⟩
              have e28 : a.tmps[28]? = some (.int .i64 (j : Int)) := by rw [ha]; exact putSel_on (e := (10, 28, .int .i64 (j : Int))) 10 rfl rfl (hon 10 (by kernel_rfl)) rfl
              have e21 : a.tmps[21]? = some (.bool true) := by rw [ha]; exact putSel_on (e := (3, 21, .bool true)) 3 rfl rfl (hon 3 (by kernel_rfl)) rfl
              replace ha := Aside0.mk ha
              have B0 := Aside0.mk Q_B0
              have R0 := Aside0.mk Q_R0
              have hw0_ := HW1.out
              refine value_ (w1 := w') (v := .int .i64 (j1 : Int)) (wanted_on rfl rfl rfl (e21.trans (by first | rfl | (simp [*]; done)))) rfl ?_ ?_
              · go_simp
                (try simp only [i64_w])
                try rfl
              refine hK.out _ _ ⟨rv, (by rw [ha.out]; exact putSel_upk 11 hb_ rfl rfl rfl), Q_B0, Q_R0, fun h0_ => absurd ((hoff 14 (by kernel_rfl)).symm.trans h0_) (by decide)⟩
            refine steps_cons ?_ ?_
            · rintro b a w' ⟨rv, ha, Q_B0, Q_R0, Q_HRV⟩ hb_ hon hoff
              refine ⟨_, rfl, fun K hK => ?_⟩
              have e27 : a.tmps[27]? = some (.slice (some ⟨g, 0, none⟩) n cp) := by rw [ha]; exact putSel_on (e := (9, 27, .slice (some ⟨g, 0, none⟩) n cp)) 9 rfl rfl (hon 9 (by kernel_rfl)) rfl
              have e29 : a.tmps[29]? = some (.int .i64 (j1 : Int)) := by rw [ha]; exact putSel_on (e := (11, 29, .int .i64 (j1 : Int))) 11 rfl rfl (hon 11 (by kernel_rfl)) rfl
              have e21 : a.tmps[21]? = some (.bool true) := by rw [ha]; exact putSel_on (e := (3, 21, .bool true)) 3 rfl rfl (hon 3 (by kernel_rfl)) rfl
              replace ha := Aside0.mk ha
              have B0 := Aside0.mk Q_B0
              have R0 := Aside0.mk Q_R0
              have p1_ := LO_j1.out
              have q1_ := HI_j1.out
              refine value_ (w1 := w') (v := .pointer (some ⟨g, j1 * 3, none⟩)) (wanted_on rfl rfl rfl (e21.trans (by first | rfl | (simp [*]; done)))) rfl ?_ ?_
              · go_simp
                (try simp only [i64_w])
                try rfl
              refine hK.out _ _ ⟨rv, (by rw [ha.out]; exact putSel_upk 12 hb_ rfl rfl rfl), Q_B0, Q_R0, fun h0_ => absurd ((hoff 14 (by kernel_rfl)).symm.trans h0_) (by decide)⟩
            refine steps_cons ?_ ?_
            · rintro b a w' ⟨rv, ha, Q_B0, Q_R0, Q_HRV⟩ hb_ hon hoff
              refine ⟨_, rfl, fun K hK => ?_⟩
              have e30 : a.tmps[30]? = some (.pointer (some ⟨g, j1 * 3, none⟩)) := by rw [ha]; exact putSel_on (e := (12, 30, .pointer (some ⟨g, j1 * 3, none⟩))) 12 rfl rfl (hon 12 (by kernel_rfl)) rfl
              have e21 : a.tmps[21]? = some (.bool true) := by rw [ha]; exact putSel_on (e := (3, 21, .bool true)) 3 rfl rfl (hon 3 (by kernel_rfl)) rfl
              replace ha := Aside0.mk ha
              have B0 := Aside0.mk Q_B0
              have R0 := Aside0.mk Q_R0
              have cs_ := R0.out.cells HX_j1.out
              refine value_ (w1 := w') (v := .agg #[.int .i64 y.nr, .int .i64 y.kd, .slice y.A y.n y.c]) (wanted_on rfl rfl rfl (e21.trans (by first | rfl | (simp [*]; done)))) rfl ?_ ?_
              · go_simp
                (try simp only [i64_w])
                try rfl
              refine hK.out _ _ ⟨rv, (by rw [ha.out]; exact putSel_upk 13 hb_ rfl rfl rfl), Q_B0, Q_R0, fun h0_ => absurd ((hoff 14 (by kernel_rfl)).symm.trans h0_) (by decide)⟩
            refine steps_cons ?_ ?_
            · rintro b a w' ⟨rv, ha, Q_B0, Q_R0, Q_HRV⟩ hb_ hon hoff
              refine ⟨_, rfl, fun K hK => ?_⟩
              have e22 : a.tmps[22]? = some (.func (.func 85) #[] #[]) := by rw [ha]; exact putSel_on (e := (4, 22, .func (.func 85) #[] #[])) 4 rfl rfl (hon 4 (by kernel_rfl)) rfl
              have e26 : a.tmps[26]? = some (.agg #[.int .i64 x.nr, .int .i64 x.kd, .slice x.A x.n x.c]) := by rw [ha]; exact putSel_on (e := (8, 26, .agg #[.int .i64 x.nr, .int .i64 x.kd, .slice x.A x.n x.c])) 8 rfl rfl (hon 8 (by kernel_rfl)) rfl
              have e31 : a.tmps[31]? = some (.agg #[.int .i64 y.nr, .int .i64 y.kd, .slice y.A y.n y.c]) := by rw [ha]; exact putSel_on (e := (13, 31, .agg #[.int .i64 y.nr, .int .i64 y.kd, .slice y.A y.n y.c])) 13 rfl rfl (hon 13 (by kernel_rfl)) rfl
              have e21 : a.tmps[21]? = some (.bool true) := by rw [ha]; exact putSel_on (e := (3, 21, .bool true)) 3 rfl rfl (hon 3 (by kernel_rfl)) rfl
              replace ha := Aside0.mk ha
              have B0 := Aside0.mk Q_B0
              have R0 := Aside0.mk Q_R0
              refine goesv_ (t := 22) Try.func85 (by kernel_rfl) rfl #[.agg #[.int .i64 x.nr, .int .i64 x.kd, .slice x.A x.n x.c], .agg #[.int .i64 y.nr, .int .i64 y.kd, .slice y.A y.n y.c]] (wanted_on rfl rfl rfl (e21.trans rfl)) rfl rfl e22 (by first | (simp only [List.map_toArray, List.map_cons, List.map_nil, Act.eval, Array.getD_eq_getD_getElem?, Option.getD_some, e22, e26, e31, e21]; done) | (simp only [List.map_toArray, List.map_cons, List.map_nil, Act.eval, Array.getD_eq_getD_getElem?, Option.getD_some, e22, e26, e31, e21]; rfl)) ?_
              with_reducible refine (HCMP.out w' x y).mono ?_
              rintro e w2 ⟨r_, rfl, hr_, hb⟩
              refine ⟨_, rfl, ?_⟩
              refine hK.out _ _ ⟨.int .i64 r_, (by rw [ha.out]; exact putSel_upk 14 hb_ rfl rfl rfl), below_row B0.out HG.out R0.out hb, RowB.below R0.out hb, fun _ => ⟨r_, rfl, hr_.trans HTV.out⟩⟩
            refine steps_cons ?_ ?_
            · rintro b a w' ⟨rv, ha, Q_B0, Q_R0, Q_HRV⟩ hb_ hon hoff
              refine ⟨_, rfl, fun K hK => ?_⟩
              have e32 : a.tmps[32]? = some (rv) := by rw [ha]; exact putSel_on (e := (14, 32, rv)) 14 rfl rfl (hon 14 (by kernel_rfl)) rfl
              have e21 : a.tmps[21]? = some (.bool true) := by rw [ha]; exact putSel_on (e := (3, 21, .bool true)) 3 rfl rfl (hon 3 (by kernel_rfl)) rfl
              replace ha := Aside0.mk ha
              have B0 := Aside0.mk Q_B0
              have R0 := Aside0.mk Q_R0
              have HRV := Aside0.mk (Q_HRV (hon 14 (by kernel_rfl)))
              obtain ⟨r_, hr1_, hr2_⟩ := HRV.out
              rw [hr1_] at e32
              refine value_ (w1 := w') (v := .bool false) (wanted_on rfl rfl rfl (e21.trans (by first | rfl | (simp [*]; done)))) rfl ?_ ?_
              · go_simp
                (try simp only [i64_w])
                try rfl
              refine hK.out _ _ ⟨rv, (by rw [ha.out]; exact putSel_upk 15 hb_ rfl rfl rfl), Q_B0, Q_R0, Q_HRV⟩
            refine steps_cons ?_ ?_
            · rintro b a w' ⟨rv, ha, Q_B0, Q_R0, Q_HRV⟩ hb_ hon hoff
              refine ⟨_, rfl, fun K hK => ?_⟩
              have e21 : a.tmps[21]? = some (.bool true) := by rw [ha]; exact putSel_on (e := (3, 21, .bool true)) 3 rfl rfl (hon 3 (by kernel_rfl)) rfl
              have e33 : a.tmps[33]? = some (.bool false) := by rw [ha]; exact putSel_on (e := (15, 33, .bool false)) 15 rfl rfl (hon 15 (by kernel_rfl)) rfl
              replace ha := Aside0.mk ha
              have B0 := Aside0.mk Q_B0
              have R0 := Aside0.mk Q_R0
              have HRV := Aside0.mk (Q_HRV (hon 14 (by kernel_rfl)))
              refine value_ (w1 := w') (v := .bool false) (by rfl) rfl ?_ ?_
              · go_simp
                (try simp only [i64_w])
                try rfl
              refine hK.out _ _ ⟨rv, (by rw [ha.out]; exact putSel_upk 16 hb_ rfl rfl rfl), Q_B0, Q_R0, Q_HRV⟩
            exact steps_nil
          rintro b a wl hall ⟨rv, ha, Q_B0, Q_R0, Q_HRV⟩
          clear B0 R0
          have hb0_ := hall 0 (by kernel_rfl)
          have hb1_ := hall 1 (by kernel_rfl)
          have hb2_ := hall 2 (by kernel_rfl)
          have hb3_ := hall 3 (by kernel_rfl)
          have hb4_ := hall 4 (by kernel_rfl)
          have hb5_ := hall 5 (by kernel_rfl)
          have hb6_ := hall 6 (by kernel_rfl)
          have hb7_ := hall 7 (by kernel_rfl)
          have hb8_ := hall 8 (by kernel_rfl)
          have hb9_ := hall 9 (by kernel_rfl)
          have hb10_ := hall 10 (by kernel_rfl)
          have hb11_ := hall 11 (by kernel_rfl)
          have hb12_ := hall 12 (by kernel_rfl)
          have hb13_ := hall 13 (by kernel_rfl)
          have hb14_ := hall 14 (by kernel_rfl)
          have hb15_ := hall 15 (by kernel_rfl)
          have hb16_ := hall 16 (by kernel_rfl)
          subst ha
          simp only [putSel, hb0_, hb1_, hb2_, hb3_, hb4_, hb5_, hb6_, hb7_, hb8_, hb9_, hb10_, hb11_, hb12_, hb13_, hb14_, hb15_, hb16_, if_true, Act.put, List.setIfInBounds_toArray, List.set_cons_zero, List.set_cons_succ]
          have B0 := Aside0.mk Q_B0
          clear Q_B0
          have R0 := Aside0.mk Q_R0
          clear Q_R0
          have HRV := Aside0.mk (Q_HRV hb14_)
          clear Q_HRV
          clear hall hb0_ hb1_ hb2_ hb3_ hb4_ hb5_ hb6_ hb7_ hb8_ hb9_ hb10_ hb11_ hb12_ hb13_ hb14_ hb15_ hb16_
          clear HRV
          go_wp2_with fail
          go_roundg (ib + 1 - i)
          case measure => have := HQ.out; have := HI2.out; omega
          case rel => exact ⟨i + 1, by first | rfl | (simp; unfold wrap64; have := HI2.out; have := HL.out; omega), ⟨by have := HI2.out; have := HI.out; omega⟩, ⟨by rw [← HT.out, ← HR2.out, ← HEND.out]; exact R0.out⟩, B0, ⟨by have := HI2.out; omega⟩⟩
end Go.Proofs.Ytnchdmidaigheaa.QS
