namespace Go.Proofs.Ytnopjcakilfepaa.SS
set_option linter.unusedVariables false
variable {α : Type}
structure Ord (lt : α → α → Bool) : Prop where
  asym : ∀ x y, lt x y = true → lt y x = false
  trans : ∀ x y z, lt y x = false → lt z y = false → lt z x = false
theorem Ord.irrefl {lt : α → α → Bool} (h : Ord lt) (x : α) : lt x x = false := by
  cases hx : lt x x with
  | false => rfl
  | true => rw [h.asym x x hx] at hx; cases hx
theorem Ord.le_lt {lt : α → α → Bool} (h : Ord lt) {x y z : α} (h1 : lt y x = false) (h2 : lt y z = true) : lt x z = true := by
  cases hx : lt x z with
  | true => rfl
  | false => rw [h.trans z x y hx h1] at h2; cases h2
theorem Ord.lt_le {lt : α → α → Bool} (h : Ord lt) {x y z : α} (h1 : lt x y = true) (h2 : lt z y = false) : lt x z = true := by
  cases hx : lt x z with
  | true => rfl
  | false => rw [h.trans y z x h2 hx] at h1; cases h1
def eqv (lt : α → α → Bool) (z x : α) : Bool := !lt z x && !lt x z
theorem eqv_of {lt : α → α → Bool} {z x : α} (h1 : lt z x = false) (h2 : lt x z = false) : eqv lt z x = true := by simp [eqv, h1, h2]
theorem of_eqv {lt : α → α → Bool} {z x : α} (h : eqv lt z x = true) : lt z x = false ∧ lt x z = false := by
  unfold eqv at h
  simp only [Bool.and_eq_true, Bool.not_eq_true'] at h
  exact h
def Sorted (lt : α → α → Bool) (l : List α) : Prop := l.Pairwise fun x y => lt y x = false
def mrg (lt : α → α → Bool) : List α → List α → List α
  | [], ys => ys
  | x :: xs, ys => go x xs (mrg lt xs) ys
where
  go (x : α) (xs : List α) (rest : List α → List α) : List α → List α
    | [] => x :: xs
    | y :: ys => if lt y x = true then y :: go x xs rest ys else x :: rest (y :: ys)
theorem mrg_nil (lt : α → α → Bool) (ys : List α) : mrg lt [] ys = ys := by simp [mrg]
theorem mrg_nil_right (lt : α → α → Bool) (xs : List α) : mrg lt xs [] = xs := by cases xs <;> simp [mrg, mrg.go]
theorem mrg_cons (lt : α → α → Bool) (x y : α) (xs ys : List α) : mrg lt (x :: xs) (y :: ys) = if lt y x = true then y :: mrg lt (x :: xs) ys else x :: mrg lt xs (y :: ys) := by
  simp only [mrg, mrg.go]
theorem mem_mrg {lt : α → α → Bool} {z : α} : ∀ (xs ys : List α), z ∈ mrg lt xs ys ↔ z ∈ xs ∨ z ∈ ys
  | [], ys => by simp [mrg_nil]
  | x :: xs, [] => by simp [mrg_nil_right]
  | x :: xs, y :: ys => by
    rw [mrg_cons]
    split
    · rw [List.mem_cons, mem_mrg (x :: xs) ys]
      simp only [List.mem_cons]
      constructor
      · rintro (h | h | h)
        · exact .inr (.inl h)
        · exact .inl h
        · exact .inr (.inr h)
      · rintro (h | h | h)
        · exact .inr (.inl h)
        · exact .inl h
        · exact .inr (.inr h)
    · rw [List.mem_cons, mem_mrg xs (y :: ys)]
      simp only [List.mem_cons]
      constructor
      · rintro (h | h | h)
        · exact .inl (.inl h)
        · exact .inl (.inr h)
        · exact .inr h
      · rintro ((h | h) | h)
        · exact .inl h
        · exact .inr (.inl h)
        · exact .inr (.inr h)
termination_by xs ys => xs.length + ys.length
theorem mrg_length (lt : α → α → Bool) : ∀ (xs ys : List α), (mrg lt xs ys).length = xs.length + ys.length
  | [], ys => by simp [mrg_nil]
  | x :: xs, [] => by simp [mrg_nil_right]
  | x :: xs, y :: ys => by
    rw [mrg_cons]
    split
    · rw [List.length_cons, mrg_length lt (x :: xs) ys]; simp only [List.length_cons]; omega
    · rw [List.length_cons, mrg_length lt xs (y :: ys)]; simp only [List.length_cons]; omega
termination_by xs ys => xs.length + ys.length
theorem mrg_sorted {lt : α → α → Bool} (h : Ord lt) : ∀ (xs ys : List α), Sorted lt xs → Sorted lt ys → Sorted lt (mrg lt xs ys)
  | [], ys, _, hy => by rw [mrg_nil]; exact hy
  | x :: xs, [], hx, _ => by rw [mrg_nil_right]; exact hx
  | x :: xs, y :: ys, hx, hy => by
    have hx' := List.pairwise_cons.1 hx
    have hy' := List.pairwise_cons.1 hy
    rw [mrg_cons]
    split
    · rename_i hlt
      refine List.pairwise_cons.2 ⟨fun z hz => ?_, mrg_sorted h (x :: xs) ys hx hy'.2⟩
      rcases (mem_mrg _ _).1 hz with hz | hz
      · rcases List.mem_cons.1 hz with rfl | hz
        · exact h.asym _ _ hlt
        · exact h.trans y x z (h.asym _ _ hlt) (hx'.1 z hz)
      · exact hy'.1 z hz
    · rename_i hlt
      have hlt : lt y x = false := by simpa using hlt
      refine List.pairwise_cons.2 ⟨fun z hz => ?_, mrg_sorted h xs (y :: ys) hx'.2 hy⟩
      rcases (mem_mrg _ _).1 hz with hz | hz
      · exact hx'.1 z hz
      · rcases List.mem_cons.1 hz with rfl | hz
        · exact hlt
        · exact h.trans x y z hlt (hy'.1 z hz)
termination_by xs ys => xs.length + ys.length
theorem mrg_filter {lt : α → α → Bool} (h : Ord lt) (z : α) : ∀ (xs ys : List α), Sorted lt xs → (mrg lt xs ys).filter (eqv lt z) = xs.filter (eqv lt z) ++ ys.filter (eqv lt z)
  | [], ys, _ => by simp [mrg_nil]
  | x :: xs, [], _ => by simp [mrg_nil_right]
  | x :: xs, y :: ys, hx => by
    have hx' := List.pairwise_cons.1 hx
    rw [mrg_cons]
    split
    · rename_i hlt
      rw [List.filter_cons, mrg_filter h z (x :: xs) ys hx]
      by_cases hz : eqv lt z y = true
      · rw [if_pos hz]
        have hn : (x :: xs).filter (eqv lt z) = [] := by
          refine List.filter_eq_nil_iff.2 (fun u hu hue => ?_)
          have h1 := of_eqv hz
          have h2 := of_eqv hue
          have hyu : lt y u = true := by
            rcases List.mem_cons.1 hu with rfl | hu
            · exact hlt
            · exact h.lt_le hlt (hx'.1 u hu)
          have := h.trans u z y h2.1 h1.2
          rw [this] at hyu
          cases hyu
        rw [hn, List.filter_cons, if_pos hz]
        rfl
      · rw [if_neg hz]
        conv => rhs; rw [List.filter_cons (x := y), if_neg hz]
    · rw [List.filter_cons, mrg_filter h z xs (y :: ys) hx'.2]
      by_cases hz : eqv lt z x = true
      · rw [if_pos hz, List.filter_cons (x := x), if_pos hz]
        rfl
      · rw [if_neg hz, List.filter_cons (x := x), if_neg hz]
termination_by xs ys => xs.length + ys.length
theorem mrg_split {lt : α → α → Bool} : ∀ (a1 a2 b1 b2 : List α), (∀ x ∈ a1, ∀ y ∈ b2, lt y x = false) → (∀ y ∈ b1, ∀ x ∈ a2, lt y x = true) → mrg lt (a1 ++ a2) (b1 ++ b2) = mrg lt a1 b1 ++ mrg lt a2 b2
  | [], a2, [], b2, _, _ => by simp [mrg_nil]
  | [], [], y :: b1, b2, _, _ => by simp [mrg_nil]
  | [], x :: a2, y :: b1, b2, h1, h2 => by
    have ih := mrg_split [] (x :: a2) b1 b2 h1 (fun u hu => h2 u (List.mem_cons_of_mem _ hu))
    simp only [List.nil_append, mrg_nil] at ih ⊢
    rw [List.cons_append, mrg_cons, if_pos (h2 y (List.mem_cons_self ..) x (List.mem_cons_self ..)), ih]
    rfl
  | x :: a1, a2, [], [], _, _ => by simp [mrg_nil_right]
  | x :: a1, a2, [], y :: b2, h1, h2 => by
    have ih := mrg_split a1 a2 [] (y :: b2) (fun u hu => h1 u (List.mem_cons_of_mem _ hu)) h2
    simp only [List.nil_append, mrg_nil_right] at ih ⊢
    rw [List.cons_append, mrg_cons, if_neg (by rw [h1 x (List.mem_cons_self ..) y (List.mem_cons_self ..)]; decide), ih]
    rfl
  | x :: a1, a2, y :: b1, b2, h1, h2 => by
    rw [List.cons_append, List.cons_append, mrg_cons, mrg_cons]
    split
    · have ih := mrg_split (x :: a1) a2 b1 b2 h1 (fun u hu => h2 u (List.mem_cons_of_mem _ hu))
      rw [List.cons_append] at ih
      rw [ih]
      rfl
    · have ih := mrg_split a1 a2 (y :: b1) b2 (fun u hu => h1 u (List.mem_cons_of_mem _ hu)) h2
      rw [List.cons_append] at ih
      rw [ih]
      rfl
termination_by a1 a2 b1 b2 => a1.length + b1.length
def StableOf (lt : α → α → Bool) (l out : List α) : Prop := Sorted lt out ∧ (∀ z, z ∈ out ↔ z ∈ l) ∧ ∀ z, out.filter (eqv lt z) = l.filter (eqv lt z)
theorem StableOf.mrg {lt : α → α → Bool} (h : Ord lt) {a b sa sb : List α} (ha : StableOf lt a sa) (hb : StableOf lt b sb) : StableOf lt (a ++ b) (mrg lt sa sb) := by
  refine ⟨mrg_sorted h sa sb ha.1 hb.1, fun z => ?_, fun z => ?_⟩
  · rw [mem_mrg, ha.2.1, hb.2.1, List.mem_append]
  · rw [mrg_filter h z sa sb ha.1, ha.2.2, hb.2.2, List.filter_append]
theorem Sorted.eq {lt : α → α → Bool} (h : Ord lt) : ∀ (u v : List α), Sorted lt u → Sorted lt v → (∀ z, u.filter (eqv lt z) = v.filter (eqv lt z)) → u = v
  | [], [], _, _, _ => rfl
  | [], y :: v, _, _, hf => by
    have := hf y
    rw [List.filter_cons, if_pos (eqv_of (h.irrefl y) (h.irrefl y))] at this
    cases this
  | x :: u, [], _, _, hf => by
    have := hf x
    rw [List.filter_cons, if_pos (eqv_of (h.irrefl x) (h.irrefl x))] at this
    cases this
  | x :: u, y :: v, hu, hv, hf => by
    have hu' := List.pairwise_cons.1 hu
    have hv' := List.pairwise_cons.1 hv
    have hx : x ∈ y :: v := by
      have := hf x
      rw [List.filter_cons, if_pos (eqv_of (h.irrefl x) (h.irrefl x))] at this
      have hm : x ∈ (y :: v).filter (eqv lt x) := by rw [← this]; exact List.mem_cons_self ..
      exact (List.mem_filter.1 hm).1
    have hy : y ∈ x :: u := by
      have := hf y
      rw [List.filter_cons (x := y), if_pos (eqv_of (h.irrefl y) (h.irrefl y))] at this
      have hm : y ∈ (x :: u).filter (eqv lt y) := by rw [this]; exact List.mem_cons_self ..
      exact (List.mem_filter.1 hm).1
    have hxy : lt x y = false := by
      rcases List.mem_cons.1 hx with rfl | hx
      · exact h.irrefl _
      · exact hv'.1 x hx
    have hyx : lt y x = false := by
      rcases List.mem_cons.1 hy with rfl | hy
      · exact h.irrefl _
      · exact hu'.1 y hy
    have h1 := hf x
    rw [List.filter_cons, if_pos (eqv_of (h.irrefl x) (h.irrefl x)), List.filter_cons, if_pos (eqv_of hxy hyx)] at h1
    have hxe : x = y := by injection h1
    subst hxe
    rw [Sorted.eq h u v hu'.2 hv'.2 (fun z => ?_)]
    have h2 := hf z
    rw [List.filter_cons, List.filter_cons] at h2
    split at h2
    · injection h2
    · exact h2
theorem StableOf.eq {lt : α → α → Bool} (h : Ord lt) {l u v : List α} (hu : StableOf lt l u) (hv : StableOf lt l v) : u = v :=
  Sorted.eq h u v hu.1 hv.1 (fun z => (hu.2.2 z).trans (hv.2.2 z).symm)
def put (lt : α → α → Bool) (x : α) : List α → List α
  | [] => [x]
  | y :: ys => if lt x y = true then x :: y :: ys else y :: put lt x ys
theorem put_mrg (lt : α → α → Bool) (x : α) : ∀ ys : List α, put lt x ys = mrg lt ys [x]
  | [] => by simp [put, mrg_nil]
  | y :: ys => by
    rw [put, mrg_cons, put_mrg lt x ys, mrg_nil_right]
theorem StableOf.put {lt : α → α → Bool} (h : Ord lt) {l s : List α} (hs : StableOf lt l s) (x : α) : StableOf lt (l ++ [x]) (put lt x s) := by
  rw [put_mrg]
  exact hs.mrg h ⟨by simp [Sorted], fun z => Iff.rfl, fun z => rfl⟩
theorem StableOf.nil (lt : α → α → Bool) : StableOf lt ([] : List α) [] := ⟨by simp [Sorted], fun z => Iff.rfl, fun z => rfl⟩
def ssort (lt : α → α → Bool) (l : List α) : List α := l.foldl (fun s x => put lt x s) []
theorem ssort_snoc (lt : α → α → Bool) (l : List α) (x : α) : ssort lt (l ++ [x]) = put lt x (ssort lt l) := by simp [ssort]
theorem ssort_stable_aux {lt : α → α → Bool} (h : Ord lt) : ∀ (n : Nat) (l : List α), l.length = n → StableOf lt l (ssort lt l)
  | 0, l, hl => by rw [List.eq_nil_of_length_eq_zero hl]; exact StableOf.nil lt
  | n + 1, l, hl => by
    have hne : l ≠ [] := by intro e; rw [e] at hl; cases hl
    rw [← List.dropLast_concat_getLast hne, ssort_snoc]
    exact (ssort_stable_aux h n _ (by rw [List.length_dropLast]; omega)).put h _
theorem ssort_stable {lt : α → α → Bool} (h : Ord lt) (l : List α) : StableOf lt l (ssort lt l) := ssort_stable_aux h l.length l rfl
theorem ssort_mrg {lt : α → α → Bool} (h : Ord lt) (a b : List α) : mrg lt (ssort lt a) (ssort lt b) = ssort lt (a ++ b) :=
  ((ssort_stable h a).mrg h (ssort_stable h b)).eq h (ssort_stable h (a ++ b))
def swp1 (d : List α) (p q : Nat) : List α := match d[p]?, d[q]? with | some x, some y => (d.set p y).set q x | _, _ => d
def swp (d : List α) (a b : Nat) : Nat → List α
  | 0 => d
  | i + 1 => swp1 (swp d a b i) (a + i) (b + i)
theorem swp1_length (d : List α) (p q : Nat) : (swp1 d p q).length = d.length := by unfold swp1; split <;> simp
theorem swp_length (d : List α) (a b : Nat) : ∀ i, (swp d a b i).length = d.length
  | 0 => rfl
  | i + 1 => by rw [swp, swp1_length, swp_length d a b i]
theorem swp1_get (d : List α) (p q k : Nat) (hp : p < d.length) (hq : q < d.length) : (swp1 d p q)[k]? = if k = q then d[p]? else if k = p then d[q]? else d[k]? := by
  unfold swp1
  rw [List.getElem?_eq_getElem hp, List.getElem?_eq_getElem hq]
  simp only [List.getElem?_set, List.length_set]
  by_cases h1 : q = k
  · subst h1
    simp [hq]
  · have h1' : ¬ k = q := fun e => h1 e.symm
    by_cases h2 : p = k
    · subst h2
      simp [hp, h1, h1']
    · have h2' : ¬ k = p := fun e => h2 e.symm
      simp [h1, h2, h1', h2']
theorem swp_get (d : List α) (a b : Nat) : ∀ (n : Nat), a + n ≤ b → b + n ≤ d.length → ∀ k, (swp d a b n)[k]? = if a ≤ k ∧ k < a + n then d[k - a + b]? else if b ≤ k ∧ k < b + n then d[k - b + a]? else d[k]?
  | 0, _, _, k => by
    rw [if_neg (by omega), if_neg (by omega)]
    rfl
  | n + 1, h1, h2, k => by
    have ih := swp_get d a b n (by omega) (by omega)
    rw [swp, swp1_get _ _ _ _ (by rw [swp_length]; omega) (by rw [swp_length]; omega), ih (a + n), ih (b + n), ih k]
    rw [if_neg (show ¬(a ≤ a + n ∧ a + n < a + n) by omega), if_neg (show ¬(b ≤ a + n ∧ a + n < b + n) by omega), if_neg (show ¬(a ≤ b + n ∧ b + n < a + n) by omega), if_neg (show ¬(b ≤ b + n ∧ b + n < b + n) by omega)]
    by_cases e1 : k = b + n
    · rw [if_pos e1, if_neg (show ¬(a ≤ k ∧ k < a + (n + 1)) by omega), if_pos (show b ≤ k ∧ k < b + (n + 1) by omega), show k - b + a = a + n by omega]
    · rw [if_neg e1]
      by_cases e2 : k = a + n
      · rw [if_pos e2, if_pos (show a ≤ k ∧ k < a + (n + 1) by omega), show k - a + b = b + n by omega]
      · rw [if_neg e2]
        by_cases e3 : a ≤ k ∧ k < a + n
        · rw [if_pos e3, if_pos (show a ≤ k ∧ k < a + (n + 1) by omega)]
        · rw [if_neg e3, if_neg (show ¬(a ≤ k ∧ k < a + (n + 1)) by omega)]
          by_cases e4 : b ≤ k ∧ k < b + n
          · rw [if_pos e4, if_pos (show b ≤ k ∧ k < b + (n + 1) by omega)]
          · rw [if_neg e4, if_neg (show ¬(b ≤ k ∧ k < b + (n + 1)) by omega)]
theorem swp_parts (P X M Y Q : List α) (h : X.length = Y.length) : swp (P ++ (X ++ (M ++ (Y ++ Q)))) P.length (P.length + X.length + M.length) X.length = P ++ (Y ++ (M ++ (X ++ Q))) := by
  refine List.ext_getElem? fun k => ?_
  rw [swp_get _ _ _ _ (by omega) (by simp only [List.length_append]; omega)]
  by_cases e1 : k < P.length
  · rw [if_neg (by omega), if_neg (by omega), List.getElem?_append_left e1, List.getElem?_append_left e1]
  · rw [List.getElem?_append_right (l₁ := P) (l₂ := Y ++ (M ++ (X ++ Q))) (by omega)]
    by_cases e2 : k < P.length + X.length
    · rw [if_pos (by omega), List.getElem?_append_left (l₁ := Y) (by omega), List.getElem?_append_right (by omega), List.getElem?_append_right (by omega), List.getElem?_append_right (by omega), List.getElem?_append_left (by omega)]
      congr 1
      omega
    · rw [if_neg (by omega), List.getElem?_append_right (l₁ := Y) (by omega)]
      by_cases e3 : k < P.length + X.length + M.length
      · rw [if_neg (by omega), List.getElem?_append_right (by omega), List.getElem?_append_right (by omega), List.getElem?_append_left (by omega), List.getElem?_append_left (by omega)]
        congr 1
        omega
      · rw [List.getElem?_append_right (l₁ := M) (by omega)]
        by_cases e4 : k < P.length + X.length + M.length + X.length
        · rw [if_pos (by omega), List.getElem?_append_left (l₁ := X) (l₂ := Q) (by omega), List.getElem?_append_right (by omega), List.getElem?_append_left (by omega)]
          congr 1
          omega
        · rw [if_neg (by omega), List.getElem?_append_right (l₁ := X) (l₂ := Q) (by omega), List.getElem?_append_right (by omega), List.getElem?_append_right (by omega), List.getElem?_append_right (by omega), List.getElem?_append_right (by omega)]
          congr 1
          omega
theorem swp1_next (P Q : List α) (x y : α) : swp1 (P ++ x :: y :: Q) P.length (P.length + 1) = P ++ y :: x :: Q := by
  have := swp_parts P [x] [] [y] Q rfl
  simpa [swp] using this
theorem swp1_comm (d : List α) (p q : Nat) (hp : p < d.length) (hq : q < d.length) : swp1 d p q = swp1 d q p := by
  refine List.ext_getElem? fun k => ?_
  rw [swp1_get d p q k hp hq, swp1_get d q p k hq hp]
  by_cases e1 : k = q
  · subst e1
    by_cases e2 : k = p
    · subst e2; simp
    · rw [if_pos rfl, if_neg e2, if_pos rfl]
  · rw [if_neg e1]
    by_cases e2 : k = p
    · rw [if_pos e2, if_pos e2]
    · rw [if_neg e2, if_neg e2, if_neg e1]
theorem put_last (lt : α → α → Bool) (x y : α) (h : lt x y = true) : ∀ A : List α, put lt x (A ++ [y]) = put lt x A ++ [y]
  | [] => by simp [put, h]
  | z :: A => by
    rw [List.cons_append, put, put, put_last lt x y h A]
    split <;> rfl
theorem put_end {lt : α → α → Bool} (ho : Ord lt) (x y : α) (h : lt x y = false) (A : List α) (hs : Sorted lt (A ++ [y])) : put lt x (A ++ [y]) = A ++ [y] ++ [x] := by
  rw [put_mrg]
  have := mrg_split (lt := lt) (A ++ [y]) [] [] [x] (fun z hz u hu => by
    rw [List.mem_singleton] at hu
    subst hu
    rcases List.mem_append.1 hz with hz | hz
    · exact ho.trans z y u ((List.pairwise_append.1 hs).2.2 z hz y (by simp)) h
    · rw [List.mem_singleton] at hz
      subst hz
      exact h) (fun z hz => by cases hz)
  simpa [mrg_nil, mrg_nil_right] using this
theorem ssort_one (lt : α → α → Bool) (x : α) : ssort lt [x] = [x] := by simp [ssort, put]
theorem ssort_length {lt : α → α → Bool} : ∀ l : List α, (ssort lt l).length = l.length := by
  have hp : ∀ (x : α) (l : List α), (put lt x l).length = l.length + 1 := by
    intro x l
    rw [put_mrg, mrg_length]
    rfl
  have hf : ∀ (l s : List α), (l.foldl (fun s x => put lt x s) s).length = s.length + l.length := by
    intro l
    induction l with
    | nil => intro s; rfl
    | cons a l ih => intro s; rw [List.foldl_cons, ih, hp, List.length_cons]; omega
  intro l
  unfold ssort
  rw [hf]
  simp
theorem ssort_take (lt : α → α → Bool) (S : List α) (k : Nat) (x : α) (h : S[k]? = some x) : ssort lt (S.take (k + 1)) = put lt x (ssort lt (S.take k)) := by
  rw [List.take_add_one, h, Option.toList_some, ssort_snoc]
theorem sorted_get {lt : α → α → Bool} (ho : Ord lt) {l : List α} (h : Sorted lt l) {i j : Nat} {x y : α} (hi : l[i]? = some x) (hj : l[j]? = some y) (hij : i ≤ j) : lt y x = false := by
  obtain ⟨hi1, rfl⟩ := List.getElem?_eq_some_iff.1 hi
  obtain ⟨hj1, rfl⟩ := List.getElem?_eq_some_iff.1 hj
  rcases Nat.eq_or_lt_of_le hij with e | e
  · subst e
    exact ho.irrefl _
  · exact List.pairwise_iff_getElem.1 h i j hi1 hj1 e
def Bs (f : Nat → Bool) (lo hi i j : Nat) : Prop := lo ≤ i ∧ i ≤ j ∧ j ≤ hi ∧ (∀ k, lo ≤ k → k < i → f k = true) ∧ (∀ k, j ≤ k → k < hi → f k = false)
def Mono (f : Nat → Bool) (lo hi : Nat) : Prop := ∀ k h, lo ≤ k → k ≤ h → h < hi → f h = true → f k = true
theorem Bs.init (f : Nat → Bool) (lo hi : Nat) (h : lo ≤ hi) : Bs f lo hi lo hi := ⟨Nat.le_refl _, h, Nat.le_refl _, fun k h1 h2 => by omega, fun k h1 h2 => by omega⟩
theorem Bs.up {f : Nat → Bool} {lo hi i j c : Nat} (hm : Mono f lo hi) (h : Bs f lo hi i j) (h1 : i ≤ c) (h2 : c < j) (hf : f c = true) : Bs f lo hi (c + 1) j := by
  obtain ⟨a1, a2, a3, a4, a5⟩ := h
  exact ⟨by omega, by omega, a3, fun k k1 k2 => hm k c k1 (by omega) (by omega) hf, a5⟩
theorem Bs.down {f : Nat → Bool} {lo hi i j c : Nat} (hm : Mono f lo hi) (h : Bs f lo hi i j) (h1 : i ≤ c) (h2 : c < j) (hf : f c = false) : Bs f lo hi i c := by
  obtain ⟨a1, a2, a3, a4, a5⟩ := h
  refine ⟨a1, h1, by omega, a4, fun k k1 k2 => ?_⟩
  cases hk : f k with
  | false => rfl
  | true => rw [hm c k (by omega) k1 k2 hk] at hf; cases hf
theorem mrg_one_left {lt : α → α → Bool} (x : α) (B : List α) (c : Nat) (h1 : ∀ y ∈ B.take c, lt y x = true) (h2 : ∀ y ∈ B.drop c, lt y x = false) : mrg lt [x] B = B.take c ++ (x :: B.drop c) := by
  have e1 := mrg_split (lt := lt) [] [x] (B.take c) (B.drop c) (fun z hz => by cases hz) (fun y hy z hz => by rw [List.mem_singleton] at hz; subst hz; exact h1 y hy)
  have e2 := mrg_split (lt := lt) [x] [] [] (B.drop c) (fun z hz y hy => by rw [List.mem_singleton] at hz; subst hz; exact h2 y hy) (fun y hy => by cases hy)
  rw [List.take_append_drop, List.nil_append, mrg_nil] at e1
  simp only [List.append_nil, List.nil_append, mrg_nil, mrg_nil_right] at e2
  rw [e1, e2]
  rfl
theorem mrg_one_right {lt : α → α → Bool} (x : α) (A : List α) (c : Nat) (h1 : ∀ y ∈ A.take c, lt x y = false) (h2 : ∀ y ∈ A.drop c, lt x y = true) : mrg lt A [x] = A.take c ++ (x :: A.drop c) := by
  have e1 := mrg_split (lt := lt) (A.take c) (A.drop c) [x] [] (fun z hz y hy => by cases hy) (fun y hy z hz => by rw [List.mem_singleton] at hy; subst hy; exact h2 z hz)
  have e2 := mrg_split (lt := lt) (A.take c) [] [] [x] (fun z hz y hy => by rw [List.mem_singleton] at hy; subst hy; exact h1 z hz) (fun y hy => by cases hy)
  rw [List.take_append_drop, List.append_nil, mrg_nil_right] at e1
  simp only [List.append_nil, List.nil_append, mrg_nil, mrg_nil_right] at e2
  rw [e1, e2, List.append_assoc]
  rfl
theorem shift_swp (P L Q : List α) (x : α) (t : Nat) (ht : t < L.length) : swp1 (P ++ (L.take t ++ (x :: (L.drop t ++ Q)))) (P.length + t) (P.length + t + 1) = P ++ (L.take (t + 1) ++ (x :: (L.drop (t + 1) ++ Q))) := by
  have h := swp1_next (P ++ L.take t) (L.drop (t + 1) ++ Q) x L[t]
  rw [show (P ++ L.take t).length = P.length + t by rw [List.length_append, List.length_take]; omega] at h
  rw [List.drop_eq_getElem_cons ht, List.take_add_one, List.getElem?_eq_getElem ht]
  simp only [List.append_assoc, List.cons_append, List.nil_append, Option.toList_some] at h ⊢
  exact h
theorem shift_zero (P L Q : List α) (x : α) : P ++ (L.take 0 ++ (x :: (L.drop 0 ++ Q))) = P ++ (x :: (L ++ Q)) := by simp
theorem shift_all (P L Q : List α) (x : α) : P ++ (L.take L.length ++ (x :: (L.drop L.length ++ Q))) = P ++ (L ++ (x :: Q)) := by simp
theorem get_A (P A B Q : List α) (k : Nat) (h1 : P.length ≤ k) (h2 : k < P.length + A.length) : (P ++ (A ++ (B ++ Q)))[k]? = A[k - P.length]? := by
  rw [List.getElem?_append_right h1, List.getElem?_append_left (by omega)]
theorem get_B (P A B Q : List α) (k : Nat) (h1 : P.length + A.length ≤ k) (h2 : k < P.length + A.length + B.length) : (P ++ (A ++ (B ++ Q)))[k]? = B[k - P.length - A.length]? := by
  rw [List.getElem?_append_right (by omega), List.getElem?_append_right (by omega), List.getElem?_append_left (by omega)]
def fA (lt : α → α → Bool) (d : List α) (x : α) (k : Nat) : Bool := match d[k]? with | some y => lt y x | none => false
def fB (lt : α → α → Bool) (d : List α) (x : α) (k : Nat) : Bool := match d[k]? with | some y => !lt x y | none => false
def fC (lt : α → α → Bool) (d : List α) (p c : Nat) : Bool := match d[p - c]?, d[c]? with | some y, some x => !lt y x | _, _ => false
theorem fA_at {lt : α → α → Bool} {d : List α} {x y : α} {k : Nat} (h : d[k]? = some y) : fA lt d x k = lt y x := by simp [fA, h]
theorem fB_at {lt : α → α → Bool} {d : List α} {x y : α} {k : Nat} (h : d[k]? = some y) : fB lt d x k = !lt x y := by simp [fB, h]
theorem fC_at {lt : α → α → Bool} {d : List α} {p c : Nat} {x y : α} (h : d[p - c]? = some y) (h2 : d[c]? = some x) : fC lt d p c = !lt y x := by simp [fC, h, h2]
theorem some_of (l : List α) (k : Nat) (h : k < l.length) : ∃ x, l[k]? = some x := ⟨_, List.getElem?_eq_getElem h⟩
theorem fA_mono {lt : α → α → Bool} (ho : Ord lt) (P A B Q : List α) (x : α) (hs : Sorted lt B) : Mono (fA lt (P ++ (A ++ (B ++ Q))) x) (P.length + A.length) (P.length + A.length + B.length) := by
  intro k h h1 h2 h3 hf
  obtain ⟨y, hy⟩ := some_of B (h - P.length - A.length) (by omega)
  obtain ⟨z, hz⟩ := some_of B (k - P.length - A.length) (by omega)
  rw [fA_at ((get_B P A B Q h (by omega) h3).trans hy)] at hf
  rw [fA_at ((get_B P A B Q k h1 (by omega)).trans hz)]
  exact ho.le_lt (sorted_get ho hs hz hy (by omega)) hf
theorem fB_mono {lt : α → α → Bool} (ho : Ord lt) (P A B Q : List α) (x : α) (hs : Sorted lt A) : Mono (fB lt (P ++ (A ++ (B ++ Q))) x) P.length (P.length + A.length) := by
  intro k h h1 h2 h3 hf
  obtain ⟨y, hy⟩ := some_of A (h - P.length) (by omega)
  obtain ⟨z, hz⟩ := some_of A (k - P.length) (by omega)
  rw [fB_at ((get_A P A B Q h (by omega) h3).trans hy)] at hf
  rw [fB_at ((get_A P A B Q k h1 (by omega)).trans hz)]
  have hf : lt x y = false := by simpa using hf
  simpa using ho.trans z y x (sorted_get ho hs hz hy (by omega)) hf
theorem fC_mono {lt : α → α → Bool} (ho : Ord lt) (P A B Q : List α) (p lo hi : Nat) (ha : Sorted lt A) (hb : Sorted lt B) (h1 : P.length ≤ lo) (h2 : hi ≤ P.length + A.length) (h3 : ∀ c, lo ≤ c → c < hi → c ≤ p ∧ P.length + A.length ≤ p - c ∧ p - c < P.length + A.length + B.length) : Mono (fC lt (P ++ (A ++ (B ++ Q))) p) lo hi := by
  intro k h k1 k2 k3 hf
  have e1 := h3 h (by omega) k3
  have e2 := h3 k k1 (by omega)
  obtain ⟨y, hy⟩ := some_of A (h - P.length) (by omega)
  obtain ⟨z, hz⟩ := some_of A (k - P.length) (by omega)
  obtain ⟨y', hy'⟩ := some_of B (p - h - P.length - A.length) (by omega)
  obtain ⟨z', hz'⟩ := some_of B (p - k - P.length - A.length) (by omega)
  rw [fC_at ((get_B P A B Q (p - h) (by omega) (by omega)).trans hy') ((get_A P A B Q h (by omega) (by omega)).trans hy)] at hf
  rw [fC_at ((get_B P A B Q (p - k) (by omega) (by omega)).trans hz') ((get_A P A B Q k (by omega) (by omega)).trans hz)]
  have hf : lt y' y = false := by simpa using hf
  have g1 := sorted_get ho ha hz hy (by omega)
  have g2 := sorted_get ho hb hy' hz' (by omega)
  have g3 := ho.trans z y y' g1 hf
  simpa using ho.trans z y' z' g3 g2
theorem mem_take_get {l : List α} {n : Nat} {y : α} (h : y ∈ l.take n) : ∃ k, k < n ∧ k < l.length ∧ l[k]? = some y := by
  obtain ⟨k, hk, rfl⟩ := List.getElem_of_mem h
  rw [List.length_take] at hk
  exact ⟨k, by omega, by omega, by rw [List.getElem_take, List.getElem?_eq_getElem]⟩
theorem mem_drop_get {l : List α} {n : Nat} {y : α} (h : y ∈ l.drop n) : ∃ k, n ≤ k ∧ k < l.length ∧ l[k]? = some y := by
  obtain ⟨k, hk, rfl⟩ := List.getElem_of_mem h
  rw [List.length_drop] at hk
  exact ⟨n + k, by omega, by omega, by rw [List.getElem_drop, List.getElem?_eq_getElem]⟩
theorem one_left_end {lt : α → α → Bool} (P B Q : List α) (x : α) (c : Nat) (h : Bs (fA lt (P ++ ([x] ++ (B ++ Q))) x) (P.length + 1) (P.length + 1 + B.length) c c) :
    P ++ (B.take (c - (P.length + 1)) ++ (x :: (B.drop (c - (P.length + 1)) ++ Q))) = P ++ (mrg lt [x] B ++ Q) := by
  obtain ⟨h1, _, h2, h3, h4⟩ := h
  rw [mrg_one_left x B (c - (P.length + 1)) ?_ ?_]
  · simp only [List.append_assoc, List.cons_append]
  · intro y hy
    obtain ⟨k, k1, k2, hk⟩ := mem_take_get hy
    have := h3 (P.length + 1 + k) (by omega) (by omega)
    rw [fA_at (y := y) (by rw [get_B P [x] B Q _ (by simp) (by simp; omega), ← hk]; congr 1; simp; omega)] at this
    exact this
  · intro y hy
    obtain ⟨k, k1, k2, hk⟩ := mem_drop_get hy
    have := h4 (P.length + 1 + k) (by omega) (by omega)
    rw [fA_at (y := y) (by rw [get_B P [x] B Q _ (by simp) (by simp; omega), ← hk]; congr 1; simp; omega)] at this
    exact this
theorem one_right_end {lt : α → α → Bool} (P A Q : List α) (x : α) (c : Nat) (h : Bs (fB lt (P ++ (A ++ ([x] ++ Q))) x) P.length (P.length + A.length) c c) :
    P ++ (A.take (c - P.length) ++ (x :: (A.drop (c - P.length) ++ Q))) = P ++ (mrg lt A [x] ++ Q) := by
  obtain ⟨h1, _, h2, h3, h4⟩ := h
  rw [mrg_one_right x A (c - P.length) ?_ ?_]
  · simp only [List.append_assoc, List.cons_append]
  · intro y hy
    obtain ⟨k, k1, k2, hk⟩ := mem_take_get hy
    have := h3 (P.length + k) (by omega) (by omega)
    rw [fB_at (y := y) (by rw [get_A P A [x] Q _ (by omega) (by omega), ← hk]; congr 1; omega)] at this
    simpa using this
  · intro y hy
    obtain ⟨k, k1, k2, hk⟩ := mem_drop_get hy
    have := h4 (P.length + k) (by omega) (by omega)
    rw [fB_at (y := y) (by rw [get_A P A [x] Q _ (by omega) (by omega), ← hk]; congr 1; omega)] at this
    simpa using this
theorem sym_end {lt : α → α → Bool} (ho : Ord lt) (P A B Q : List α) (ha : Sorted lt A) (hb : Sorted lt B) (ia im ib mid lo hi s e : Nat) (hia : ia = P.length) (him : im = ia + A.length) (hib : ib = im + B.length) (hA : 1 ≤ A.length) (hB : 1 ≤ B.length) (hmid : mid = (ia + ib) / 2)
    (hlo : mid < im ∧ lo = mid + im - ib ∧ hi = mid ∨ im ≤ mid ∧ lo = ia ∧ hi = im) (h : Bs (fC lt (P ++ (A ++ (B ++ Q))) (mid + im - 1)) lo hi s s) (he : e = mid + im - s) :
    mrg lt A B = mrg lt (A.take (s - ia)) (B.take (e - im)) ++ mrg lt (A.drop (s - ia)) (B.drop (e - im)) ∧ ia ≤ s ∧ s ≤ im ∧ s ≤ mid ∧ im ≤ e ∧ e ≤ ib := by
  obtain ⟨h1, _, h2, h3, h4⟩ := h
  have hbd : ia ≤ s ∧ s ≤ im ∧ s ≤ mid ∧ im ≤ e ∧ e ≤ ib := by omega
  refine ⟨?_, hbd⟩
  have := mrg_split (lt := lt) (A.take (s - ia)) (A.drop (s - ia)) (B.take (e - im)) (B.drop (e - im)) ?_ ?_
  · rw [List.take_append_drop, List.take_append_drop] at this
    exact this
  · intro x hx y hy
    obtain ⟨i, i1, i2, hi'⟩ := mem_take_get hx
    obtain ⟨j, j1, j2, hj'⟩ := mem_drop_get hy
    have f1 := h3 (s - 1) (by omega) (by omega)
    obtain ⟨u, hu⟩ := some_of A (s - 1 - ia) (by omega)
    obtain ⟨v, hv⟩ := some_of B (e - im) (by omega)
    rw [fC_at (y := v) (x := u) (by rw [get_B P A B Q _ (by omega) (by omega), ← hv]; congr 1; omega) (by rw [get_A P A B Q _ (by omega) (by omega), ← hu]; congr 1; omega)] at f1
    have f1 : lt v u = false := by simpa using f1
    have g1 := sorted_get ho ha hi' hu (by omega)
    have g2 := sorted_get ho hb hv hj' (by omega)
    exact ho.trans x v y (ho.trans x u v g1 f1) g2
  · intro y hy x hx
    obtain ⟨i, i1, i2, hi'⟩ := mem_drop_get hx
    obtain ⟨j, j1, j2, hj'⟩ := mem_take_get hy
    have f1 := h4 s (by omega) (by omega)
    obtain ⟨u, hu⟩ := some_of A (s - ia) (by omega)
    obtain ⟨v, hv⟩ := some_of B (e - im - 1) (by omega)
    rw [fC_at (y := v) (x := u) (by rw [get_B P A B Q _ (by omega) (by omega), ← hv]; congr 1; omega) (by rw [get_A P A B Q _ (by omega) (by omega), ← hu]; congr 1; omega)] at f1
    have f1 : lt v u = true := by simpa using f1
    have g1 := sorted_get ho ha hu hi' (by omega)
    have g2 := sorted_get ho hb hj' hv (by omega)
    exact ho.lt_le (ho.le_lt g2 f1) g1
theorem shift_back (P L Q : List α) (x : α) (t : Nat) (ht : t < L.length) : swp1 (P ++ (L.take (t + 1) ++ (x :: (L.drop (t + 1) ++ Q)))) (P.length + t) (P.length + t + 1) = P ++ (L.take t ++ (x :: (L.drop t ++ Q))) := by
  have h := swp1_next (P ++ L.take t) (L.drop (t + 1) ++ Q) L[t] x
  rw [show (P ++ L.take t).length = P.length + t by rw [List.length_append, List.length_take]; omega] at h
  rw [List.drop_eq_getElem_cons ht, List.take_add_one, List.getElem?_eq_getElem ht]
  simp only [List.append_assoc, List.cons_append, List.nil_append, Option.toList_some] at h ⊢
  exact h
theorem shift_at (P L Q : List α) (x : α) (t : Nat) (ht : t ≤ L.length) : (P ++ (L.take t ++ (x :: (L.drop t ++ Q))))[P.length + t]? = some x := by
  rw [List.getElem?_append_right (by omega), List.getElem?_append_right (by rw [List.length_take]; omega), List.length_take, show P.length + t - P.length - min t L.length = 0 by omega]
  rfl
theorem shift_above (P L Q : List α) (x : α) (t : Nat) (ht : t < L.length) : (P ++ (L.take t ++ (x :: (L.drop t ++ Q))))[P.length + t + 1]? = L[t]? := by
  rw [List.getElem?_append_right (by omega), List.getElem?_append_right (by rw [List.length_take]; omega), List.length_take, show P.length + t + 1 - P.length - min t L.length = 1 by omega, List.drop_eq_getElem_cons ht, List.getElem?_eq_getElem ht]
  rfl
theorem shift_below (P L Q : List α) (x : α) (t : Nat) (ht : t < L.length) : (P ++ (L.take (t + 1) ++ (x :: (L.drop (t + 1) ++ Q))))[P.length + t]? = L[t]? := by
  rw [List.getElem?_append_right (by omega), List.getElem?_append_left (by rw [List.length_take]; omega), show P.length + t - P.length = t by omega, List.getElem?_take_of_lt (by omega)]
theorem shift_length (P L Q : List α) (x : α) (t : Nat) : (P ++ (L.take t ++ (x :: (L.drop t ++ Q)))).length = P.length + (L.length + (1 + Q.length)) := by
  simp only [List.length_append, List.length_cons, List.length_take, List.length_drop]
  omega
def srtN (lt : α → α → Bool) (bs : Nat) : Nat → List α → List α
  | 0, d => ssort lt d
  | k + 1, d => if d.length ≤ bs then ssort lt d else ssort lt (d.take bs) ++ srtN lt bs k (d.drop bs)
def srt (lt : α → α → Bool) (bs : Nat) (d : List α) : List α := srtN lt bs d.length d
theorem ssort_nil (lt : α → α → Bool) : ssort lt ([] : List α) = [] := rfl
theorem srtN_short (lt : α → α → Bool) (bs : Nat) (k : Nat) (d : List α) (h : d.length ≤ bs) : srtN lt bs k d = ssort lt d := by
  cases k with
  | zero => rfl
  | succ k => rw [srtN, if_pos h]
theorem srtN_more (lt : α → α → Bool) (bs : Nat) (hb : 0 < bs) : ∀ (k m : Nat) (d : List α), d.length ≤ k → d.length ≤ m → srtN lt bs k d = srtN lt bs m d
  | 0, m, d, h1, _ => by rw [srtN_short lt bs m d (by omega)]; rfl
  | k + 1, 0, d, _, h2 => by rw [srtN_short lt bs (k + 1) d (by omega)]; rfl
  | k + 1, m + 1, d, h1, h2 => by
    rw [srtN, srtN]
    split
    · rfl
    · rw [srtN_more lt bs hb k m _ (by rw [List.length_drop]; omega) (by rw [List.length_drop]; omega)]
theorem srt_short (lt : α → α → Bool) (bs : Nat) (d : List α) (h : d.length ≤ bs) : srt lt bs d = ssort lt d := srtN_short lt bs _ d h
theorem srt_step (lt : α → α → Bool) (bs : Nat) (hb : 0 < bs) (d : List α) (h : bs ≤ d.length) : srt lt bs d = ssort lt (d.take bs) ++ srt lt bs (d.drop bs) := by
  rcases Nat.eq_or_lt_of_le h with e | e
  · rw [srt_short lt bs d (by omega), srt_short lt bs _ (by rw [List.length_drop]; omega), e, List.take_length, List.drop_length, ssort_nil, List.append_nil]
  · unfold srt
    obtain ⟨k, hk⟩ : ∃ k, d.length = k + 1 := ⟨d.length - 1, by omega⟩
    rw [hk, srtN, if_neg (by omega), srtN_more lt bs hb k _ _ (by rw [List.length_drop]; omega) (Nat.le_refl _)]
theorem srt_length (lt : α → α → Bool) (bs : Nat) (d : List α) : (srt lt bs d).length = d.length := by
  have : ∀ (k : Nat) (d : List α), (srtN lt bs k d).length = d.length := by
    intro k
    induction k with
    | zero => intro d; exact ssort_length d
    | succ k ih =>
      intro d
      rw [srtN]
      split
      · exact ssort_length d
      · rw [List.length_append, ssort_length, ih, List.length_take, List.length_drop]; omega
  exact this _ d
theorem srt_two (lt : α → α → Bool) (bs : Nat) (hb : 0 < bs) (d : List α) (h : 2 * bs ≤ d.length) : srt lt bs d = ssort lt (d.take bs) ++ (ssort lt ((d.drop bs).take bs) ++ srt lt bs (d.drop (2 * bs))) := by
  rw [srt_step lt bs hb d (by omega), srt_step lt bs hb (d.drop bs) (by rw [List.length_drop]; omega), List.drop_drop, show bs + bs = 2 * bs by omega]
theorem take_two (bs : Nat) (d : List α) : d.take bs ++ (d.drop bs).take bs = d.take (2 * bs) := by
  rw [show 2 * bs = bs + bs by omega, List.take_add]
end Go.Proofs.Ytnopjcakilfepaa.SS
