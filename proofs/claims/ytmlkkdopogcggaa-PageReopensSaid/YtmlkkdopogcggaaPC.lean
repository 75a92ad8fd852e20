/- What covers what, and what a torn page tells: lemmas for the law PageTorn. -/
import Derived.Test.YtmlkkdopogcggaaPG
import Derived.Test.YtmlkkdopogcggaaHp25
import Derived.Test.YtmlkkdopogcggaaHp43
import Derived.Test.YtmlkkdopogcggaaHp44
import Derived.Laws.BitsAllLaws
namespace Go.Proofs.Ytmlkkdopogcggaa.PG
set_option linter.unusedVariables false
open Go.RowKit Go.Proofs.Ytmlkkdopogcggaa.Hp Go.Proofs.YtmlkkdopogcggaaW.PrintWords Go.Proofs.YtmlkkdopogcggaaW.PrintLast

theorem Ev.pos {α : Type} {f g : Nat → Option α} {r : α} {c : Prop} [Decidable c] (h : c) (k : Ev f r) : Ev (fun n => if c then f n else g n) r := Ev.congr (fun _ => if_pos h) k
theorem Ev.neg {α : Type} {f g : Nat → Option α} {r : α} {c : Prop} [Decidable c] (h : ¬ c) (k : Ev g r) : Ev (fun n => if c then f n else g n) r := Ev.congr (fun _ => if_neg h) k
/-- bit number i of bytes -/
def bitOf (b : List Int) (i : Nat) : Int := b.getD (i / 8) 0 / 2 ^ (i % 8) % 2
theorem bitOf_range (b : List Int) (i : Nat) : bitOf b i = 0 ∨ bitOf b i = 1 := by unfold bitOf; omega
theorem halve (x : Int) (h0 : 0 ≤ x) (h1 : x ≤ 255) : wrap64 (Int.tdiv x 2) = x / 2 := by
  rw [Int.tdiv_eq_ediv_of_nonneg h0]
  exact w64 (by omega)
theorem bit_loop (n : Nat) (hn : n < 1000000000) (d : Nat) : ∀ (x : Int) (j : Nat), 0 ≤ x → x ≤ 255 → j + d = n % 8 →
    Ev (fun k => wagtailref02_Bit.l0 k (n : Int) x (j : Int)) (x / 2 ^ d % 2) := by
  have hm : Int.tmod (n : Int) 8 = ((n % 8 : Nat) : Int) := by rw [Int.tmod_eq_emod_of_nonneg (by omega)]; rfl
  induction d with
  | zero =>
    intro x j h0 h1 hj
    refine Ev.step (f := fun _ => some (x % 2)) (fun k => ?_) (by rw [show x / 2 ^ 0 % 2 = x % 2 by simp]; exact Ev.now _)
    simp only [wagtailref02_Bit.l0]
    rw [hm, if_neg (by omega), Int.tmod_eq_emod_of_nonneg h0]
  | succ d ih =>
    intro x j h0 h1 hj
    refine Ev.step (fun k => ?_) (by have := ih (x / 2) (j + 1) (by omega) (by omega) (by omega); rwa [show x / 2 / 2 ^ d % 2 = x / 2 ^ (d + 1) % 2 by rw [Int.ediv_ediv_of_nonneg (by omega), Int.pow_succ, Int.mul_comm]] at this)
    simp only [wagtailref02_Bit.l0]
    rw [hm, if_pos (by omega), halve x h0 h1, w64 (by omega)]
    rfl
theorem bit_ev (b : List Int) (hb : isBytes b) (n : Nat) (hn : n < 1000000000) (h : n < 8 * b.length) : Ev (fun k => wagtailref02_Bit.f k b (n : Int)) (bitOf b n) := by
  have e : wrap64 (Int.tdiv (n : Int) 8) = ((n / 8 : Nat) : Int) := by
    rw [Int.tdiv_eq_ediv_of_nonneg (by omega)]
    exact w64 (by omega)
  have hr := getD_range b hb (n / 8)
  refine Ev.congr (fun k => ?_) (by have := bit_loop n hn (n % 8) (b.getD (n / 8) 0) 0 hr.1 hr.2 (by omega); exact this)
  unfold wagtailref02_Bit.f
  rw [e, if_pos (by omega), if_pos (by omega)]
  show wagtailref02_Bit.l0 k n (wrap64 (b.getD ((n / 8 : Nat) : Int).toNat 0)) 0 = _
  rw [Int.toNat_natCast, w64 (by omega)]
  rfl
/-- zero bits among the first n -/
def cntz (b : List Int) : Nat → Int
  | 0 => 0
  | n + 1 => cntz b n + (1 - bitOf b n)
theorem cntz_range (b : List Int) : ∀ n, 0 ≤ cntz b n ∧ cntz b n ≤ n
  | 0 => by simp [cntz]
  | n + 1 => by
    have := cntz_range b n
    have := bitOf_range b n
    simp only [cntz]
    omega
theorem count_loop (b : List Int) (hb : isBytes b) (hl : b.length ≤ 100000) (d : Nat) : ∀ (i : Nat), i + d = 8 * b.length →
    Ev (fun k => wagtailref02_Count.l0 k b (cntz b i) (i : Int)) (cntz b (8 * b.length)) := by
  have hw : wrap64 (8 * (b.length : Int)) = ((8 * b.length : Nat) : Int) := by rw [w64 (by omega)]; omega
  induction d with
  | zero =>
    intro i hi
    obtain rfl : i = 8 * b.length := by omega
    refine Ev.step (fun k => ?_) (Ev.now _)
    simp only [wagtailref02_Count.l0]
    rw [hw, if_neg (by omega)]
  | succ d ih =>
    intro i hi
    have hc := cntz_range b i
    refine Ev.step (fun k => ?_) (Ev.bind (bit_ev b hb i (by omega) (by omega)) (f := fun k t => if t = 0 then wagtailref02_Count.l0 k b (wrap64 (cntz b i + 1)) (wrap64 ((i : Int) + 1)) else wagtailref02_Count.l0 k b (cntz b i) (wrap64 ((i : Int) + 1))) ?_)
    · simp only [wagtailref02_Count.l0]
      rw [hw, if_pos (by omega)]
    · have h1 := ih (i + 1) (by omega)
      simp only [cntz] at h1
      rw [w64 (x := (i : Int) + 1) (by omega), w64 (by omega)]
      rcases bitOf_range b i with h0 | h0
      · rw [h0] at h1 ⊢
        refine Ev.congr (fun k => ?_) h1
        rw [if_pos rfl]
        rfl
      · rw [h0] at h1 ⊢
        refine Ev.congr (fun k => ?_) h1
        rw [if_neg (by omega)]
        congr 1
        omega
theorem count_ev (b : List Int) (hb : isBytes b) (hl : b.length ≤ 100000) : Ev (fun k => wagtailref02_Count.f k b) (cntz b (8 * b.length)) :=
  Ev.congr (fun k => rfl) (count_loop b hb hl (8 * b.length) 0 (by omega))
theorem cntz_step (b : List Int) (j : Nat) : cntz b (8 * (j + 1)) = cntz b (8 * j) + zbits (b.getD j 0) := by
  have e : ∀ k, k < 8 → bitOf b (8 * j + k) = b.getD j 0 / 2 ^ k % 2 := by
    intro k hk
    unfold bitOf
    rw [show (8 * j + k) / 8 = j by omega, show (8 * j + k) % 8 = k by omega]
  rw [show 8 * (j + 1) = 8 * j + 7 + 1 by omega]
  show cntz b (8 * j) + (1 - bitOf b (8 * j)) + (1 - bitOf b (8 * j + 1)) + (1 - bitOf b (8 * j + 2)) + (1 - bitOf b (8 * j + 3)) + (1 - bitOf b (8 * j + 4)) + (1 - bitOf b (8 * j + 5)) + (1 - bitOf b (8 * j + 6)) + (1 - bitOf b (8 * j + 7)) = _
  rw [show bitOf b (8 * j) = _ from e 0 (by omega), e 1 (by omega), e 2 (by omega), e 3 (by omega), e 4 (by omega), e 5 (by omega), e 6 (by omega), e 7 (by omega)]
  rw [show (2 : Int) ^ 0 = 1 from rfl, show (2 : Int) ^ 1 = 2 from rfl, show (2 : Int) ^ 2 = 4 from rfl, show (2 : Int) ^ 3 = 8 from rfl, show (2 : Int) ^ 4 = 16 from rfl, show (2 : Int) ^ 5 = 32 from rfl, show (2 : Int) ^ 6 = 64 from rfl, show (2 : Int) ^ 7 = 128 from rfl, Int.ediv_one]
  unfold zbits
  omega
theorem cntz_zsum (b : List Int) : ∀ j, j ≤ b.length → cntz b (8 * j) = zsum (b.take j)
  | 0, _ => by simp [cntz, zsum]
  | j + 1, h => by rw [cntz_step, zsum_take b j (by omega), cntz_zsum b j (by omega)]
theorem cntz_all (b : List Int) : cntz b (8 * b.length) = zsum b := by rw [cntz_zsum b b.length (Nat.le_refl _), List.take_length]
theorem refcount_ev (b : List Int) (hb : isBytes b) (hl : b.length ≤ 100000) : Ev (fun k => wagtailref02_Count.f k b) (zsum b) := by
  have := count_ev b hb hl
  rwa [cntz_all] at this
theorem bit_test (x : Int) (h0 : 0 ≤ x) (j : Nat) : (x / 2 ^ j % 2 = 1) = (x.toNat.testBit j = true) ∧ (x / 2 ^ j % 2 = 0) = (x.toNat.testBit j = false) := by
  obtain ⟨n, rfl⟩ := Int.eq_ofNat_of_zero_le h0
  have h := Nat.toNat_testBit n j
  have e : (n : Int) / 2 ^ j % 2 = ((n / 2 ^ j % 2 : Nat) : Int) := by
    rw [Int.natCast_emod, Int.natCast_ediv, Int.natCast_pow]; rfl
  rw [e, ← h, Int.toNat_natCast]
  cases n.testBit j <;> simp
theorem not_test : ∀ m : Nat, m < 256 → ∀ j, j < 8 → (255 - m).testBit j = !m.testBit j := by decide +kernel
theorem bitOf_at (b : List Int) (i j : Nat) (hj : j < 8) : bitOf b (8 * i + j) = b.getD i 0 / 2 ^ j % 2 := by
  unfold bitOf
  rw [show (8 * i + j) / 8 = i by omega, show (8 * i + j) % 8 = j by omega]
/-- byte x has no bit that a lacks -/
def cov (a x : Int) : Prop := x.toNat &&& (255 - a.toNat) = 0
instance (a x : Int) : Decidable (cov a x) := by unfold cov; exact inferInstance
theorem cov_bits (a x : Int) (ha : 0 ≤ a ∧ a ≤ 255) (hx : 0 ≤ x ∧ x ≤ 255) : cov a x ↔ ∀ j, j < 8 → x / 2 ^ j % 2 ≤ a / 2 ^ j % 2 := by
  unfold cov
  have key : ∀ j, j < 8 → ((x / 2 ^ j % 2 ≤ a / 2 ^ j % 2) ↔ (x.toNat &&& (255 - a.toNat)).testBit j = false) := by
    intro j hj
    have b1 := bit_test x hx.1 j
    have b2 := bit_test a ha.1 j
    rw [Nat.testBit_and, not_test _ (by omega) j hj]
    have hx2 : x / 2 ^ j % 2 = 0 ∨ x / 2 ^ j % 2 = 1 := by omega
    have ha2 : a / 2 ^ j % 2 = 0 ∨ a / 2 ^ j % 2 = 1 := by omega
    rcases hx2 with h1 | h1 <;> rcases ha2 with h2 | h2
    · rw [b1.2.mp h1]; simp [h1, h2]
    · rw [b1.2.mp h1]; simp [h1, h2]
    · rw [b1.1.mp h1, b2.2.mp h2]; simp [h1, h2]
    · rw [b1.1.mp h1, b2.1.mp h2]; simp [h1, h2]
  constructor
  · intro h j hj
    rw [key j hj, h, Nat.zero_testBit]
  · intro h
    apply Nat.eq_of_testBit_eq
    intro j
    rw [Nat.zero_testBit]
    by_cases hj : j < 8
    · exact (key j hj).mp (h j hj)
    · rw [Nat.testBit_and]
      have : x.toNat.testBit j = false := Nat.testBit_lt_two_pow (Nat.lt_of_lt_of_le (show x.toNat < 2 ^ 8 by omega) (Nat.pow_le_pow_right (by omega) (by omega)))
      rw [this, Bool.false_and]
theorem byte_bits (a : Int) (ha : 0 ≤ a ∧ a ≤ 255) : a = a % 2 + 2 * (a / 2 % 2) + 4 * (a / 4 % 2) + 8 * (a / 8 % 2) + 16 * (a / 16 % 2) + 32 * (a / 32 % 2) + 64 * (a / 64 % 2) + 128 * (a / 128 % 2) := by omega
theorem cov_zbits (a x : Int) (ha : 0 ≤ a ∧ a ≤ 255) (hx : 0 ≤ x ∧ x ≤ 255) (h : cov a x) : zbits a ≤ zbits x ∧ (zbits a = zbits x → a = x) := by
  have hb := (cov_bits a x ha hx).mp h
  have h0 := hb 0 (by omega)
  have h1 := hb 1 (by omega)
  have h2 := hb 2 (by omega)
  have h3 := hb 3 (by omega)
  have h4 := hb 4 (by omega)
  have h5 := hb 5 (by omega)
  have h6 := hb 6 (by omega)
  have h7 := hb 7 (by omega)
  rw [show (2 : Int) ^ 0 = 1 from rfl, Int.ediv_one, Int.ediv_one] at h0
  rw [show (2 : Int) ^ 1 = 2 from rfl] at h1
  rw [show (2 : Int) ^ 2 = 4 from rfl] at h2
  rw [show (2 : Int) ^ 3 = 8 from rfl] at h3
  rw [show (2 : Int) ^ 4 = 16 from rfl] at h4
  rw [show (2 : Int) ^ 5 = 32 from rfl] at h5
  rw [show (2 : Int) ^ 6 = 64 from rfl] at h6
  rw [show (2 : Int) ^ 7 = 128 from rfl] at h7
  have ea := byte_bits a ha
  have ex := byte_bits x hx
  unfold zbits
  generalize a % 2 = a0 at *
  generalize a / 2 % 2 = a1 at *
  generalize a / 4 % 2 = a2 at *
  generalize a / 8 % 2 = a3 at *
  generalize a / 16 % 2 = a4 at *
  generalize a / 32 % 2 = a5 at *
  generalize a / 64 % 2 = a6 at *
  generalize a / 128 % 2 = a7 at *
  generalize x % 2 = x0 at *
  generalize x / 2 % 2 = x1 at *
  generalize x / 4 % 2 = x2 at *
  generalize x / 8 % 2 = x3 at *
  generalize x / 16 % 2 = x4 at *
  generalize x / 32 % 2 = x5 at *
  generalize x / 64 % 2 = x6 at *
  generalize x / 128 % 2 = x7 at *
  constructor
  · omega
  · intro hs
    omega
/-- every byte of b is covered by a's -/
def coverL (a b : List Int) : Prop := a.length = b.length ∧ ∀ i, i < b.length → cov (a.getD i 0) (b.getD i 0)
instance (a b : List Int) : Decidable (coverL a b) := by unfold coverL; exact inferInstance
theorem cover_sum : ∀ (a b : List Int), isBytes a → isBytes b → coverL a b → zsum a ≤ zsum b ∧ (zsum a = zsum b → a = b)
  | [], [], _, _, _ => by simp
  | [], _ :: _, _, _, h => by have := h.1; simp at this
  | _ :: _, [], _, _, h => by have := h.1; simp at this
  | a :: as_, b :: bs, ha, hb, h => by
    have h1 := h.2 0 (by simp)
    have h2 : coverL as_ bs := ⟨by have := h.1; simpa using this, fun i hi => h.2 (i + 1) (by simpa using hi)⟩
    have h3 := cover_sum as_ bs (fun x hx => ha x (List.mem_cons_of_mem _ hx)) (fun x hx => hb x (List.mem_cons_of_mem _ hx)) h2
    have h4 := cov_zbits a b (ha a (List.mem_cons_self ..)) (hb b (List.mem_cons_self ..)) h1
    have ea : zsum (a :: as_) = zbits a + zsum as_ := by simp [zsum]
    have eb : zsum (b :: bs) = zbits b + zsum bs := by simp [zsum]
    rw [ea, eb]
    refine ⟨by omega, fun he => ?_⟩
    rw [h4.2 (by omega), h3.2 (by omega)]
theorem rcovers_ev (a b : List Int) (ha : isBytes a) (hb : isBytes b) (hl : b.length ≤ 100000) : Ev (fun k => wagtailref02_Covers.f k a b) (decide (coverL a b)) := by
  by_cases he : a.length = b.length
  · have hw8 : wrap64 (8 * (a.length : Int)) = ((8 * a.length : Nat) : Int) := by rw [w64 (by omega)]; omega
    have key : ∀ d i : Nat, i + d = 8 * a.length → Ev (fun k => wagtailref02_Covers.l0 k a b (i : Int)) (decide (∀ j, j < 8 * a.length → i ≤ j → bitOf b j ≤ bitOf a j)) := by
      intro d
      induction d with
      | zero =>
        intro i hi
        rw [decide_eq_true (fun j h1 h2 => absurd h1 (by omega))]
        refine Ev.step (f := fun _ => some true) (fun k => ?_) (Ev.now _)
        simp only [wagtailref02_Covers.l0]
        rw [hw8, if_neg (by omega)]
      | succ d ih =>
        intro i hi
        have hw : wrap64 ((i : Int) + 1) = ((i + 1 : Nat) : Int) := by rw [w64 (by omega)]; omega
        have hunf : ∀ k, wagtailref02_Covers.l0 (k + 1) a b (i : Int) = (wagtailref02_Bit.f k a (i : Int)).bind fun t1 => (wagtailref02_Bit.f k b (i : Int)).bind fun t2 => if t1 < t2 then some false else wagtailref02_Covers.l0 k a b ((i + 1 : Nat) : Int) := by
          intro k
          rw [← hw]
          simp only [wagtailref02_Covers.l0]
          rw [hw8, if_pos (by omega)]
        refine Ev.step hunf (Ev.bind (bit_ev a ha i (by omega) (by omega)) (Ev.bind (bit_ev b hb i (by omega) (by omega)) ?_))
        by_cases hc : bitOf a i < bitOf b i
        · rw [decide_eq_false (fun h => by have := h i (by omega) (Nat.le_refl _); omega)]
          exact Ev.pos hc (Ev.now _)
        · have hd : (decide (∀ j, j < 8 * a.length → i ≤ j → bitOf b j ≤ bitOf a j)) = (decide (∀ j, j < 8 * a.length → i + 1 ≤ j → bitOf b j ≤ bitOf a j)) := by
            rw [decide_eq_decide]
            constructor
            · intro h j h1 h2; exact h j h1 (by omega)
            · intro h j h1 h2
              by_cases hj : j = i
              · rw [hj]; omega
              · exact h j h1 (by omega)
          rw [hd]
          exact Ev.neg hc (ih (i + 1) (by omega))
    have h0 := key (8 * a.length) 0 (by omega)
    have hd : (decide (∀ j, j < 8 * a.length → 0 ≤ j → bitOf b j ≤ bitOf a j)) = decide (coverL a b) := by
      rw [decide_eq_decide]
      constructor
      · intro h
        refine ⟨he, fun i hi => (cov_bits _ _ (getD_range a ha i) (getD_range b hb i)).mpr (fun j hj => ?_)⟩
        have := h (8 * i + j) (by omega) (by omega)
        rwa [bitOf_at b i j hj, bitOf_at a i j hj] at this
      · intro h n hn _
        have h1 := (cov_bits _ _ (getD_range a ha (n / 8)) (getD_range b hb (n / 8))).mp (h.2 (n / 8) (by omega)) (n % 8) (by omega)
        exact h1
    rw [hd] at h0
    unfold wagtailref02_Covers.f
    exact Ev.pos (by omega) h0
  · rw [decide_eq_false (fun h => he h.1)]
    unfold wagtailref02_Covers.f
    exact Ev.neg (by omega) (Ev.now _)
theorem progRow_len (a b m : List Int) : (progRow a b m).length = a.length := by simp [progRow]
theorem wipeRow_len (a m : List Int) : (wipeRow a m).length = a.length := by simp [wipeRow]
theorem progRow_at (a b m : List Int) (i : Nat) (h : i < a.length) : (progRow a b m).getD i 0 = if i < b.length then progByte (a.getD i 0) (b.getD i 0) (maskAt m i) else a.getD i 0 := by
  rw [List.getD_eq_getElem?_getD, List.getElem?_eq_getElem (by rw [progRow_len]; exact h)]
  simp [progRow]
theorem wipeRow_at (a m : List Int) (i : Nat) (h : i < a.length) : (wipeRow a m).getD i 0 = (((a.getD i 0).toNat ||| (maskAt m i).toNat : Nat) : Int) := by
  rw [List.getD_eq_getElem?_getD, List.getElem?_eq_getElem (by rw [wipeRow_len]; exact h)]
  simp [wipeRow]
theorem bytes_of_getD {l : List Int} (h : ∀ i, i < l.length → 0 ≤ l.getD i 0 ∧ l.getD i 0 ≤ 255) : isBytes l := by
  intro x hx
  obtain ⟨i, hi, rfl⟩ := List.getElem_of_mem hx
  have := h i hi
  rwa [List.getD_eq_getElem?_getD, List.getElem?_eq_getElem hi] at this
theorem progRow_bytes (a b m : List Int) (ha : isBytes a) : isBytes (progRow a b m) := by
  refine bytes_of_getD (fun i hi => ?_)
  rw [progRow_len] at hi
  rw [progRow_at a b m i hi]
  have := getD_range a ha i
  split
  · unfold progByte
    have h2 := Nat.and_le_left (n := (a.getD i 0).toNat) (m := (b.getD i 0).toNat ||| (255 - (maskAt m i).toNat))
    omega
  · exact this
theorem wipeRow_bytes (a m : List Int) (ha : isBytes a) (hm : isBytes m) : isBytes (wipeRow a m) := by
  refine bytes_of_getD (fun i hi => ?_)
  rw [wipeRow_len] at hi
  rw [wipeRow_at a m i hi]
  have h1 := getD_range a ha i
  have h2 := maskAt_range m hm i
  have := Nat.or_lt_two_pow (n := 8) (show (a.getD i 0).toNat < 2 ^ 8 by omega) (show (maskAt m i).toNat < 2 ^ 8 by omega)
  omega
theorem toNat_bit_le {n m : Nat} (j : Nat) (h : n.testBit j = true → m.testBit j = true) : ((n : Int) / 2 ^ j % 2) ≤ ((m : Int) / 2 ^ j % 2) := by
  have b1 := bit_test (n : Int) (by omega) j
  have b2 := bit_test (m : Int) (by omega) j
  rw [Int.toNat_natCast] at b1 b2
  by_cases hn : n.testBit j = true
  · have h1 := b1.1.mpr hn
    have h2 := b2.1.mpr (h hn)
    omega
  · rw [Bool.not_eq_true] at hn
    have h1 := b1.2.mpr hn
    omega
theorem prog_covers (b m : List Int) (hb : isBytes b) (hm : isBytes m) : coverL (progRow (List.replicate b.length 255) b m) b := by
  refine ⟨by rw [progRow_len, List.length_replicate], fun i hi => ?_⟩
  have hrb := getD_range b hb i
  have hrm := maskAt_range m hm i
  have e : (List.replicate b.length (255 : Int)).getD i 0 = 255 := by
    rw [List.getD_eq_getElem?_getD, List.getElem?_replicate, if_pos hi]; rfl
  have hp := getD_range _ (progRow_bytes (List.replicate b.length 255) b m (fun x hx => by rw [List.mem_replicate] at hx; omega)) i
  refine (cov_bits _ _ hp hrb).mpr (fun j hj => ?_)
  rw [progRow_at _ b m i (by rw [List.length_replicate]; exact hi), if_pos hi, e]
  unfold progByte
  obtain ⟨n, hn⟩ := Int.eq_ofNat_of_zero_le hrb.1
  rw [hn, Int.toNat_natCast]
  refine toNat_bit_le j (fun h => ?_)
  rw [Nat.testBit_and, Nat.testBit_or, h]
  have : (255 : Int).toNat.testBit j = true := by
    have : ∀ j, j < 8 → (255 : Nat).testBit j = true := by decide
    exact this j hj
  rw [this]
  rfl
theorem wipe_covers (b m : List Int) (hb : isBytes b) (hm : isBytes m) : coverL (wipeRow b m) b := by
  refine ⟨wipeRow_len _ _, fun i hi => ?_⟩
  have hrb := getD_range b hb i
  have hp := getD_range _ (wipeRow_bytes b m hb hm) i
  refine (cov_bits _ _ hp hrb).mpr (fun j hj => ?_)
  rw [wipeRow_at _ m i hi]
  obtain ⟨n, hn⟩ := Int.eq_ofNat_of_zero_le hrb.1
  rw [hn, Int.toNat_natCast]
  refine toNat_bit_le j (fun h => ?_)
  rw [Nat.testBit_or, h]
  rfl

theorem sub_and_nat : ∀ c : Nat, c < 256 → ∀ y : Nat, y < 256 → c - (c &&& y) = c &&& (255 - y) := by decide +kernel
theorem or_not_nat : ∀ x : Nat, x < 256 → ∀ k : Nat, k < 256 → 255 - (k &&& (255 - x)) = x ||| (255 - k) := by decide +kernel
theorem part_byte (c x k : Int) (hc : 0 ≤ c ∧ c ≤ 255) (hx : 0 ≤ x ∧ x ≤ 255) (hk : 0 ≤ k ∧ k ≤ 255) :
    (c - bits BinOp.and .u8 (bits BinOp.and .u8 c k) ((255 - x) % 256)) % 256 = progByte c x k := by
  obtain ⟨c, rfl⟩ := Int.eq_ofNat_of_zero_le hc.1
  obtain ⟨x, rfl⟩ := Int.eq_ofNat_of_zero_le hx.1
  obtain ⟨k, rfl⟩ := Int.eq_ofNat_of_zero_le hk.1
  have e1 : ((255 - (x : Int)) % 256) = ((255 - x : Nat) : Int) := by omega
  have hck : c &&& k < 256 := Nat.and_lt_two_pow c (n := 8) (by omega)
  rw [e1, and8 c k (by omega) (by omega), and8 _ _ hck (by omega), Nat.and_assoc]
  have hy : k &&& (255 - x) < 256 := Nat.and_lt_two_pow k (n := 8) (by omega)
  have h1 := sub_and_nat c (by omega) (k &&& (255 - x)) hy
  rw [or_not_nat x (by omega) k (by omega)] at h1
  have h2 := Nat.and_le_left (n := c) (m := k &&& (255 - x))
  unfold progByte
  simp only [Int.toNat_natCast]
  rw [← h1]
  omega
theorem mask_mod (m : List Int) (i : Nat) (h : 0 < m.length) : Int.tmod (i : Int) (m.length : Int) = ((i % m.length : Nat) : Int) := by
  rw [Int.tmod_eq_emod_of_nonneg (by omega)]
  rfl
theorem row_take (l : List Int) (i : Nat) (h : i < l.length) : l.take (i + 1) = l.take i ++ [l.getD i 0] := by
  rw [List.take_add_one, List.getElem?_eq_getElem h, List.getD_eq_getElem?_getD, List.getElem?_eq_getElem h]
  rfl
theorem part_loop (o b m : List Int) (ho : isBytes o) (hb : isBytes b) (hm : isBytes m) (hl : o.length ≤ b.length) (hn : o.length ≤ 100000) (d : Nat) : ∀ i : Nat, i + d = o.length →
    Ev (fun k => wagtailref14_Part.l0 k o b m ((progRow o b m).take i) (i : Int)) (progRow o b m) := by
  induction d with
  | zero =>
    intro i hi
    refine Ev.step (f := fun _ => some (progRow o b m)) (fun k => ?_) (Ev.now _)
    simp only [wagtailref14_Part.l0]
    rw [if_neg (by omega), List.take_of_length_le (by rw [progRow_len]; omega)]
  | succ d ih =>
    intro i hi
    have e : (progRow o b m).getD i 0 = progByte (o.getD i 0) (b.getD i 0) (maskAt m i) := by rw [progRow_at o b m i (by omega), if_pos (by omega)]
    have hp := part_byte (o.getD i 0) (b.getD i 0) (maskAt m i) (getD_range o ho i) (getD_range b hb i) (maskAt_range m hm i)
    rw [← e] at hp
    refine Ev.step (fun k => ?_) (ih (i + 1) (by omega))
    have hw : wrap64 ((i : Int) + 1) = ((i + 1 : Nat) : Int) := by rw [w64 (by omega)]; omega
    have hlen : ((progRow o b m).take i).length < 140737488355328 := by rw [List.length_take, progRow_len]; omega
    rw [row_take (progRow o b m) i (by rw [progRow_len]; omega), ← hp]
    simp only [wagtailref14_Part.l0]
    rw [if_pos (by omega), hw]
    by_cases hz : m.length = 0
    · rw [if_neg (by omega), if_pos (by omega), if_pos (by omega), if_pos hlen]
      have : maskAt m i = 0 := by unfold maskAt; rw [if_pos hz]
      rw [this]
      rfl
    · have h0 : i % m.length < m.length := Nat.mod_lt _ (by omega)
      rw [if_pos (by omega), if_neg (by omega), mask_mod m i (by omega), if_pos (by omega), if_pos (by omega), if_pos (by omega), if_pos (by omega), if_pos hlen]
      have : maskAt m i = m.getD (i % m.length) 0 := by unfold maskAt; rw [if_neg hz]
      rw [this]
      rfl
theorem part_ev (o b m : List Int) (ho : isBytes o) (hb : isBytes b) (hm : isBytes m) (hl : o.length ≤ b.length) (hn : o.length ≤ 100000) : Ev (fun k => wagtailref14_Part.f k o b m) (progRow o b m) :=
  part_loop o b m ho hb hm hl hn o.length 0 (by omega)
theorem rwipe_loop (o m : List Int) (ho : isBytes o) (hm : isBytes m) (hn : o.length ≤ 100000) (d : Nat) : ∀ i : Nat, i + d = o.length →
    Ev (fun k => wagtailref14_Wipe.l0 k o m ((wipeRow o m).take i) (i : Int)) (wipeRow o m) := by
  induction d with
  | zero =>
    intro i hi
    refine Ev.step (f := fun _ => some (wipeRow o m)) (fun k => ?_) (Ev.now _)
    simp only [wagtailref14_Wipe.l0]
    rw [if_neg (by omega), List.take_of_length_le (by rw [wipeRow_len]; omega)]
  | succ d ih =>
    intro i hi
    have e : (wipeRow o m).getD i 0 = _ := wipeRow_at o m i (by omega)
    have hp := wipe_bits (o.getD i 0) (maskAt m i) (getD_range o ho i) (maskAt_range m hm i)
    rw [← e] at hp
    refine Ev.step (fun k => ?_) (ih (i + 1) (by omega))
    have hw : wrap64 ((i : Int) + 1) = ((i + 1 : Nat) : Int) := by rw [w64 (by omega)]; omega
    have hlen : ((wipeRow o m).take i).length < 140737488355328 := by rw [List.length_take, wipeRow_len]; omega
    rw [row_take (wipeRow o m) i (by rw [wipeRow_len]; omega), ← hp]
    simp only [wagtailref14_Wipe.l0]
    rw [if_pos (by omega), hw]
    by_cases hz : m.length = 0
    · rw [if_neg (by omega), if_pos (by omega), if_pos hlen]
      have : maskAt m i = 0 := by unfold maskAt; rw [if_pos hz]
      rw [this]
      rfl
    · have h0 : i % m.length < m.length := Nat.mod_lt _ (by omega)
      rw [if_pos (by omega), if_neg (by omega), mask_mod m i (by omega), if_pos (by omega), if_pos (by omega), if_pos (by omega), if_pos hlen]
      have : maskAt m i = m.getD (i % m.length) 0 := by unfold maskAt; rw [if_neg hz]
      rw [this]
      rfl
theorem rwipe_ev (o m : List Int) (ho : isBytes o) (hm : isBytes m) (hn : o.length ≤ 100000) : Ev (fun k => wagtailref14_Wipe.f k o m) (wipeRow o m) :=
  rwipe_loop o m ho hm hn o.length 0 (by omega)
theorem cov_trans_nat (a b c : Nat) (ha : a < 256) (hb : b < 256) (h1 : b &&& (255 - a) = 0) (h2 : c &&& (255 - b) = 0) (hc : c < 256) : c &&& (255 - a) = 0 := by
  have e : ∀ x : Nat, x < 256 → ∀ y : Nat, y < 256 → ((x &&& (255 - y) = 0) ↔ (x &&& y = x)) := by decide +kernel
  have h3 := (e b hb a ha).1 h1
  have h4 := (e c hc b hb).1 h2
  refine (e c hc a ha).2 ?_
  rw [← h4, Nat.and_assoc, h3]
theorem coverL_trans (a b c : List Int) (ha : isBytes a) (hb : isBytes b) (hc : isBytes c) (h1 : coverL a b) (h2 : coverL b c) : coverL a c := by
  refine ⟨h1.1.trans h2.1, fun i hi => ?_⟩
  have ra := getD_range a ha i
  have rb := getD_range b hb i
  have rc := getD_range c hc i
  exact cov_trans_nat _ _ _ (by omega) (by omega) (h1.2 i (by rw [h2.1]; exact hi)) (h2.2 i hi) (by omega)
theorem cov_le (a x : Int) (ha : 0 ≤ a ∧ a ≤ 255) (hx : 0 ≤ x ∧ x ≤ 255) (h : cov a x) : x ≤ a := by
  have e : ∀ x : Nat, x < 256 → ∀ y : Nat, y < 256 → x &&& (255 - y) = 0 → x ≤ y := by decide +kernel
  have := e x.toNat (by omega) a.toNat (by omega) h
  omega
theorem cover_parts (a1 c1 a2 c2 : List Int) (hl : a1.length = a2.length) (h : coverL (a1 ++ c1) (a2 ++ c2)) : coverL a1 a2 ∧ coverL c1 c2 := by
  have h1 := h.1
  simp only [List.length_append] at h1
  refine ⟨⟨hl, fun i hi => ?_⟩, ⟨by omega, fun i hi => ?_⟩⟩
  · have := h.2 i (by rw [List.length_append]; omega)
    rwa [List.getD_eq_getElem?_getD, List.getD_eq_getElem?_getD, List.getElem?_append_left (by omega), List.getElem?_append_left hi, ← List.getD_eq_getElem?_getD, ← List.getD_eq_getElem?_getD] at this
  · have := h.2 (a2.length + i) (by rw [List.length_append]; omega)
    rwa [List.getD_eq_getElem?_getD, List.getD_eq_getElem?_getD, List.getElem?_append_right (by omega), List.getElem?_append_right (by omega), hl, show a2.length + i - a2.length = i by omega, ← List.getD_eq_getElem?_getD, ← List.getD_eq_getElem?_getD] at this
theorem be4 (z : Int) : beBytes 4 z = [z / 256 ^ 3 % 256, z / 256 ^ 2 % 256, z / 256 ^ 1 % 256, z / 256 ^ 0 % 256] := by
  rw [beBytes_succ, beBytes_succ, beBytes_succ, beBytes_succ]
  simp [beBytes]
theorem cover_num (y z : Int) (hy : 0 ≤ y ∧ y < 4294967296) (hz : 0 ≤ z ∧ z < 4294967296) (h : coverL (beBytes 4 y) (beBytes 4 z)) : z ≤ y := by
  rw [be4, be4] at h
  have h0 := cov_le _ _ (by simp; omega) (by simp; omega) (h.2 0 (by simp))
  have h1 := cov_le _ _ (by simp; omega) (by simp; omega) (h.2 1 (by simp))
  have h2 := cov_le _ _ (by simp; omega) (by simp; omega) (h.2 2 (by simp))
  have h3 := cov_le _ _ (by simp; omega) (by simp; omega) (h.2 3 (by simp))
  simp only [List.getD_cons_zero, List.getD_cons_succ, show (256 : Int) ^ 3 = 16777216 from rfl, show (256 : Int) ^ 2 = 65536 from rfl, show (256 : Int) ^ 1 = 256 from rfl, show (256 : Int) ^ 0 = 1 from rfl, Int.ediv_one] at h0 h1 h2 h3
  have e2 : ∀ z : Int, z / 65536 = z / 256 / 256 := fun z => by omega
  have e3 : ∀ z : Int, z / 16777216 = z / 256 / 256 / 256 := fun z => by omega
  rw [e3, e3] at h0
  rw [e2, e2] at h1
  generalize hy1 : y / 256 = y1 at *
  generalize hz1 : z / 256 = z1 at *
  generalize hy2 : y1 / 256 = y2 at *
  generalize hz2 : z1 / 256 = z2 at *
  generalize hy3 : y2 / 256 = y3 at *
  generalize hz3 : z2 / 256 = z3 at *
  omega
/-- what covers a page and is right is that page -/
theorem torn (k i c b o l n : Int) (d x : List Int) (hd : isBytes d) (hdl : d.length ≤ 228) (hx : isBytes x) (hc : coverL x (pageL k i c b o l n d)) (h1 : cls x = 1) : x = pageL k i c b o l n d := by
  have hlen : x.length = 256 := by rw [hc.1, page_len _ _ _ _ _ _ _ _ hdl]
  have hr : mayL x = true ∧ anew x = x := by
    unfold cls at h1
    rw [if_pos hlen] at h1
    by_cases hz : x = List.replicate 256 255
    · rw [if_pos hz] at h1; exact absurd h1 (by decide)
    · rw [if_neg hz] at h1
      by_cases hr : rightL x = true
      · unfold rightL at hr
        simp only [Bool.and_eq_true, decide_eq_true_eq] at hr
        exact hr
      · rw [if_neg hr] at h1; exact absurd h1 (by decide)
  have hdx := datL_len x hlen hr.1
  have hmx := may_n x hr.1
  obtain ⟨B', hB'⟩ : ∃ B, B = pageBody (rd x 0) (rd x 1) (rd x 2) (beNum x 4 8) (beNum x 12 8) (beNum x 20 2) (beNum x 22 2) (datL x) := ⟨_, rfl⟩
  obtain ⟨B, hB⟩ : ∃ B, B = pageBody k i c b o l n d := ⟨_, rfl⟩
  have l1 : B'.length = 252 := by rw [hB', body_len _ _ _ _ _ _ _ _ (by omega)]
  have l2 : B.length = 252 := by rw [hB, body_len _ _ _ _ _ _ _ _ hdl]
  have b1 : isBytes B' := by rw [hB']; exact body_bytes _ _ _ _ _ _ _ _ (datL_bytes x hx)
  have b2 : isBytes B := by rw [hB]; exact body_bytes _ _ _ _ _ _ _ _ hd
  have ex : x = B' ++ beBytes 4 (zsum B') := by
    conv => lhs; rw [← hr.2]
    rw [hB']
    rfl
  have es : pageL k i c b o l n d = B ++ beBytes 4 (zsum B) := by rw [hB]; rfl
  rw [es] at hc ⊢
  rw [ex] at hc ⊢
  have hp := cover_parts _ _ _ _ (by omega) hc
  have z1 := zsum_range B'
  have z2 := zsum_range B
  have h2 := cover_num _ _ (by omega) (by omega) hp.2
  have h3 := cover_sum B' B b1 b2 hp.1
  rw [h3.2 (by omega)]
end Go.Proofs.Ytmlkkdopogcggaa.PG
