/- What the reference's bits come to, in plain numbers: lemmas for the laws of layer 02. -/
import Derived.Test.YtmlkkdopogcggaaHpQZerosCount
import Derived.Test.YtmlkkdopogcggaaHpQZerosProgram
import Derived.OpenShut
namespace Go.Proofs.Ytmlkkdopogcggaa.Pure
set_option linter.unusedVariables false
open Go.RowKit Go.Proofs.Ytmlkkdopogcggaa.Hp Go.Proofs.YtmlkkdopogcggaaW.PrintWords Go.Proofs.YtmlkkdopogcggaaW.PrintLast

theorem w64 {x : Int} (h : -9223372036854775808 ≤ x ∧ x ≤ 9223372036854775807) : wrap64 x = x := by unfold wrap64; omega
/-- bit number i of bytes -/
def bitOf (b : List Int) (i : Nat) : Int := b.getD (i / 8) 0 / 2 ^ (i % 8) % 2
theorem getD_range (m : List Int) (hm : isBytes m) (i : Nat) : 0 ≤ m.getD i 0 ∧ m.getD i 0 ≤ 255 := rd_range m hm i
theorem bitOf_range (b : List Int) (i : Nat) : bitOf b i = 0 ∨ bitOf b i = 1 := by unfold bitOf; omega
theorem halve (x : Int) (h0 : 0 ≤ x) (h1 : x ≤ 255) : wrap64 (Int.tdiv x 2) = x / 2 := by
  rw [Int.tdiv_eq_ediv_of_nonneg h0]
  exact w64 (by omega)
theorem bit_loop (n : Nat) (hn : n < 1000000000) (d : Nat) : ∀ (x : Int) (j : Nat), 0 ≤ x → x ≤ 255 → j + d = n % 8 →
    Ev (fun k => wagtailref02_Bit.l0 k (n : Int) x (j : Int)) (x / 2 ^ d % 2) := by
  have hm : Int.tmod (n : Int) 8 = ((n % 8 : Nat) : Int) := by rw [Int.tmod_eq_emod_of_nonneg (by omega)]; rfl
  induction d with
  | zero =>
    intro x j h0 h1 hj
    refine Ev.step (f := fun _ => some (x % 2)) (fun k => ?_) (by rw [show x / 2 ^ 0 % 2 = x % 2 by simp]; exact Ev.now _)
    simp only [wagtailref02_Bit.l0]
    rw [hm, if_neg (by omega), Int.tmod_eq_emod_of_nonneg h0]
  | succ d ih =>
    intro x j h0 h1 hj
    refine Ev.step (fun k => ?_) (by have := ih (x / 2) (j + 1) (by omega) (by omega) (by omega); rwa [show x / 2 / 2 ^ d % 2 = x / 2 ^ (d + 1) % 2 by rw [Int.ediv_ediv_of_nonneg (by omega), Int.pow_succ, Int.mul_comm]] at this)
    simp only [wagtailref02_Bit.l0]
    rw [hm, if_pos (by omega), halve x h0 h1, w64 (by omega)]
    rfl
theorem bit_ev (b : List Int) (hb : isBytes b) (n : Nat) (hn : n < 1000000000) (h : n < 8 * b.length) : Ev (fun k => wagtailref02_Bit.f k b (n : Int)) (bitOf b n) := by
  have e : wrap64 (Int.tdiv (n : Int) 8) = ((n / 8 : Nat) : Int) := by
    rw [Int.tdiv_eq_ediv_of_nonneg (by omega)]
    exact w64 (by omega)
  have hr := getD_range b hb (n / 8)
  refine Ev.congr (fun k => ?_) (by have := bit_loop n hn (n % 8) (b.getD (n / 8) 0) 0 hr.1 hr.2 (by omega); exact this)
  unfold wagtailref02_Bit.f
  rw [e, if_pos (by omega), if_pos (by omega)]
  show wagtailref02_Bit.l0 k n (wrap64 (b.getD ((n / 8 : Nat) : Int).toNat 0)) 0 = _
  rw [Int.toNat_natCast, w64 (by omega)]
  rfl
/-- zero bits among the first n -/
def cntz (b : List Int) : Nat → Int
  | 0 => 0
  | n + 1 => cntz b n + (1 - bitOf b n)
theorem cntz_range (b : List Int) : ∀ n, 0 ≤ cntz b n ∧ cntz b n ≤ n
  | 0 => by simp [cntz]
  | n + 1 => by
    have := cntz_range b n
    have := bitOf_range b n
    simp only [cntz]
    omega
theorem count_loop (b : List Int) (hb : isBytes b) (hl : b.length ≤ 100000) (d : Nat) : ∀ (i : Nat), i + d = 8 * b.length →
    Ev (fun k => wagtailref02_Count.l0 k b (cntz b i) (i : Int)) (cntz b (8 * b.length)) := by
  have hw : wrap64 (8 * (b.length : Int)) = ((8 * b.length : Nat) : Int) := by rw [w64 (by omega)]; omega
  induction d with
  | zero =>
    intro i hi
    obtain rfl : i = 8 * b.length := by omega
    refine Ev.step (fun k => ?_) (Ev.now _)
    simp only [wagtailref02_Count.l0]
    rw [hw, if_neg (by omega)]
  | succ d ih =>
    intro i hi
    have hc := cntz_range b i
    refine Ev.step (fun k => ?_) (Ev.bind (bit_ev b hb i (by omega) (by omega)) (f := fun k t => if t = 0 then wagtailref02_Count.l0 k b (wrap64 (cntz b i + 1)) (wrap64 ((i : Int) + 1)) else wagtailref02_Count.l0 k b (cntz b i) (wrap64 ((i : Int) + 1))) ?_)
    · simp only [wagtailref02_Count.l0]
      rw [hw, if_pos (by omega)]
    · have h1 := ih (i + 1) (by omega)
      simp only [cntz] at h1
      rw [w64 (x := (i : Int) + 1) (by omega), w64 (by omega)]
      rcases bitOf_range b i with h0 | h0
      · rw [h0] at h1 ⊢
        refine Ev.congr (fun k => ?_) h1
        rw [if_pos rfl]
        rfl
      · rw [h0] at h1 ⊢
        refine Ev.congr (fun k => ?_) h1
        rw [if_neg (by omega)]
        congr 1
        omega
theorem count_ev (b : List Int) (hb : isBytes b) (hl : b.length ≤ 100000) : Ev (fun k => wagtailref02_Count.f k b) (cntz b (8 * b.length)) :=
  Ev.congr (fun k => rfl) (count_loop b hb hl (8 * b.length) 0 (by omega))
theorem cntz_step (b : List Int) (j : Nat) : cntz b (8 * (j + 1)) = cntz b (8 * j) + zbits (b.getD j 0) := by
  have e : ∀ k, k < 8 → bitOf b (8 * j + k) = b.getD j 0 / 2 ^ k % 2 := by
    intro k hk
    unfold bitOf
    rw [show (8 * j + k) / 8 = j by omega, show (8 * j + k) % 8 = k by omega]
  rw [show 8 * (j + 1) = 8 * j + 7 + 1 by omega]
  show cntz b (8 * j) + (1 - bitOf b (8 * j)) + (1 - bitOf b (8 * j + 1)) + (1 - bitOf b (8 * j + 2)) + (1 - bitOf b (8 * j + 3)) + (1 - bitOf b (8 * j + 4)) + (1 - bitOf b (8 * j + 5)) + (1 - bitOf b (8 * j + 6)) + (1 - bitOf b (8 * j + 7)) = _
  rw [show bitOf b (8 * j) = _ from e 0 (by omega), e 1 (by omega), e 2 (by omega), e 3 (by omega), e 4 (by omega), e 5 (by omega), e 6 (by omega), e 7 (by omega)]
  rw [show (2 : Int) ^ 0 = 1 from rfl, show (2 : Int) ^ 1 = 2 from rfl, show (2 : Int) ^ 2 = 4 from rfl, show (2 : Int) ^ 3 = 8 from rfl, show (2 : Int) ^ 4 = 16 from rfl, show (2 : Int) ^ 5 = 32 from rfl, show (2 : Int) ^ 6 = 64 from rfl, show (2 : Int) ^ 7 = 128 from rfl, Int.ediv_one]
  unfold zbits
  omega
theorem zsum_take (b : List Int) (j : Nat) (h : j < b.length) : zsum (b.take (j + 1)) = zsum (b.take j) + zbits (b.getD j 0) := by
  unfold zsum
  rw [List.take_succ_eq_append_getElem h, List.map_append, List.sum_append]
  simp [List.getD_eq_getElem?_getD, List.getElem?_eq_getElem h]
theorem cntz_zsum (b : List Int) : ∀ j, j ≤ b.length → cntz b (8 * j) = zsum (b.take j)
  | 0, _ => by simp [cntz, zsum]
  | j + 1, h => by rw [cntz_step, zsum_take b j (by omega), cntz_zsum b j (by omega)]
theorem cntz_all (b : List Int) : cntz b (8 * b.length) = zsum b := by rw [cntz_zsum b b.length (Nat.le_refl _), List.take_length]
theorem zbits_range (c : Int) : 0 ≤ zbits c ∧ zbits c ≤ 8 := by unfold zbits; omega
theorem zsum_range (b : List Int) : 0 ≤ zsum b ∧ zsum b ≤ 8 * b.length := by
  have h1 := cntz_range b (8 * b.length)
  rw [cntz_all] at h1
  omega
theorem refcount_ev (b : List Int) (hb : isBytes b) (hl : b.length ≤ 100000) : Ev (fun k => wagtailref02_Count.f k b) (zsum b) := by
  have := count_ev b hb hl
  rwa [cntz_all] at this
theorem pcount_loop (b : List Int) (hb : isBytes b) (hl : b.length ≤ 100000) (d : Nat) : ∀ (i : Nat), i + d = b.length →
    Ev (fun k => zeros_Count.l0 k (zsum (b.take i)) b (b.length : Int) (i : Int)) (zsum b) := by
  induction d with
  | zero =>
    intro i hi
    obtain rfl : i = b.length := by omega
    refine Ev.step (f := fun _ => some (zsum b)) (fun k => ?_) (Ev.now _)
    simp only [zeros_Count.l0]
    rw [if_neg (by omega), List.take_length]
  | succ d ih =>
    intro i hi
    have hr := getD_range b hb i
    have hz := zbits_range (b.getD i 0)
    have hs := zsum_range (b.take i)
    rw [List.length_take] at hs
    refine Ev.step (fun k => ?_) (ih (i + 1) (by omega))
    simp only [zeros_Count.l0]
    rw [if_pos (by omega), if_pos (by omega), if_pos (by omega)]
    have e : zeros_count.f (rd b (i : Int)) = some (zbits (b.getD i 0)) := by
      unfold zeros_count.f
      show (if 0 ≤ b.getD (i : Int).toNat 0 ∧ b.getD (i : Int).toNat 0 ≤ 255 then some (zbits (b.getD (i : Int).toNat 0)) else none) = _
      rw [Int.toNat_natCast, if_pos hr]
    rw [e]
    simp only [Option.bind_some]
    rw [w64 (by omega), w64 (by omega), zsum_take b i (by omega)]
    rfl
theorem pcount_ev (b : List Int) (hb : isBytes b) (hl : b.length ≤ 100000) : Ev (fun k => zeros_Count.f k b) (zsum b) := by
  have h := pcount_loop b hb hl b.length 0 (by omega)
  exact Ev.congr (fun k => by simp [zeros_Count.f, zsum]) h

/-! ### masks, powers, the reference's programming -/
theorem masked_ev (m : List Int) (hm : isBytes m) (hl : m.length ≤ 100000) (i j : Nat) (hi : i < 1000000) (hj : j < 8) : Ev (fun k => wagtailref02_masked.f k m ((8 * i + j : Nat) : Int)) (maskAt m i / 2 ^ j % 2 == 1) := by
  by_cases h0 : m.length = 0
  · refine Ev.congr (fun k => ?_) (Ev.now _)
    unfold wagtailref02_masked.f maskAt
    rw [if_neg (by omega), if_pos h0]
    simp
  · have hw : wrap64 (8 * (m.length : Int)) = ((8 * m.length : Nat) : Int) := by rw [w64 (by omega)]; omega
    have e : Int.tmod ((8 * i + j : Nat) : Int) ((8 * m.length : Nat) : Int) = ((8 * (i % m.length) + j : Nat) : Int) := by
      rw [Int.tmod_eq_emod_of_nonneg (by omega)]
      have h1 : (8 * i + j) % (8 * m.length) = 8 * (i % m.length) + j := by
        have hlt := Nat.mod_lt i (show m.length > 0 by omega)
        have h2 := Nat.div_add_mod i m.length
        rw [show 8 * i + j = (8 * (i % m.length) + j) + (8 * m.length) * (i / m.length) by
          rw [Nat.mul_assoc]; omega]
        rw [Nat.add_mul_mod_self_left, Nat.mod_eq_of_lt (by omega)]
      rw [← h1]
      rfl
    have hlt := Nat.mod_lt i (show m.length > 0 by omega)
    have hB := bit_ev m hm (8 * (i % m.length) + j) (by omega) (by omega)
    refine Ev.congr (fun k => ?_) (Ev.bind hB (f := fun _ t => some (t == 1)) (by
      have : bitOf m (8 * (i % m.length) + j) = maskAt m i / 2 ^ j % 2 := by
        unfold bitOf maskAt
        rw [show (8 * (i % m.length) + j) / 8 = i % m.length by omega, show (8 * (i % m.length) + j) % 8 = j by omega, if_neg h0]
      rw [this]
      exact Ev.now _))
    unfold wagtailref02_masked.f
    rw [if_pos (by omega), hw, if_neg (by omega), e]
theorem powers_loop (n : Nat) (hn : n < 1000000000) (d : Nat) : ∀ (j : Nat), j + d = n % 8 → Ev (fun k => wagtailref02_powers.l0 k (n : Int) (2 ^ j) (j : Int)) (2 ^ (n % 8)) := by
  have hm : Int.tmod (n : Int) 8 = ((n % 8 : Nat) : Int) := by rw [Int.tmod_eq_emod_of_nonneg (by omega)]; rfl
  induction d with
  | zero =>
    intro j hj
    obtain rfl : j = n % 8 := by omega
    refine Ev.step (fun k => ?_) (Ev.now _)
    simp only [wagtailref02_powers.l0]
    rw [hm, if_neg (by omega)]
  | succ d ih =>
    intro j hj
    have hp : ∀ j, j < 8 → (0 : Int) ≤ 2 ^ j ∧ (2 : Int) ^ j ≤ 128 := by decide
    have := hp j (by omega)
    refine Ev.step (fun k => ?_) (ih (j + 1) (by omega))
    simp only [wagtailref02_powers.l0]
    rw [hm, if_pos (by omega), w64 (by omega), w64 (by omega), Int.pow_succ, Int.mul_comm]
    rfl
theorem powers_ev (n : Nat) (hn : n < 1000000000) : Ev (fun k => wagtailref02_powers.f k (n : Int)) (2 ^ (n % 8)) :=
  Ev.congr (fun k => rfl) (powers_loop n hn (n % 8) 0 (by omega))
/-- a byte out of its bits -/
def sumBits (P : Nat → Bool) : Nat → Int
  | 0 => 0
  | j + 1 => sumBits P j + (if P j then 2 ^ j else 0)
theorem sumBits_range (P : Nat → Bool) : ∀ j : Nat, 0 ≤ sumBits P j ∧ sumBits P j < 2 ^ j
  | 0 => by simp [sumBits]
  | j + 1 => by
    have h := sumBits_range P j
    simp only [sumBits, Int.pow_succ]
    split <;> omega
theorem sumBits_nat (n : Nat) : ∀ j : Nat, sumBits (fun j => n.testBit j) j = ((n % 2 ^ j : Nat) : Int)
  | 0 => by simp [sumBits, Nat.mod_one]
  | j + 1 => by
    have h := sumBits_nat n j
    simp only [sumBits]
    rw [h]
    have e : n % 2 ^ (j + 1) = n % 2 ^ j + 2 ^ j * (n / 2 ^ j % 2) := by rw [Nat.pow_succ, Nat.mod_mul]
    rw [e]
    have h2 := Nat.toNat_testBit n j
    by_cases ht : n.testBit j = true
    · rw [ht] at h2
      simp only [Bool.toNat_true] at h2
      rw [← h2, if_pos ht]
      simp
    · rw [Bool.not_eq_true] at ht
      rw [ht] at h2
      simp only [Bool.toNat_false] at h2
      rw [← h2]
      simp [ht]
theorem sumBits_byte (n : Nat) (h : n < 256) (P : Nat → Bool) (hP : ∀ j, j < 8 → P j = n.testBit j) : sumBits P 8 = (n : Int) := by
  have : ∀ j, j ≤ 8 → sumBits P j = sumBits (fun j => n.testBit j) j := by
    intro j
    induction j with
    | zero => intro _; rfl
    | succ j ih => intro hj; simp only [sumBits]; rw [ih (by omega), hP j (by omega)]
  rw [this 8 (Nat.le_refl _), sumBits_nat, Nat.mod_eq_of_lt h]
theorem bit_test (x : Int) (h0 : 0 ≤ x) (j : Nat) : (x / 2 ^ j % 2 = 1) = (x.toNat.testBit j = true) ∧ (x / 2 ^ j % 2 = 0) = (x.toNat.testBit j = false) := by
  obtain ⟨n, rfl⟩ := Int.eq_ofNat_of_zero_le h0
  have h := Nat.toNat_testBit n j
  have e : (n : Int) / 2 ^ j % 2 = ((n / 2 ^ j % 2 : Nat) : Int) := by
    rw [Int.natCast_emod, Int.natCast_ediv, Int.natCast_pow]; rfl
  rw [e, ← h, Int.toNat_natCast]
  cases n.testBit j <;> simp
theorem not_test : ∀ m : Nat, m < 256 → ∀ j, j < 8 → (255 - m).testBit j = !m.testBit j := by decide +kernel
theorem prog_byte (c x m : Int) (hc : 0 ≤ c ∧ c ≤ 255) (hx : 0 ≤ x ∧ x ≤ 255) (hm : 0 ≤ m ∧ m ≤ 255) (P : Nat → Bool)
    (hP : ∀ j, j < 8 → P j = (decide (c / 2 ^ j % 2 = 1) && !((m / 2 ^ j % 2 == 1) && (x / 2 ^ j % 2 == 0)))) : sumBits P 8 = progByte c x m := by
  unfold progByte
  refine sumBits_byte _ (Nat.and_lt_two_pow _ (n := 8) (Nat.or_lt_two_pow (n := 8) (by omega) (by omega))) P (fun j hj => ?_)
  rw [hP j hj, Nat.testBit_and, Nat.testBit_or, not_test _ (by omega) j hj]
  have b1 := bit_test c hc.1 j
  have b2 := bit_test m hm.1 j
  have b3 := bit_test x hx.1 j
  have e2 : (m / 2 ^ j % 2 == 1) = m.toNat.testBit j := by
    rw [Bool.eq_iff_iff, beq_iff_eq, b2.1]
  have e3 : (x / 2 ^ j % 2 == 0) = !x.toNat.testBit j := by
    rw [Bool.eq_iff_iff, beq_iff_eq, b3.2]; simp
  have e1 : decide (c / 2 ^ j % 2 = 1) = c.toNat.testBit j := by
    rw [Bool.eq_iff_iff, decide_eq_true_eq, b1.1]
  rw [e1, e2, e3]
  cases c.toNat.testBit j <;> cases m.toNat.testBit j <;> cases x.toNat.testBit j <;> rfl
/-- which bits the reference's byte i has -/
def progP (l0 l1 l2 : List Int) (i j : Nat) : Bool := decide (bitOf l0 (8 * i + j) = 1) && !(decide (i < l1.length) && ((maskAt l2 i / 2 ^ j % 2 == 1) && (bitOf l1 (8 * i + j) == 0)))
theorem bitOf_at (b : List Int) (i j : Nat) (hj : j < 8) : bitOf b (8 * i + j) = b.getD i 0 / 2 ^ j % 2 := by
  unfold bitOf
  rw [show (8 * i + j) / 8 = i by omega, show (8 * i + j) % 8 = j by omega]
theorem progRow_take (l0 l1 l2 : List Int) (i : Nat) (h : i < l0.length) : (progRow l0 l1 l2).take (i + 1) = (progRow l0 l1 l2).take i ++ [if i < l1.length then progByte (l0.getD i 0) (l1.getD i 0) (maskAt l2 i) else l0.getD i 0] := by
  have hl : (progRow l0 l1 l2).length = l0.length := by simp [progRow]
  rw [List.take_succ_eq_append_getElem (by rw [hl]; exact h)]
  simp [progRow]
theorem progP_sum (l0 l1 l2 : List Int) (h0 : isBytes l0) (h1 : isBytes l1) (h2 : isBytes l2) (i : Nat) : sumBits (progP l0 l1 l2 i) 8 = if i < l1.length then progByte (l0.getD i 0) (l1.getD i 0) (maskAt l2 i) else l0.getD i 0 := by
  by_cases hi : i < l1.length
  · rw [if_pos hi]
    refine prog_byte _ _ _ (getD_range l0 h0 i) (getD_range l1 h1 i) (maskAt_range l2 h2 i) _ (fun j hj => ?_)
    unfold progP
    rw [bitOf_at l0 i j hj, bitOf_at l1 i j hj, decide_eq_true hi, Bool.true_and]
  · rw [if_neg hi]
    have hr := getD_range l0 h0 i
    have := sumBits_byte (l0.getD i 0).toNat (by omega) (progP l0 l1 l2 i) (fun j hj => by
      unfold progP
      rw [bitOf_at l0 i j hj, decide_eq_false hi, Bool.false_and, Bool.not_false, Bool.and_true, Bool.eq_iff_iff, decide_eq_true_eq, (bit_test _ hr.1 j).1])
    rw [this]
    omega
theorem Ev.pos {α : Type} {f g : Nat → Option α} {r : α} {c : Prop} [Decidable c] (h : c) (k : Ev f r) : Ev (fun n => if c then f n else g n) r := Ev.congr (fun _ => if_pos h) k
theorem Ev.neg {α : Type} {f g : Nat → Option α} {r : α} {c : Prop} [Decidable c] (h : ¬ c) (k : Ev g r) : Ev (fun n => if c then f n else g n) r := Ev.congr (fun _ => if_neg h) k
theorem pow128 (j : Nat) (h : j < 8) : (0 : Int) ≤ 2 ^ j ∧ (2 : Int) ^ j ≤ 128 := by
  have : ∀ j, j < 8 → (0 : Int) ≤ 2 ^ j ∧ (2 : Int) ^ j ≤ 128 := by decide
  exact this j h
theorem sum_small (P : Nat → Bool) (j : Nat) (h : j < 8) : 0 ≤ sumBits P j ∧ sumBits P j ≤ 128 := by
  have h1 := sumBits_range P j
  have h2 := pow128 j h
  omega
theorem rprog_join (l0 l1 l2 : List Int) (h0 : isBytes l0) (hl0 : l0.length ≤ 1000) (i : Nat) (hi : i < l0.length) (out r : List Int) (j : Nat) (hj8 : j < 8)
    (hn : Ev (fun k => wagtailref02_Program.l1 k l0 l1 l2 out (i : Int) (sumBits (progP l0 l1 l2 i) (j + 1)) ((8 * i + (j + 1) : Nat) : Int)) r)
    (z : Bool) (hz : z = (decide (i < l1.length) && ((maskAt l2 i / 2 ^ j % 2 == 1) && (bitOf l1 (8 * i + j) == 0)))) :
    Ev (fun k => wagtailref02_Program.j2 k l0 l1 l2 out (i : Int) (sumBits (progP l0 l1 l2 i) j) ((8 * i + j : Nat) : Int) z) r := by
  have hadd : wrap64 (((8 * i + j : Nat) : Int) + 1) = ((8 * i + (j + 1) : Nat) : Int) := by rw [w64 (by omega)]; omega
  have hbit := bit_ev l0 h0 (8 * i + j) (by omega) (by omega)
  have hs := sum_small (progP l0 l1 l2 i) j hj8
  have hpj := pow128 j hj8
  have hstep : sumBits (progP l0 l1 l2 i) (j + 1) = sumBits (progP l0 l1 l2 i) j + (if progP l0 l1 l2 i j then 2 ^ j else 0) := rfl
  have hunf : ∀ k, wagtailref02_Program.j2 (k + 1) l0 l1 l2 out (i : Int) (sumBits (progP l0 l1 l2 i) j) ((8 * i + j : Nat) : Int) z = (wagtailref02_Bit.f k l0 ((8 * i + j : Nat) : Int)).bind fun t => if t = 1 then (if z = true then wagtailref02_Program.l1 k l0 l1 l2 out (i : Int) (sumBits (progP l0 l1 l2 i) j) ((8 * i + (j + 1) : Nat) : Int) else ((wagtailref02_powers.f k ((8 * i + j : Nat) : Int)).bind fun t249 => wagtailref02_Program.l1 k l0 l1 l2 out (i : Int) (wrap64 (sumBits (progP l0 l1 l2 i) j + t249)) ((8 * i + (j + 1) : Nat) : Int))) else wagtailref02_Program.l1 k l0 l1 l2 out (i : Int) (sumBits (progP l0 l1 l2 i) j) ((8 * i + (j + 1) : Nat) : Int) := by
    intro k
    rw [← hadd]
    simp only [wagtailref02_Program.j2]
  refine Ev.step hunf (Ev.bind hbit ?_)
  by_cases hb : bitOf l0 (8 * i + j) = 1
  · refine Ev.pos hb ?_
    cases z with
    | true =>
      have hP : progP l0 l1 l2 i j = false := by unfold progP; rw [← hz]; simp
      rw [hP, if_neg (by simp), Int.add_zero] at hstep
      rw [hstep] at hn
      exact Ev.pos rfl hn
    | false =>
      have hP : progP l0 l1 l2 i j = true := by unfold progP; rw [← hz, hb]; simp
      rw [hP, if_pos rfl] at hstep
      rw [hstep] at hn
      refine Ev.neg (by simp) (Ev.bind (powers_ev (8 * i + j) (by omega)) ?_)
      rw [show (8 * i + j) % 8 = j by omega, w64 (by omega)]
      exact hn
  · have hP : progP l0 l1 l2 i j = false := by unfold progP; rw [decide_eq_false hb]; rfl
    rw [hP, if_neg (by simp), Int.add_zero] at hstep
    rw [hstep] at hn
    exact Ev.neg hb hn
theorem rprog_round (l0 l1 l2 : List Int) (h1 : isBytes l1) (h2 : isBytes l2) (hl0 : l0.length ≤ 1000) (hl1 : l1.length ≤ 1000) (hl2 : l2.length ≤ 1000) (i : Nat) (hi : i < l0.length) (out r : List Int) (j : Nat) (hj8 : j < 8)
    (hjoin : ∀ z : Bool, z = (decide (i < l1.length) && ((maskAt l2 i / 2 ^ j % 2 == 1) && (bitOf l1 (8 * i + j) == 0))) →
        Ev (fun k => wagtailref02_Program.j2 k l0 l1 l2 out (i : Int) (sumBits (progP l0 l1 l2 i) j) ((8 * i + j : Nat) : Int) z) r) :
    Ev (fun k => wagtailref02_Program.l1 k l0 l1 l2 out (i : Int) (sumBits (progP l0 l1 l2 i) j) ((8 * i + j : Nat) : Int)) r := by
  have hw : wrap64 (wrap64 (8 * (i : Int)) + 8) = ((8 * i + 8 : Nat) : Int) := by rw [w64 (x := 8 * (i : Int)) (by omega), w64 (by omega)]; omega
  have hunf : ∀ k, wagtailref02_Program.l1 (k + 1) l0 l1 l2 out (i : Int) (sumBits (progP l0 l1 l2 i) j) ((8 * i + j : Nat) : Int) = if (i : Int) < (l1.length : Int) then ((wagtailref02_masked.f k l2 ((8 * i + j : Nat) : Int)).bind fun t246 => (if t246 = true then ((wagtailref02_Bit.f k l1 ((8 * i + j : Nat) : Int)).bind fun t247 => (wagtailref02_Program.j2 k l0 l1 l2 out (i : Int) (sumBits (progP l0 l1 l2 i) j) ((8 * i + j : Nat) : Int) (t247 == 0))) else (wagtailref02_Program.j2 k l0 l1 l2 out (i : Int) (sumBits (progP l0 l1 l2 i) j) ((8 * i + j : Nat) : Int) false))) else (wagtailref02_Program.j2 k l0 l1 l2 out (i : Int) (sumBits (progP l0 l1 l2 i) j) ((8 * i + j : Nat) : Int) false) := by
    intro k
    simp only [wagtailref02_Program.l1]
    rw [hw, if_pos (by omega)]
  refine Ev.step hunf ?_
  by_cases hi1 : i < l1.length
  · refine Ev.pos (by omega) (Ev.bind (masked_ev l2 h2 (by omega) i j (by omega) hj8) ?_)
    by_cases hmk : (maskAt l2 i / 2 ^ j % 2 == 1) = true
    · refine Ev.pos hmk (Ev.bind (bit_ev l1 h1 (8 * i + j) (by omega) (by omega)) ?_)
      exact hjoin _ (by rw [decide_eq_true hi1, hmk]; rfl)
    · exact Ev.neg hmk (hjoin false (by rw [Bool.not_eq_true] at hmk; rw [hmk]; simp))
  · exact Ev.neg (by omega) (hjoin false (by rw [decide_eq_false hi1]; rfl))
theorem rprog_inner (l0 l1 l2 : List Int) (h0 : isBytes l0) (h1 : isBytes l1) (h2 : isBytes l2) (hl0 : l0.length ≤ 1000) (hl1 : l1.length ≤ 1000) (hl2 : l2.length ≤ 1000) (i : Nat) (hi : i < l0.length) (out r : List Int) (ho : out.length ≤ 1000)
    (hnext : Ev (fun k => wagtailref02_Program.l0 k l0 l1 l2 (out ++ [sumBits (progP l0 l1 l2 i) 8 % 256]) ((i + 1 : Nat) : Int)) r) (d : Nat) :
    ∀ j : Nat, j + d = 8 → Ev (fun k => wagtailref02_Program.l1 k l0 l1 l2 out (i : Int) (sumBits (progP l0 l1 l2 i) j) ((8 * i + j : Nat) : Int)) r := by
  have hw : wrap64 (wrap64 (8 * (i : Int)) + 8) = ((8 * i + 8 : Nat) : Int) := by rw [w64 (x := 8 * (i : Int)) (by omega), w64 (by omega)]; omega
  have hi1 : wrap64 ((i : Int) + 1) = ((i + 1 : Nat) : Int) := by rw [w64 (by omega)]; omega
  induction d with
  | zero =>
    intro j hj
    obtain rfl : j = 8 := by omega
    refine Ev.step (fun k => ?_) hnext
    simp only [wagtailref02_Program.l1]
    rw [hw, if_neg (by omega), if_pos (by omega), hi1]
  | succ d ih =>
    intro j hj
    exact rprog_round l0 l1 l2 h1 h2 hl0 hl1 hl2 i hi out r j (by omega) (rprog_join l0 l1 l2 h0 hl0 i hi out r j (by omega) (ih (j + 1) (by omega)))
theorem rprog_ev (l0 l1 l2 : List Int) (h0 : isBytes l0) (h1 : isBytes l1) (h2 : isBytes l2) (hl0 : l0.length ≤ 1000) (hl1 : l1.length ≤ 1000) (hl2 : l2.length ≤ 1000) : Ev (fun k => wagtailref02_Program.f k l0 l1 l2) (progRow l0 l1 l2) := by
  have hl : (progRow l0 l1 l2).length = l0.length := by simp [progRow]
  have key : ∀ d i : Nat, i + d = l0.length → Ev (fun k => wagtailref02_Program.l0 k l0 l1 l2 ((progRow l0 l1 l2).take i) (i : Int)) (progRow l0 l1 l2) := by
    intro d
    induction d with
    | zero =>
      intro i hi
      obtain rfl : i = l0.length := by omega
      refine Ev.step (f := fun _ => some (progRow l0 l1 l2)) (fun k => ?_) (Ev.now _)
      simp only [wagtailref02_Program.l0]
      rw [if_neg (by omega), List.take_of_length_le (by omega)]
    | succ d ih =>
      intro i hi
      have hn := ih (i + 1) (by omega)
      have hs := sumBits_range (progP l0 l1 l2 i) 8
      have hin := rprog_inner l0 l1 l2 h0 h1 h2 hl0 hl1 hl2 i (by omega) ((progRow l0 l1 l2).take i) (progRow l0 l1 l2) (by rw [List.length_take]; omega) (by
        rw [Int.emod_eq_of_lt hs.1 (by have : (2 : Int) ^ 8 = 256 := rfl; omega), progP_sum l0 l1 l2 h0 h1 h2 i, ← progRow_take l0 l1 l2 i (by omega)]
        exact hn) 8 0 (by omega)
      refine Ev.step (fun k => ?_) hin
      simp only [wagtailref02_Program.l0]
      rw [if_pos (by omega), w64 (x := 8 * (i : Int)) (by omega)]
      rfl
  exact key l0.length 0 (by omega)

/-! ### few, Ones, awake -/
def fewB (ls : List (List Int)) : Bool := ls.all fun x => decide (x.length ≤ 60)
theorem few_ev (ls : List (List Int)) (hl : ls.length ≤ 100) : Ev (fun k => wagtaillaw02_few.f k ls) (fewB ls) := by
  have key : ∀ d i : Nat, i + d = ls.length → Ev (fun k => wagtaillaw02_few.l0 k ls (i : Int)) (fewB (ls.drop i)) := by
    intro d
    induction d with
    | zero =>
      intro i hi
      refine Ev.step (f := fun _ => some (fewB (ls.drop i))) (fun k => ?_) (Ev.now _)
      simp only [wagtaillaw02_few.l0]
      rw [if_neg (by omega), List.drop_eq_nil_of_le (by omega)]
      rfl
    | succ d ih =>
      intro i hi
      have hlt : i < ls.length := by omega
      have e : rd_L5 ls (i : Int) = ls[i] := by
        show ls.getD (i : Int).toNat [] = _
        rw [Int.toNat_natCast, List.getD_eq_getElem?_getD, List.getElem?_eq_getElem hlt]
        rfl
      have hw : wrap64 ((i : Int) + 1) = ((i + 1 : Nat) : Int) := by rw [w64 (by omega)]; omega
      rw [List.drop_eq_getElem_cons hlt]
      by_cases h60 : ls[i].length ≤ 60
      · have e2 : fewB (ls[i] :: ls.drop (i + 1)) = fewB (ls.drop (i + 1)) := by
          unfold fewB
          rw [List.all_cons, decide_eq_true h60, Bool.true_and]
        rw [e2]
        refine Ev.step (fun k => ?_) (ih (i + 1) (by omega))
        simp only [wagtaillaw02_few.l0]
        rw [if_pos (by omega), if_pos (by omega), e, if_neg (by omega), hw]
      · have e2 : fewB (ls[i] :: ls.drop (i + 1)) = false := by
          unfold fewB
          rw [List.all_cons, decide_eq_false h60, Bool.false_and]
        rw [e2]
        refine Ev.step (f := fun _ => some false) (fun k => ?_) (Ev.now _)
        simp only [wagtaillaw02_few.l0]
        rw [if_pos (by omega), if_pos (by omega), e, if_pos (by omega)]
  exact key ls.length 0 (by omega)
theorem ones_loop (n : Nat) (hn : n ≤ 2000000) : ∀ d i : Nat, i + d = n → Ev (fun k => wagtailref02_Ones.l0 k (n : Int) (List.replicate i 255) (i : Int)) (List.replicate n 255) := by
  intro d
  induction d with
  | zero =>
    intro i hi
    obtain rfl : i = n := by omega
    refine Ev.step (fun k => ?_) (Ev.now _)
    simp only [wagtailref02_Ones.l0]
    rw [if_neg (by omega)]
  | succ d ih =>
    intro i hi
    have hw : wrap64 ((i : Int) + 1) = ((i + 1 : Nat) : Int) := by rw [w64 (by omega)]; omega
    refine Ev.step (fun k => ?_) (ih (i + 1) (by omega))
    simp only [wagtailref02_Ones.l0]
    rw [if_pos (by omega), if_pos (by rw [List.length_replicate]; omega), hw, List.replicate_succ']
theorem ones_ev (n : Nat) (hn : n ≤ 2000000) : Ev (fun k => wagtailref02_Ones.f k (n : Int)) (List.replicate n 255) := ones_loop n hn n 0 (by omega)
theorem ones_neg (n : Int) (hn : n < 0) : Ev (fun k => wagtailref02_Ones.f k n) [] := by
  refine Ev.step (f := fun _ => some []) (fun k => ?_) (Ev.now _)
  unfold wagtailref02_Ones.f
  simp only [wagtailref02_Ones.l0]
  rw [if_neg (by omega)]
theorem pones_loop (n : Nat) (hn : n ≤ 2000000) : ∀ d i : Nat, i + d = n → Ev (fun k => zeros_Ones.l0 k (List.replicate i 255) (n : Int) (i : Int)) (List.replicate n 255) := by
  intro d
  induction d with
  | zero =>
    intro i hi
    obtain rfl : i = n := by omega
    refine Ev.step (fun k => ?_) (Ev.now _)
    simp only [zeros_Ones.l0]
    rw [if_neg (by omega)]
  | succ d ih =>
    intro i hi
    have hw : wrap64 ((i : Int) + 1) = ((i + 1 : Nat) : Int) := by rw [w64 (by omega)]; omega
    refine Ev.step (fun k => ?_) (ih (i + 1) (by omega))
    simp only [zeros_Ones.l0]
    rw [if_pos (by omega), if_pos (by rw [List.length_replicate]; omega), hw, List.replicate_succ']
theorem pones_ev (n : Int) : Ev (fun k => zeros_Ones.f k n) (List.replicate (mn n 1048576).toNat 255) := by
  by_cases h : 0 ≤ mn n 1048576
  · obtain ⟨m, hm⟩ := Int.eq_ofNat_of_zero_le h
    have hle : m ≤ 1048576 := by unfold mn at hm; split at hm <;> omega
    have := pones_loop m (by omega) m 0 (by omega)
    unfold zeros_Ones.f
    rw [hm, Int.toNat_natCast]
    exact this
  · refine Ev.step (f := fun _ => some []) (fun k => ?_) (by rw [show (mn n 1048576).toNat = 0 by omega]; exact Ev.now _)
    unfold zeros_Ones.f
    simp only [zeros_Ones.l0]
    rw [if_neg (by omega)]
theorem zeros_awake : wagtaillaw02_awake.f 60 = some true := by decide +kernel
theorem zeros_awake_ev : Ev (fun k => wagtaillaw02_awake.f k) true := Ev.of wagtaillaw02_awake.mono zeros_awake
theorem bytes_of_wf {l : List Int} (h : ∀ x ∈ l, (Lit.int .u8 x).wf = true) : isBytes l := fun x hx => bounds_u8 (h x hx)
end Go.Proofs.Ytmlkkdopogcggaa.Pure
