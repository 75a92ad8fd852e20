/- What covers what: lemmas for the law ZerosOneWay. -/
import Derived.Test.YtmlkkdopogcggaaHpQZerosOneWay
import Derived.Test.YtmlkkdopogcggaaPZ
import Derived.Laws.BitsAllLaws
namespace Go.Proofs.Ytmlkkdopogcggaa.Pure
set_option linter.unusedVariables false
open Go.RowKit Go.Proofs.Ytmlkkdopogcggaa.Hp Go.Proofs.YtmlkkdopogcggaaW.PrintWords Go.Proofs.YtmlkkdopogcggaaW.PrintLast

/-- byte x has no bit that a lacks -/
def cov (a x : Int) : Prop := x.toNat &&& (255 - a.toNat) = 0
instance (a x : Int) : Decidable (cov a x) := by unfold cov; exact inferInstance
theorem cov_bits (a x : Int) (ha : 0 ≤ a ∧ a ≤ 255) (hx : 0 ≤ x ∧ x ≤ 255) : cov a x ↔ ∀ j, j < 8 → x / 2 ^ j % 2 ≤ a / 2 ^ j % 2 := by
  unfold cov
  have key : ∀ j, j < 8 → ((x / 2 ^ j % 2 ≤ a / 2 ^ j % 2) ↔ (x.toNat &&& (255 - a.toNat)).testBit j = false) := by
    intro j hj
    have b1 := bit_test x hx.1 j
    have b2 := bit_test a ha.1 j
    rw [Nat.testBit_and, not_test _ (by omega) j hj]
    have hx2 : x / 2 ^ j % 2 = 0 ∨ x / 2 ^ j % 2 = 1 := by omega
    have ha2 : a / 2 ^ j % 2 = 0 ∨ a / 2 ^ j % 2 = 1 := by omega
    rcases hx2 with h1 | h1 <;> rcases ha2 with h2 | h2
    · rw [b1.2.mp h1]; simp [h1, h2]
    · rw [b1.2.mp h1]; simp [h1, h2]
    · rw [b1.1.mp h1, b2.2.mp h2]; simp [h1, h2]
    · rw [b1.1.mp h1, b2.1.mp h2]; simp [h1, h2]
  constructor
  · intro h j hj
    rw [key j hj, h, Nat.zero_testBit]
  · intro h
    apply Nat.eq_of_testBit_eq
    intro j
    rw [Nat.zero_testBit]
    by_cases hj : j < 8
    · exact (key j hj).mp (h j hj)
    · rw [Nat.testBit_and]
      have : x.toNat.testBit j = false := Nat.testBit_lt_two_pow (Nat.lt_of_lt_of_le (show x.toNat < 2 ^ 8 by omega) (Nat.pow_le_pow_right (by omega) (by omega)))
      rw [this, Bool.false_and]
theorem byte_bits (a : Int) (ha : 0 ≤ a ∧ a ≤ 255) : a = a % 2 + 2 * (a / 2 % 2) + 4 * (a / 4 % 2) + 8 * (a / 8 % 2) + 16 * (a / 16 % 2) + 32 * (a / 32 % 2) + 64 * (a / 64 % 2) + 128 * (a / 128 % 2) := by omega
theorem cov_zbits (a x : Int) (ha : 0 ≤ a ∧ a ≤ 255) (hx : 0 ≤ x ∧ x ≤ 255) (h : cov a x) : zbits a ≤ zbits x ∧ (zbits a = zbits x → a = x) := by
  have hb := (cov_bits a x ha hx).mp h
  have h0 := hb 0 (by omega)
  have h1 := hb 1 (by omega)
  have h2 := hb 2 (by omega)
  have h3 := hb 3 (by omega)
  have h4 := hb 4 (by omega)
  have h5 := hb 5 (by omega)
  have h6 := hb 6 (by omega)
  have h7 := hb 7 (by omega)
  rw [show (2 : Int) ^ 0 = 1 from rfl, Int.ediv_one, Int.ediv_one] at h0
  rw [show (2 : Int) ^ 1 = 2 from rfl] at h1
  rw [show (2 : Int) ^ 2 = 4 from rfl] at h2
  rw [show (2 : Int) ^ 3 = 8 from rfl] at h3
  rw [show (2 : Int) ^ 4 = 16 from rfl] at h4
  rw [show (2 : Int) ^ 5 = 32 from rfl] at h5
  rw [show (2 : Int) ^ 6 = 64 from rfl] at h6
  rw [show (2 : Int) ^ 7 = 128 from rfl] at h7
  have ea := byte_bits a ha
  have ex := byte_bits x hx
  unfold zbits
  generalize a % 2 = a0 at *
  generalize a / 2 % 2 = a1 at *
  generalize a / 4 % 2 = a2 at *
  generalize a / 8 % 2 = a3 at *
  generalize a / 16 % 2 = a4 at *
  generalize a / 32 % 2 = a5 at *
  generalize a / 64 % 2 = a6 at *
  generalize a / 128 % 2 = a7 at *
  generalize x % 2 = x0 at *
  generalize x / 2 % 2 = x1 at *
  generalize x / 4 % 2 = x2 at *
  generalize x / 8 % 2 = x3 at *
  generalize x / 16 % 2 = x4 at *
  generalize x / 32 % 2 = x5 at *
  generalize x / 64 % 2 = x6 at *
  generalize x / 128 % 2 = x7 at *
  constructor
  · omega
  · intro hs
    omega
/-- every byte of b is covered by a's -/
def coverL (a b : List Int) : Prop := a.length = b.length ∧ ∀ i, i < b.length → cov (a.getD i 0) (b.getD i 0)
instance (a b : List Int) : Decidable (coverL a b) := by unfold coverL; exact inferInstance
theorem cover_sum : ∀ (a b : List Int), isBytes a → isBytes b → coverL a b → zsum a ≤ zsum b ∧ (zsum a = zsum b → a = b)
  | [], [], _, _, _ => by simp
  | [], _ :: _, _, _, h => by have := h.1; simp at this
  | _ :: _, [], _, _, h => by have := h.1; simp at this
  | a :: as_, b :: bs, ha, hb, h => by
    have h1 := h.2 0 (by simp)
    have h2 : coverL as_ bs := ⟨by have := h.1; simpa using this, fun i hi => h.2 (i + 1) (by simpa using hi)⟩
    have h3 := cover_sum as_ bs (fun x hx => ha x (List.mem_cons_of_mem _ hx)) (fun x hx => hb x (List.mem_cons_of_mem _ hx)) h2
    have h4 := cov_zbits a b (ha a (List.mem_cons_self ..)) (hb b (List.mem_cons_self ..)) h1
    have ea : zsum (a :: as_) = zbits a + zsum as_ := by simp [zsum]
    have eb : zsum (b :: bs) = zbits b + zsum bs := by simp [zsum]
    rw [ea, eb]
    refine ⟨by omega, fun he => ?_⟩
    rw [h4.2 (by omega), h3.2 (by omega)]
theorem pcovers_ev (a b : List Int) (ha : isBytes a) (hb : isBytes b) (hl : b.length ≤ 100000) : Ev (fun k => zeros_Covers.f k a b) (decide (coverL a b)) := by
  by_cases he : a.length = b.length
  · have key : ∀ d i : Nat, i + d = b.length → Ev (fun k => zeros_Covers.l0 k a b (b.length : Int) (i : Int)) (decide (∀ j, j < b.length → i ≤ j → cov (a.getD j 0) (b.getD j 0))) := by
      intro d
      induction d with
      | zero =>
        intro i hi
        rw [decide_eq_true (fun j h1 h2 => absurd h1 (by omega))]
        refine Ev.step (f := fun _ => some true) (fun k => ?_) (Ev.now _)
        simp only [zeros_Covers.l0]
        rw [if_neg (by omega)]
      | succ d ih =>
        intro i hi
        have hra := getD_range a ha i
        have hrb := getD_range b hb i
        have hw : wrap64 ((i : Int) + 1) = ((i + 1 : Nat) : Int) := by rw [w64 (by omega)]; omega
        have e : Go.bits .andNot .u8 (rd b (i : Int)) (rd a (i : Int)) = ((b.getD i 0).toNat &&& (255 - (a.getD i 0).toNat) : Nat) := u8_andNot (b.getD i 0) (a.getD i 0) hrb.1 (by omega) hra.1 (by omega)
        by_cases hc : cov (a.getD i 0) (b.getD i 0)
        · have hd : (decide (∀ j, j < b.length → i ≤ j → cov (a.getD j 0) (b.getD j 0))) = (decide (∀ j, j < b.length → i + 1 ≤ j → cov (a.getD j 0) (b.getD j 0))) := by
            rw [decide_eq_decide]
            constructor
            · intro h j h1 h2; exact h j h1 (by omega)
            · intro h j h1 h2
              by_cases hj : j = i
              · rw [hj]; exact hc
              · exact h j h1 (by omega)
          rw [hd]
          refine Ev.step (fun k => ?_) (ih (i + 1) (by omega))
          simp only [zeros_Covers.l0]
          rw [if_pos (by omega), if_pos (by omega), if_pos (by omega), if_pos (by omega), e, if_pos (by unfold cov at hc; rw [hc]; rfl), hw]
        · rw [decide_eq_false (fun h => hc (h i (by omega) (Nat.le_refl _)))]
          refine Ev.step (f := fun _ => some false) (fun k => ?_) (Ev.now _)
          simp only [zeros_Covers.l0]
          rw [if_pos (by omega), if_pos (by omega), if_pos (by omega), if_pos (by omega), e, if_neg (by unfold cov at hc; omega)]
    have h0 := key b.length 0 (by omega)
    have hd : (decide (∀ j, j < b.length → 0 ≤ j → cov (a.getD j 0) (b.getD j 0))) = decide (coverL a b) := by
      rw [decide_eq_decide]
      exact ⟨fun h => ⟨he, fun i hi => h i hi (by omega)⟩, fun h j hj _ => h.2 j hj⟩
    rw [hd] at h0
    unfold zeros_Covers.f
    exact Ev.pos (by omega) h0
  · rw [decide_eq_false (fun h => he h.1)]
    unfold zeros_Covers.f
    exact Ev.neg (by omega) (Ev.now _)
theorem rcovers_ev (a b : List Int) (ha : isBytes a) (hb : isBytes b) (hl : b.length ≤ 100000) : Ev (fun k => wagtailref02_Covers.f k a b) (decide (coverL a b)) := by
  by_cases he : a.length = b.length
  · have hw8 : wrap64 (8 * (a.length : Int)) = ((8 * a.length : Nat) : Int) := by rw [w64 (by omega)]; omega
    have key : ∀ d i : Nat, i + d = 8 * a.length → Ev (fun k => wagtailref02_Covers.l0 k a b (i : Int)) (decide (∀ j, j < 8 * a.length → i ≤ j → bitOf b j ≤ bitOf a j)) := by
      intro d
      induction d with
      | zero =>
        intro i hi
        rw [decide_eq_true (fun j h1 h2 => absurd h1 (by omega))]
        refine Ev.step (f := fun _ => some true) (fun k => ?_) (Ev.now _)
        simp only [wagtailref02_Covers.l0]
        rw [hw8, if_neg (by omega)]
      | succ d ih =>
        intro i hi
        have hw : wrap64 ((i : Int) + 1) = ((i + 1 : Nat) : Int) := by rw [w64 (by omega)]; omega
        have hunf : ∀ k, wagtailref02_Covers.l0 (k + 1) a b (i : Int) = (wagtailref02_Bit.f k a (i : Int)).bind fun t1 => (wagtailref02_Bit.f k b (i : Int)).bind fun t2 => if t1 < t2 then some false else wagtailref02_Covers.l0 k a b ((i + 1 : Nat) : Int) := by
          intro k
          rw [← hw]
          simp only [wagtailref02_Covers.l0]
          rw [hw8, if_pos (by omega)]
        refine Ev.step hunf (Ev.bind (bit_ev a ha i (by omega) (by omega)) (Ev.bind (bit_ev b hb i (by omega) (by omega)) ?_))
        by_cases hc : bitOf a i < bitOf b i
        · rw [decide_eq_false (fun h => by have := h i (by omega) (Nat.le_refl _); omega)]
          exact Ev.pos hc (Ev.now _)
        · have hd : (decide (∀ j, j < 8 * a.length → i ≤ j → bitOf b j ≤ bitOf a j)) = (decide (∀ j, j < 8 * a.length → i + 1 ≤ j → bitOf b j ≤ bitOf a j)) := by
            rw [decide_eq_decide]
            constructor
            · intro h j h1 h2; exact h j h1 (by omega)
            · intro h j h1 h2
              by_cases hj : j = i
              · rw [hj]; omega
              · exact h j h1 (by omega)
          rw [hd]
          exact Ev.neg hc (ih (i + 1) (by omega))
    have h0 := key (8 * a.length) 0 (by omega)
    have hd : (decide (∀ j, j < 8 * a.length → 0 ≤ j → bitOf b j ≤ bitOf a j)) = decide (coverL a b) := by
      rw [decide_eq_decide]
      constructor
      · intro h
        refine ⟨he, fun i hi => (cov_bits _ _ (getD_range a ha i) (getD_range b hb i)).mpr (fun j hj => ?_)⟩
        have := h (8 * i + j) (by omega) (by omega)
        rwa [bitOf_at b i j hj, bitOf_at a i j hj] at this
      · intro h n hn _
        have h1 := (cov_bits _ _ (getD_range a ha (n / 8)) (getD_range b hb (n / 8))).mp (h.2 (n / 8) (by omega)) (n % 8) (by omega)
        exact h1
    rw [hd] at h0
    unfold wagtailref02_Covers.f
    exact Ev.pos (by omega) h0
  · rw [decide_eq_false (fun h => he h.1)]
    unfold wagtailref02_Covers.f
    exact Ev.neg (by omega) (Ev.now _)
theorem progRow_len (a b m : List Int) : (progRow a b m).length = a.length := by simp [progRow]
theorem wipeRow_len (a m : List Int) : (wipeRow a m).length = a.length := by simp [wipeRow]
theorem progRow_at (a b m : List Int) (i : Nat) (h : i < a.length) : (progRow a b m).getD i 0 = if i < b.length then progByte (a.getD i 0) (b.getD i 0) (maskAt m i) else a.getD i 0 := by
  rw [List.getD_eq_getElem?_getD, List.getElem?_eq_getElem (by rw [progRow_len]; exact h)]
  simp [progRow]
theorem wipeRow_at (a m : List Int) (i : Nat) (h : i < a.length) : (wipeRow a m).getD i 0 = (((a.getD i 0).toNat ||| (maskAt m i).toNat : Nat) : Int) := by
  rw [List.getD_eq_getElem?_getD, List.getElem?_eq_getElem (by rw [wipeRow_len]; exact h)]
  simp [wipeRow]
theorem bytes_of_getD {l : List Int} (h : ∀ i, i < l.length → 0 ≤ l.getD i 0 ∧ l.getD i 0 ≤ 255) : isBytes l := by
  intro x hx
  obtain ⟨i, hi, rfl⟩ := List.getElem_of_mem hx
  have := h i hi
  rwa [List.getD_eq_getElem?_getD, List.getElem?_eq_getElem hi] at this
theorem progRow_bytes (a b m : List Int) (ha : isBytes a) : isBytes (progRow a b m) := by
  refine bytes_of_getD (fun i hi => ?_)
  rw [progRow_len] at hi
  rw [progRow_at a b m i hi]
  have := getD_range a ha i
  split
  · unfold progByte
    have h2 := Nat.and_le_left (n := (a.getD i 0).toNat) (m := (b.getD i 0).toNat ||| (255 - (maskAt m i).toNat))
    omega
  · exact this
theorem wipeRow_bytes (a m : List Int) (ha : isBytes a) (hm : isBytes m) : isBytes (wipeRow a m) := by
  refine bytes_of_getD (fun i hi => ?_)
  rw [wipeRow_len] at hi
  rw [wipeRow_at a m i hi]
  have h1 := getD_range a ha i
  have h2 := maskAt_range m hm i
  have := Nat.or_lt_two_pow (n := 8) (show (a.getD i 0).toNat < 2 ^ 8 by omega) (show (maskAt m i).toNat < 2 ^ 8 by omega)
  omega
theorem toNat_bit_le {n m : Nat} (j : Nat) (h : n.testBit j = true → m.testBit j = true) : ((n : Int) / 2 ^ j % 2) ≤ ((m : Int) / 2 ^ j % 2) := by
  have b1 := bit_test (n : Int) (by omega) j
  have b2 := bit_test (m : Int) (by omega) j
  rw [Int.toNat_natCast] at b1 b2
  by_cases hn : n.testBit j = true
  · have h1 := b1.1.mpr hn
    have h2 := b2.1.mpr (h hn)
    omega
  · rw [Bool.not_eq_true] at hn
    have h1 := b1.2.mpr hn
    omega
theorem prog_covers (b m : List Int) (hb : isBytes b) (hm : isBytes m) : coverL (progRow (List.replicate b.length 255) b m) b := by
  refine ⟨by rw [progRow_len, List.length_replicate], fun i hi => ?_⟩
  have hrb := getD_range b hb i
  have hrm := maskAt_range m hm i
  have e : (List.replicate b.length (255 : Int)).getD i 0 = 255 := by
    rw [List.getD_eq_getElem?_getD, List.getElem?_replicate, if_pos hi]; rfl
  have hp := getD_range _ (progRow_bytes (List.replicate b.length 255) b m (fun x hx => by rw [List.mem_replicate] at hx; omega)) i
  refine (cov_bits _ _ hp hrb).mpr (fun j hj => ?_)
  rw [progRow_at _ b m i (by rw [List.length_replicate]; exact hi), if_pos hi, e]
  unfold progByte
  obtain ⟨n, hn⟩ := Int.eq_ofNat_of_zero_le hrb.1
  rw [hn, Int.toNat_natCast]
  refine toNat_bit_le j (fun h => ?_)
  rw [Nat.testBit_and, Nat.testBit_or, h]
  have : (255 : Int).toNat.testBit j = true := by
    have : ∀ j, j < 8 → (255 : Nat).testBit j = true := by decide
    exact this j hj
  rw [this]
  rfl
theorem wipe_covers (b m : List Int) (hb : isBytes b) (hm : isBytes m) : coverL (wipeRow b m) b := by
  refine ⟨wipeRow_len _ _, fun i hi => ?_⟩
  have hrb := getD_range b hb i
  have hp := getD_range _ (wipeRow_bytes b m hb hm) i
  refine (cov_bits _ _ hp hrb).mpr (fun j hj => ?_)
  rw [wipeRow_at _ m i hi]
  obtain ⟨n, hn⟩ := Int.eq_ofNat_of_zero_le hrb.1
  rw [hn, Int.toNat_natCast]
  refine toNat_bit_le j (fun h => ?_)
  rw [Nat.testBit_or, h]
  rfl
end Go.Proofs.Ytmlkkdopogcggaa.Pure
