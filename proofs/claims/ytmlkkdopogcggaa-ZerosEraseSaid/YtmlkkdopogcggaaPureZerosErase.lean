/- 'ZerosErase': whatever is erased of any bytes by any mask is the document's, and a mask's bytes. -/
import Derived.Test.YtmlkkdopogcggaaPZ
import Derived.Test.YtmlkkdopogcggaaHpQZerosErase
namespace Go.Proofs.Ytmlkkdopogcggaa.Pure
set_option linter.unusedVariables false
open Go.RowKit Go.Proofs.Ytmlkkdopogcggaa.Hp Go.Proofs.YtmlkkdopogcggaaW.PrintWords Go.Proofs.YtmlkkdopogcggaaW.PrintLast

/-- which bits the reference's byte i has -/
def eraP (l0 l1 : List Int) (i j : Nat) : Bool := decide (bitOf l0 (8 * i + j) = 1) || (maskAt l1 i / 2 ^ j % 2 == 1)
theorem wipeRow_take (l0 l1 : List Int) (i : Nat) (h : i < l0.length) : (wipeRow l0 l1).take (i + 1) = (wipeRow l0 l1).take i ++ [(((l0.getD i 0).toNat ||| (maskAt l1 i).toNat : Nat) : Int)] := by
  have hl : (wipeRow l0 l1).length = l0.length := by simp [wipeRow]
  rw [List.take_succ_eq_append_getElem (by rw [hl]; exact h)]
  simp [wipeRow]
theorem eraP_sum (l0 l1 : List Int) (h0 : isBytes l0) (h1 : isBytes l1) (i : Nat) : sumBits (eraP l0 l1 i) 8 = (((l0.getD i 0).toNat ||| (maskAt l1 i).toNat : Nat) : Int) := by
  have r0 := getD_range l0 h0 i
  have r1 := maskAt_range l1 h1 i
  refine sumBits_byte _ (Nat.or_lt_two_pow (n := 8) (by omega) (by omega)) (eraP l0 l1 i) (fun j hj => ?_)
  rw [Nat.testBit_or]
  unfold eraP
  rw [bitOf_at l0 i j hj]
  have b1 := bit_test (l0.getD i 0) r0.1 j
  have b2 := bit_test (maskAt l1 i) r1.1 j
  have e2 : (maskAt l1 i / 2 ^ j % 2 == 1) = (maskAt l1 i).toNat.testBit j := by
    rw [Bool.eq_iff_iff, beq_iff_eq, b2.1]
  have e1 : decide (l0.getD i 0 / 2 ^ j % 2 = 1) = (l0.getD i 0).toNat.testBit j := by
    rw [Bool.eq_iff_iff, decide_eq_true_eq, b1.1]
  rw [e1, e2]
theorem rera_round (l0 l1 : List Int) (h0 : isBytes l0) (h1 : isBytes l1) (hl0 : l0.length ≤ 1000) (hl1 : l1.length ≤ 1000) (i : Nat) (hi : i < l0.length) (out r : List Int) (j : Nat) (hj8 : j < 8)
    (hn : Ev (fun k => wagtailref02_Erase.l1 k l0 l1 out (i : Int) (sumBits (eraP l0 l1 i) (j + 1)) ((8 * i + (j + 1) : Nat) : Int)) r) :
    Ev (fun k => wagtailref02_Erase.l1 k l0 l1 out (i : Int) (sumBits (eraP l0 l1 i) j) ((8 * i + j : Nat) : Int)) r := by
  have hw : wrap64 (wrap64 (8 * (i : Int)) + 8) = ((8 * i + 8 : Nat) : Int) := by rw [w64 (x := 8 * (i : Int)) (by omega), w64 (by omega)]; omega
  have hadd : wrap64 (((8 * i + j : Nat) : Int) + 1) = ((8 * i + (j + 1) : Nat) : Int) := by rw [w64 (by omega)]; omega
  have hs := sum_small (eraP l0 l1 i) j hj8
  have hpj := pow128 j hj8
  have hstep : sumBits (eraP l0 l1 i) (j + 1) = sumBits (eraP l0 l1 i) j + (if eraP l0 l1 i j then 2 ^ j else 0) := rfl
  have hunf : ∀ k, wagtailref02_Erase.l1 (k + 1) l0 l1 out (i : Int) (sumBits (eraP l0 l1 i) j) ((8 * i + j : Nat) : Int) = (wagtailref02_Bit.f k l0 ((8 * i + j : Nat) : Int)).bind fun t265 => (if t265 = 1 then ((wagtailref02_powers.f k ((8 * i + j : Nat) : Int)).bind fun t266 => (wagtailref02_Erase.l1 k l0 l1 out (i : Int) (wrap64 (sumBits (eraP l0 l1 i) j + t266)) ((8 * i + (j + 1) : Nat) : Int))) else ((wagtailref02_masked.f k l1 ((8 * i + j : Nat) : Int)).bind fun t267 => (if t267 = true then ((wagtailref02_powers.f k ((8 * i + j : Nat) : Int)).bind fun t268 => (wagtailref02_Erase.l1 k l0 l1 out (i : Int) (wrap64 (sumBits (eraP l0 l1 i) j + t268)) ((8 * i + (j + 1) : Nat) : Int))) else (wagtailref02_Erase.l1 k l0 l1 out (i : Int) (sumBits (eraP l0 l1 i) j) ((8 * i + (j + 1) : Nat) : Int))))) := by
    intro k
    rw [← hadd]
    simp only [wagtailref02_Erase.l1]
    rw [hw, if_pos (by omega)]
  refine Ev.step hunf (Ev.bind (bit_ev l0 h0 (8 * i + j) (by omega) (by omega)) ?_)
  by_cases hb : bitOf l0 (8 * i + j) = 1
  · have hP : eraP l0 l1 i j = true := by unfold eraP; rw [decide_eq_true hb]; rfl
    rw [hP, if_pos rfl] at hstep
    rw [hstep] at hn
    refine Ev.pos hb (Ev.bind (powers_ev (8 * i + j) (by omega)) ?_)
    rw [show (8 * i + j) % 8 = j by omega, w64 (by omega)]
    exact hn
  · refine Ev.neg hb (Ev.bind (masked_ev l1 h1 (by omega) i j (by omega) hj8) ?_)
    by_cases hmk : (maskAt l1 i / 2 ^ j % 2 == 1) = true
    · have hP : eraP l0 l1 i j = true := by unfold eraP; rw [hmk]; simp
      rw [hP, if_pos rfl] at hstep
      rw [hstep] at hn
      refine Ev.pos hmk (Ev.bind (powers_ev (8 * i + j) (by omega)) ?_)
      rw [show (8 * i + j) % 8 = j by omega, w64 (by omega)]
      exact hn
    · have hP : eraP l0 l1 i j = false := by
        rw [Bool.not_eq_true] at hmk
        unfold eraP
        rw [decide_eq_false hb, hmk]
        rfl
      rw [hP, if_neg (by simp), Int.add_zero] at hstep
      rw [hstep] at hn
      exact Ev.neg hmk hn
theorem rera_inner (l0 l1 : List Int) (h0 : isBytes l0) (h1 : isBytes l1) (hl0 : l0.length ≤ 1000) (hl1 : l1.length ≤ 1000) (i : Nat) (hi : i < l0.length) (out r : List Int) (ho : out.length ≤ 1000)
    (hnext : Ev (fun k => wagtailref02_Erase.l0 k l0 l1 (out ++ [sumBits (eraP l0 l1 i) 8 % 256]) ((i + 1 : Nat) : Int)) r) (d : Nat) :
    ∀ j : Nat, j + d = 8 → Ev (fun k => wagtailref02_Erase.l1 k l0 l1 out (i : Int) (sumBits (eraP l0 l1 i) j) ((8 * i + j : Nat) : Int)) r := by
  have hw : wrap64 (wrap64 (8 * (i : Int)) + 8) = ((8 * i + 8 : Nat) : Int) := by rw [w64 (x := 8 * (i : Int)) (by omega), w64 (by omega)]; omega
  have hi1 : wrap64 ((i : Int) + 1) = ((i + 1 : Nat) : Int) := by rw [w64 (by omega)]; omega
  induction d with
  | zero =>
    intro j hj
    obtain rfl : j = 8 := by omega
    refine Ev.step (fun k => ?_) hnext
    simp only [wagtailref02_Erase.l1]
    rw [hw, if_neg (by omega), if_pos (by omega), hi1]
  | succ d ih =>
    intro j hj
    exact rera_round l0 l1 h0 h1 hl0 hl1 i hi out r j (by omega) (ih (j + 1) (by omega))
theorem rera_ev (l0 l1 : List Int) (h0 : isBytes l0) (h1 : isBytes l1) (hl0 : l0.length ≤ 1000) (hl1 : l1.length ≤ 1000) : Ev (fun k => wagtailref02_Erase.f k l0 l1) (wipeRow l0 l1) := by
  have hl : (wipeRow l0 l1).length = l0.length := by simp [wipeRow]
  have key : ∀ d i : Nat, i + d = l0.length → Ev (fun k => wagtailref02_Erase.l0 k l0 l1 ((wipeRow l0 l1).take i) (i : Int)) (wipeRow l0 l1) := by
    intro d
    induction d with
    | zero =>
      intro i hi
      obtain rfl : i = l0.length := by omega
      refine Ev.step (f := fun _ => some (wipeRow l0 l1)) (fun k => ?_) (Ev.now _)
      simp only [wagtailref02_Erase.l0]
      rw [if_neg (by omega), List.take_of_length_le (by omega)]
    | succ d ih =>
      intro i hi
      have hn := ih (i + 1) (by omega)
      have hs := sumBits_range (eraP l0 l1 i) 8
      have hin := rera_inner l0 l1 h0 h1 hl0 hl1 i (by omega) ((wipeRow l0 l1).take i) (wipeRow l0 l1) (by rw [List.length_take]; omega) (by
        rw [Int.emod_eq_of_lt hs.1 (by have : (2 : Int) ^ 8 = 256 := rfl; omega), eraP_sum l0 l1 h0 h1 i, ← wipeRow_take l0 l1 i (by omega)]
        exact hn) 8 0 (by omega)
      refine Ev.step (fun k => ?_) hin
      simp only [wagtailref02_Erase.l0]
      rw [if_pos (by omega), w64 (x := 8 * (i : Int)) (by omega)]
      rfl
  exact key l0.length 0 (by omega)
theorem mask_any (m : List Int) (a : Int) : zeros_Mask.f m a = some (if a < 0 ∨ m.length = 0 then 0 else rd m (Int.tmod a (m.length : Int))) := by
  unfold zeros_Mask.f
  by_cases h : a < 0
  · rw [if_pos h, if_pos (.inl h)]
  · rw [if_neg h]
    by_cases h0 : m.length = 0
    · rw [if_pos (by omega), if_pos (.inr h0)]
    · rw [if_neg (by omega)]
      have e : Int.tmod a (m.length : Int) = a % (m.length : Int) := Int.tmod_eq_emod_of_nonneg (by omega)
      have h1 := Int.emod_nonneg a (show (m.length : Int) ≠ 0 by omega)
      have h2 := Int.emod_lt_of_pos a (show (0 : Int) < m.length by omega)
      rw [e, if_pos h1, if_pos h2, if_neg (by omega)]
theorem ZerosErase : wagtaillaw02_ZerosErase.Pure := by
  intro l0 l1 a ⟨_, g0⟩ ⟨_, g1⟩ ga
  have b0 := bytes_of_wf g0
  have b1 := bytes_of_wf g1
  refine Ev.rounds (g := fun k => wagtaillaw02_ZerosErase.f k l0 l1 a) ?_
  unfold wagtaillaw02_ZerosErase.f
  refine Ev.bind (few_ev [l0, l1] (by simp)) ?_
  by_cases hf : fewB [l0, l1] = true
  · rw [mask_any]
    simp only [Option.bind_some]
    refine Ev.pos hf (Ev.bind zeros_awake_ev (Ev.pos rfl ?_))
    simp only [fewB, List.all_cons, List.all_nil, Bool.and_true, Bool.and_eq_true, decide_eq_true_eq] at hf
    have e : zeros_Erase.f l0 l1 = some (wipeRow l0 l1) := by
      unfold zeros_Erase.f
      rw [if_pos ⟨b0, b1, by omega⟩]
    rw [e]
    simp only [Option.bind_some]
    refine Ev.bind (rera_ev l0 l1 b0 b1 (by omega) (by omega)) ?_
    refine Ev.pos rfl ?_
    by_cases h : a < 0
    · refine Ev.neg (by omega) (Ev.pos h ?_)
      rw [if_pos (.inl h)]
      exact Ev.now _
    · refine Ev.pos (by omega) ?_
      by_cases h0 : l1.length = 0
      · refine Ev.neg (by omega) (Ev.neg h (Ev.pos (by omega) ?_))
        rw [if_pos (.inr h0)]
        exact Ev.now _
      · have e : Int.tmod a (l1.length : Int) = a % (l1.length : Int) := Int.tmod_eq_emod_of_nonneg (by omega)
        have h1 := Int.emod_nonneg a (show (l1.length : Int) ≠ 0 by omega)
        have h2 := Int.emod_lt_of_pos a (show (0 : Int) < l1.length by omega)
        refine Ev.pos (by omega) (Ev.neg (by omega) (Ev.pos (by omega) (Ev.pos (by omega) (Ev.pos ?_ (Ev.now _)))))
        rw [if_neg (by omega)]
  · exact Ev.neg hf (Ev.bind zeros_awake_ev (Ev.now _))
end Go.Proofs.Ytmlkkdopogcggaa.Pure
