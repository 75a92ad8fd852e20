/- 'GeomPages': for every n, the program's count of pages for n bytes is the document's. -/
import Derived.Test.YtmlkkdopogcggaaHp6
import Derived.OpenShut
namespace Go.Proofs.Ytmlkkdopogcggaa.Pure
open Go.RowKit Go.Proofs.Ytmlkkdopogcggaa.Hp Go.Proofs.YtmlkkdopogcggaaW.PrintWords Go.Proofs.YtmlkkdopogcggaaW.PrintLast

theorem geom_awake : wagtaillaw13_awake.f 40 = some true := by decide +kernel

theorem mono_le {α : Type} {g : Nat → Option α} (hg : ∀ k, LeO (g k) (g (k + 1))) {a : Nat} {r : α} (h : g a = some r) : ∀ b, a ≤ b → g b = some r := by
  intro b hb
  obtain ⟨d, rfl⟩ := Nat.exists_eq_add_of_le hb
  induction d with
  | zero => exact h
  | succ d ih => exact hg _ _ (ih (by omega))

theorem ref_pages (n : Int) (hn : n ≤ 200000) (d : Nat) : ∀ (k : Nat) (i : Int), 1 ≤ i → i ≤ 1000 → (i = 1 ∨ 228 * (i - 1) < n) → 1000 - i = d → d < k →
    wagtailref13_Pages.l0 k n i = some (if n < 1 then 1 else (n - 1) / 228 + 1) := by
  induction d with
  | zero =>
    intro k i h1 h2 h3 hd hk
    omega
  | succ d ih =>
    intro k i h1 h2 h3 hd hk
    obtain ⟨k, rfl⟩ : ∃ m, k = m + 1 := ⟨k - 1, by omega⟩
    have hw : wrap64 (228 * i) = 228 * i := by unfold wrap64; omega
    have hw2 : wrap64 (i + 1) = i + 1 := by unfold wrap64; omega
    simp only [wagtailref13_Pages.l0]
    rw [hw, hw2]
    by_cases hlt : 228 * i < n
    · rw [if_pos hlt, if_pos (by omega)]
      exact ih k (i + 1) (by omega) (by omega) (by omega) (by omega) (by omega)
    · rw [if_neg hlt]
      congr 1
      by_cases h0 : n < 1
      · rw [if_pos h0]; omega
      · rw [if_neg h0]; omega

theorem GeomPages : wagtaillaw13_GeomPages.Pure := by
  intro n hn
  refine ⟨2000, ?_⟩
  have hA := mono_le wagtaillaw13_awake.mono geom_awake 2000 (by omega)
  have hb : -9223372036854775808 ≤ n ∧ n ≤ 9223372036854775807 := bounds_i64 hn
  unfold wagtaillaw13_GeomPages.f
  rw [hA]
  by_cases h : n > 200000
  · rw [if_pos h]; rfl
  · rw [if_neg h]
    have hp : wagtailref13_Pages.f 2000 n = some (if n < 1 then 1 else (n - 1) / 228 + 1) := ref_pages n (by omega) 999 2000 1 (by omega) (by omega) (by omega) (by omega) (by omega)
    have hq : geom_Pages.f n = some (if n < 1 then 1 else (n - 1) / 228 + 1) := by
      unfold geom_Pages.f
      by_cases h0 : n < 1
      · rw [if_pos h0, if_pos h0]
      · rw [if_neg h0, if_neg h0]
        congr 1
        have e1 : wrap64 (n - 1) = n - 1 := by unfold wrap64; omega
        rw [e1, Int.tdiv_eq_ediv_of_nonneg (by omega)]
        have e2 : wrap64 ((n - 1) / 228) = (n - 1) / 228 := by unfold wrap64; omega
        rw [e2]
        unfold wrap64
        omega
    rw [hp]
    simp only [Option.bind_some, if_true]
    unfold geom_Cost.f
    rw [hq]
    simp only [Option.bind_some, if_true, beq_self_eq_true]
end Go.Proofs.Ytmlkkdopogcggaa.Pure
