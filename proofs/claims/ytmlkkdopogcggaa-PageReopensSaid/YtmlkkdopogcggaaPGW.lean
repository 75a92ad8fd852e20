/- The page's functions by what they come to: contracts over plain numbers, for the walks by hand. -/
import Derived.Test.YtmlkkdopogcggaaPG
namespace Go.Proofs.Ytmlkkdopogcggaa.PG
set_option linter.unusedVariables false
open Go.RowKit Go.Proofs.Ytmlkkdopogcggaa.Hp Go.Proofs.YtmlkkdopogcggaaW.PrintWords Go.Proofs.YtmlkkdopogcggaaW.PrintLast

theorem awake_calls (W : World) : Calls Try.prog 36 #[] W fun e w' => e = .returned (.bool true) ∧ Below W.heap.size W w' := by
  obtain ⟨K, hK⟩ := awake_ev
  exact wagtaillaw15_awake.calls K true W (hK K (Nat.le_refl _))
theorem may_calls (k i c b o l n : Int) (r : Bool) (hr : headMay k i c b o l n = r) (W : World) :
    Calls Try.prog 38 #[.agg #[.int .i64 k, .int .i64 i, .int .i64 c, .int .u64 b, .int .u64 o, .int .i64 l, .int .i64 n]] W fun e w' => e = .returned (.bool r) ∧ Below W.heap.size W w' :=
  wagtailref15_May.calls k i c b o l n r W ((wagtailref15_Get.may_head k i c b o l n).trans (congrArg some hr))
theorem check_calls (k i c b o l n : Int) (r : Int) (hr : (if headMay k i c b o l n = true then 0 else 3) = r) (W : World) :
    Calls Try.prog 39 #[.agg #[.int .i64 k, .int .i64 i, .int .i64 c, .int .u64 b, .int .u64 o, .int .i64 l, .int .i64 n]] W fun e w' => e = .returned (.int .i64 r) ∧ Below W.heap.size W w' :=
  page_Check.calls k i c b o l n r W (by unfold page_Check.f; rw [hr])
theorem pput_calls (k i c b o l n : Int) (d : ByteArray) (hm : headMay k i c b o l n = true) (hb : 0 ≤ b) (ho : 0 ≤ o) (hd : (d.size : Int) = n) (W : World) :
    Calls Try.prog 37 #[.agg #[.int .i64 k, .int .i64 i, .int .i64 c, .int .u64 b, .int .u64 o, .int .i64 l, .int .i64 n], .string d] W fun e w' =>
      ∃ A cp, e = .returned (.tuple #[.slice A 256 cp, .int .i64 0]) ∧ 256 ≤ cp ∧ Kd.C (Kd.int .u8) w' A 256 (pageL k i c b o l n (bytesOf d)) ∧ Below W.heap.size W w' := by
  obtain ⟨K, hK⟩ := pput_ev k i c b o l n d hm hb ho hd
  have hrg := wagtailref15_Put.headMay_range hm
  have hlen := page_len k i c b o l n (bytesOf d) (by rw [bytesOf_length]; omega)
  refine (page_Put.calls K k i c b o l n d _ _ W (hK K (Nat.le_refl _))).mono ?_
  rintro e w' ⟨v, rfl, hr, hb⟩
  obtain ⟨A, cp, rfl, hl, hC⟩ := Kd.R_reads hr
  rw [hlen] at hl hC ⊢
  exact ⟨A, cp, rfl, hl, hC, hb⟩
theorem pput_bad_calls (k i c b o l n : Int) (d : ByteArray) (h : headMay k i c b o l n = false ∨ (d.size : Int) ≠ n) (W : World) :
    Calls Try.prog 37 #[.agg #[.int .i64 k, .int .i64 i, .int .i64 c, .int .u64 b, .int .u64 o, .int .i64 l, .int .i64 n], .string d] W fun e w' =>
      ∃ A cp, e = .returned (.tuple #[.slice A 0 cp, .int .i64 3]) ∧ Below W.heap.size W w' := by
  obtain ⟨K, hK⟩ := pput_bad k i c b o l n d h
  refine (page_Put.calls K k i c b o l n d _ _ W (hK K (Nat.le_refl _))).mono ?_
  rintro e w' ⟨v, rfl, hr, hb⟩
  obtain ⟨A, cp, rfl, hl, hC⟩ := Kd.R_reads hr
  exact ⟨A, cp, rfl, hb⟩
theorem rput_calls (k i c b o l n : Int) (d : ByteArray) (hm : headMay k i c b o l n = true) (hb : 0 ≤ b) (ho : 0 ≤ o) (hd : (d.size : Int) = n) (x : ByteArray) (hx : x = strOfNums (pageL k i c b o l n (bytesOf d))) (W : World) :
    Calls Try.prog 41 #[.agg #[.int .i64 k, .int .i64 i, .int .i64 c, .int .u64 b, .int .u64 o, .int .i64 l, .int .i64 n], .string d] W fun e w' => e = .returned (.string x) ∧ Below W.heap.size W w' := by
  have hrg := wagtailref15_Put.headMay_range hm
  refine wagtailref15_Put.calls k i c b o l n d x W ?_
  unfold wagtailref15_Put.f
  rw [if_pos ⟨hm, hb, ho, by omega⟩, hx]
  rfl
theorem get_calls (l : List Int) (hb : isBytes l) (hl : l.length ≤ 100000) (A : Option Addr) (cp : Nat) (hc : l.length ≤ cp) (r1 r2 r3 r4 r5 r6 r7 : Int) (r8 : ByteArray) (r9 : Int) (h : getOf l = (r1, r2, r3, r4, r5, r6, r7, r8, r9)) (W : World) (hC : Kd.C (Kd.int .u8) W A l.length l) :
    Calls Try.prog 40 #[.slice A l.length cp] W fun e w' => e = .returned (.tuple #[.agg #[.int .i64 r1, .int .i64 r2, .int .i64 r3, .int .u64 r4, .int .u64 r5, .int .i64 r6, .int .i64 r7], .string r8, .int .i64 r9]) ∧ Below W.heap.size W w' := by
  obtain ⟨K, hK⟩ := get_ev l hb hl
  exact page_Get.calls K A cp l r1 r2 r3 r4 r5 r6 r7 r8 r9 W hC hc (by rw [← h]; exact hK K (Nat.le_refl _))
theorem class_calls (l : List Int) (hb : isBytes l) (hl : l.length ≤ 100000) (A : Option Addr) (cp : Nat) (hc : l.length ≤ cp) (r : Int) (h : cls l = r) (W : World) (hC : Kd.C (Kd.int .u8) W A l.length l) :
    Calls Try.prog 42 #[.slice A l.length cp] W fun e w' => e = .returned (.int .i64 r) ∧ Below W.heap.size W w' := by
  obtain ⟨K, hK⟩ := class_ev l hb hl
  exact page_Class.calls K A cp l r W hC hc (by rw [← h]; exact hK K (Nat.le_refl _))
theorem ones_calls (n : Nat) (hn : n ≤ 100000) (ni : Int) (hni : (n : Int) = ni) (W : World) :
    Calls Try.prog 28 #[.int .i64 ni] W fun e w' => ∃ A cp, e = .returned (.slice A n cp) ∧ n ≤ cp ∧ Kd.C (Kd.int .u8) w' A n (List.replicate n 255) ∧ Below W.heap.size W w' := by
  subst hni
  obtain ⟨K, hK⟩ := ones_ev n (by omega)
  refine (wagtailref02_Ones.calls K n _ W (hK K (Nat.le_refl _))).mono ?_
  rintro e w' ⟨v, rfl, hr, hb⟩
  obtain ⟨A, cp, rfl, hl, hC⟩ := Kd.R_reads hr
  rw [List.length_replicate] at hl hC ⊢
  exact ⟨A, cp, rfl, hl, hC, hb⟩
theorem str_of_C {W : World} {A : Option Addr} {n cp : Nat} {l : List Int} (hC : Kd.C (Kd.int .u8) W A n l) (x : ByteArray) (hx : x = strOfNums l) : Str W (.slice A n cp) x := by
  intro W2 hW
  rw [hx]
  exact c_string Try.underlying35 Try.underlying5 Try.underlying9 (Kd.C_below hC hW)
end Go.Proofs.Ytmlkkdopogcggaa.PG
