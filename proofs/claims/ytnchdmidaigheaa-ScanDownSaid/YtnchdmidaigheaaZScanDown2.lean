/- Parts of the proof of the statement ScanDown, laid together (3 of 5). -/
import Derived.OpenShut
import Derived.Test.YtnchdmidaigheaaZScanDown1
namespace Go.Proofs.Ytnchdmidaigheaa.PG
set_option linter.unusedVariables false
open Go.RowKit Go.Proofs.Ytnchdmidaigheaa.Hp Go.Proofs.YtnchdmidaigheaaW.PrintWords Go.Proofs.YtnchdmidaigheaaW.PrintLast
theorem w64 {x : Int} (h : -9223372036854775808 ≤ x ∧ x ≤ 9223372036854775807) : wrap64 x = x := by unfold wrap64; omega
theorem getD_range (m : List Int) (hm : isBytes m) (i : Nat) : 0 ≤ m.getD i 0 ∧ m.getD i 0 ≤ 255 := rd_range m hm i
theorem zsum_take (b : List Int) (j : Nat) (h : j < b.length) : zsum (b.take (j + 1)) = zsum (b.take j) + zbits (b.getD j 0) := wagtailref15_Put.zsum_snoc b j h
theorem zbits_range (c : Int) : 0 ≤ zbits c ∧ zbits c ≤ 8 := by unfold zbits; omega
theorem zsum_range (b : List Int) : 0 ≤ zsum b ∧ zsum b ≤ 8 * b.length := wagtailref15_Put.zsum_range b
theorem pcount_loop (b : List Int) (hb : isBytes b) (hl : b.length ≤ 100000) (d : Nat) : ∀ (i : Nat), i + d = b.length →
    Ev (fun k => zeros_Count.l0 k (zsum (b.take i)) b (b.length : Int) (i : Int)) (zsum b) := by
  induction d with
  | zero =>
    intro i hi
    obtain rfl : i = b.length := by omega
    refine Ev.step (f := fun _ => some (zsum b)) (fun k => ?_) (Ev.now _)
    simp only [zeros_Count.l0]
    rw [if_neg (by omega), List.take_length]
  | succ d ih =>
    intro i hi
    have hr := getD_range b hb i
    have hz := zbits_range (b.getD i 0)
    have hs := zsum_range (b.take i)
    rw [List.length_take] at hs
    refine Ev.step (fun k => ?_) (ih (i + 1) (by omega))
    simp only [zeros_Count.l0]
    rw [if_pos (by omega), if_pos (by omega), if_pos (by omega)]
    have e : zeros_count.f (rd b (i : Int)) = some (zbits (b.getD i 0)) := by
      unfold zeros_count.f
      show (if 0 ≤ b.getD (i : Int).toNat 0 ∧ b.getD (i : Int).toNat 0 ≤ 255 then some (zbits (b.getD (i : Int).toNat 0)) else none) = _
      rw [Int.toNat_natCast, if_pos hr]
    rw [e]
    simp only [Option.bind_some]
    rw [w64 (by omega), w64 (by omega), zsum_take b i (by omega)]
    rfl
theorem pcount_ev (b : List Int) (hb : isBytes b) (hl : b.length ≤ 100000) : Ev (fun k => zeros_Count.f k b) (zsum b) := by
  have h := pcount_loop b hb hl b.length 0 (by omega)
  exact Ev.congr (fun k => by simp [zeros_Count.f, zsum]) h
theorem pones_loop (n : Nat) (hn : n ≤ 2000000) : ∀ d i : Nat, i + d = n → Ev (fun k => zeros_Ones.l0 k (List.replicate i 255) (n : Int) (i : Int)) (List.replicate n 255) := by
  intro d
  induction d with
  | zero =>
    intro i hi
    obtain rfl : i = n := by omega
    refine Ev.step (fun k => ?_) (Ev.now _)
    simp only [zeros_Ones.l0]
    rw [if_neg (by omega)]
  | succ d ih =>
    intro i hi
    have hw : wrap64 ((i : Int) + 1) = ((i + 1 : Nat) : Int) := by rw [w64 (by omega)]; omega
    refine Ev.step (fun k => ?_) (ih (i + 1) (by omega))
    simp only [zeros_Ones.l0]
    rw [if_pos (by omega), if_pos (by rw [List.length_replicate]; omega), hw, List.replicate_succ']
theorem pones_ev (n : Nat) (hn : n ≤ 1048576) : Ev (fun k => zeros_Ones.f k (n : Int)) (List.replicate n 255) := by
  have := pones_loop n (by omega) n 0 (by omega)
  unfold zeros_Ones.f
  rw [show mn (n : Int) 1048576 = (n : Int) by unfold mn; rw [if_neg (by omega)]]
  exact this
theorem put_loop (n : Int) (h0 : 0 ≤ n) (h1 : n < 18446744073709551616) : ∀ (i : Nat) (acc : List Int), i ≤ 8 → acc.length + i ≤ 100000 → Ev (fun k => be_Put.l0 k n acc ((i : Int) - 1)) (acc ++ beBytes i n) := by
  intro i
  induction i with
  | zero =>
    intro acc _ _
    refine Ev.step (f := fun _ => some (acc ++ beBytes 0 n)) (fun k => ?_) (Ev.now _)
    simp only [be_Put.l0]
    rw [if_neg (by omega)]
    simp [beBytes]
  | succ i ih =>
    intro acc hi hl
    refine Ev.step (fun k => ?_) (by
      have := ih (acc ++ [n / 256 ^ i % 256]) (by omega) (by simp; omega)
      rwa [List.append_assoc, List.singleton_append, ← beBytes_succ] at this)
    simp only [be_Put.l0]
    have e1 : ((i + 1 : Nat) : Int) - 1 = (i : Int) := by omega
    rw [e1, w64 (x := 8 * (i : Int)) (by omega), if_pos (show (i : Int) ≥ 0 by omega), if_pos (show 0 ≤ 8 * (i : Int) by omega), if_pos (show acc.length < 140737488355328 by omega), shr_byte n h0 h1 i (by omega), w64 (x := (i : Int) - 1) (by omega)]
theorem be_put_ev (l : List Int) (hl : l.length ≤ 10000) (n : Int) (h0 : 0 ≤ n) (h1 : n < 18446744073709551616) : Ev (fun k => be_Put.f k l 4 n) (l ++ beBytes 4 n) := by
  refine Ev.congr (fun k => ?_) (put_loop n h0 h1 4 l (by omega) (by omega))
  unfold be_Put.f
  rw [if_pos (show ([] : List Int).length + l.length < 140737488355328 by simp; omega)]
  unfold be_width.f
  simp only [Option.bind_some, List.nil_append]
  rw [show mn (mx 4 0) 8 = 4 from by decide, show wrap64 (4 - 1) = ((4 : Nat) : Int) - 1 from by unfold wrap64; omega]
theorem seal_ev (l : List Int) (hb : isBytes l) (hl : l.length = 252) : Ev (fun k => page_Seal.f k l) (l ++ beBytes 4 (zsum l)) := by
  have hz := zsum_range l
  have e : IntKind.u64.wrap (zsum l) = zsum l := by rw [IntKind.wrap_u64]; omega
  unfold page_Seal.f
  simp only [if_pos (show (l.length : Int) = 252 by omega)]
  refine Ev.bind (pcount_ev l hb (by omega)) ?_
  rw [e]
  exact Ev.bind (be_put_ev l (by omega) (zsum l) hz.1 (by omega)) (Ev.now _)
def pageL (k i c b o l n : Int) (d : List Int) : List Int := pageBody k i c b o l n d ++ beBytes 4 (zsum (pageBody k i c b o l n d))
theorem head_len (k i c b o l n : Int) : (pageHead k i c b o l n).length = 24 := by simp [pageHead, beBytes_len]
theorem body_len (k i c b o l n : Int) (d : List Int) (h : d.length ≤ 228) : (pageBody k i c b o l n d).length = 252 := by
  unfold pageBody
  simp only [List.length_append, head_len, List.length_replicate]
  omega
theorem body_bytes (k i c b o l n : Int) (d : List Int) (hd : isBytes d) : isBytes (pageBody k i c b o l n d) := wagtailref15_Put.pageBody_bytes k i c b o l n d hd
theorem page_bytes (k i c b o l n : Int) (d : List Int) (hd : isBytes d) : isBytes (pageL k i c b o l n d) := by
  intro x hx
  rcases List.mem_append.1 hx with h | h
  · exact body_bytes k i c b o l n d hd x h
  · exact wagtailref15_Put.beBytes_isBytes _ _ x h
theorem row_head (k i c b o l n : Int) : beRow [1, IntKind.u64.wrap k, 1, IntKind.u64.wrap i, 1, IntKind.u64.wrap c, 1, 0, 8, b, 8, o, 2, IntKind.u64.wrap l, 2, IntKind.u64.wrap n] = pageHead k i c b o l n := by
  have h1 : ∀ x : Int, beBytes 1 x = [x % 256] := fun x => by simp [beBytes]
  simp only [beRow, show wid (mn 1 8) = 1 from by decide, show wid (mn 8 8) = 8 from by decide, show wid (mn 2 8) = 2 from by decide, h1, IntKind.wrap_u64]
  unfold pageHead
  have e : ∀ x : Int, x % 18446744073709551616 % 256 = x % 256 := fun x => by omega
  simp [e]
theorem pput_ev (k i c b o l n : Int) (d : ByteArray) (hm : headMay k i c b o l n = true) (hb : 0 ≤ b) (ho : 0 ≤ o) (hd : (d.size : Int) = n) :
    Ev (fun r => page_Put.f r k i c b o l n d) (pageL k i c b o l n (bytesOf d), 0) := by
  have hrg := wagtailref15_Put.headMay_range hm
  have hdl : (bytesOf d).length = d.size := bytesOf_length d
  have hdb := wagtailref15_Put.bytes_isBytes d
  have hrow : be_Row.f [1, IntKind.u64.wrap k, 1, IntKind.u64.wrap i, 1, IntKind.u64.wrap c, 1, 0, 8, b, 8, o, 2, IntKind.u64.wrap l, 2, IntKind.u64.wrap n] = some (pageHead k i c b o l n) := by
    unfold be_Row.f
    rw [if_pos, row_head]
    refine ⟨by simp, by simp, fun j hj => ?_⟩
    simp only [IntKind.wrap_u64]
    have hj : j < 16 := by simpa using hj
    have : j = 0 ∨ j = 1 ∨ j = 2 ∨ j = 3 ∨ j = 4 ∨ j = 5 ∨ j = 6 ∨ j = 7 ∨ j = 8 ∨ j = 9 ∨ j = 10 ∨ j = 11 ∨ j = 12 ∨ j = 13 ∨ j = 14 ∨ j = 15 := by omega
    rcases this with rfl | rfl | rfl | rfl | rfl | rfl | rfl | rfl | rfl | rfl | rfl | rfl | rfl | rfl | rfl | rfl <;> simp only [List.getD_cons_zero, List.getD_cons_succ] <;> omega
  unfold page_Put.f page_Check.f
  simp only [Option.bind_some, hm, if_true]
  rw [show ((d.size : Int) != n) = false by simp [hd]]
  refine Ev.step (f := fun r => (zeros_Ones.f r ((252 - (24 + d.size) : Nat) : Int)).bind fun t => (page_Seal.f r ((pageHead k i c b o l n ++ bytesOf d) ++ t)).bind fun t2 => if (pageHead k i c b o l n ++ bytesOf d).length + t.length < 140737488355328 then some (t2, (0 : Int)) else none) (fun r => ?_) ?_
  · simp only [page_Put.j0, Bool.false_eq_true, if_false, hrow, Option.bind_some]
    rw [if_pos (by rw [head_len]; omega)]
    have e : wrap64 (252 - ((pageHead k i c b o l n ++ bytesOf d).length : Int)) = ((252 - (24 + d.size) : Nat) : Int) := by
      rw [List.length_append, head_len, hdl, w64 (by omega)]
      omega
    rw [e]
    congr 1
    funext t
    by_cases h : (pageHead k i c b o l n ++ bytesOf d).length + t.length < 140737488355328
    · simp only [if_pos h]
    · simp only [if_neg h]
      cases page_Seal.f r (pageHead k i c b o l n ++ bytesOf d ++ t) <;> rfl
  · refine Ev.bind (pones_ev _ (by omega)) ?_
    refine Ev.bind (a := pageL k i c b o l n (bytesOf d)) ?_ ?_
    · have h1 := seal_ev (pageBody k i c b o l n (bytesOf d)) (body_bytes k i c b o l n _ hdb) (body_len k i c b o l n _ (by omega))
      unfold pageL
      unfold pageBody at h1 ⊢
      rw [hdl] at h1 ⊢
      exact h1
    · rw [if_pos (by simp only [List.length_append, head_len, List.length_replicate, hdl]; omega)]
      exact Ev.now _
theorem pput_bad (k i c b o l n : Int) (d : ByteArray) (h : headMay k i c b o l n = false ∨ (d.size : Int) ≠ n) : Ev (fun r => page_Put.f r k i c b o l n d) ([], 3) := by
  have key : Ev (fun r => page_Put.j0 r d true k i c b o l n) (([], 3) : List Int × Int) := by
    refine Ev.step (f := fun _ => some (([], 3) : List Int × Int)) (fun r => ?_) (Ev.now _)
    simp only [page_Put.j0, if_true]
  unfold page_Put.f page_Check.f
  simp only [Option.bind_some]
  by_cases hm : headMay k i c b o l n = true
  · have hs : (d.size : Int) ≠ n := by rcases h with h | h; rw [hm] at h; cases h; exact h
    simp only [hm, if_true]
    rw [show ((d.size : Int) != n) = true by simpa using hs]
    exact key
  · have hm : headMay k i c b o l n = false := by simpa using hm
    simp only [hm, Bool.false_eq_true, if_false]
    exact Ev.congr (fun r => if_neg (by decide)) key
theorem zbits_zero_nat : ∀ n : Nat, n < 256 → zbits (n : Int) = 0 → (n : Int) = 255 := by decide +kernel
theorem zbits_zero (c : Int) (h0 : 0 ≤ c) (h1 : c ≤ 255) (h : zbits c = 0) : c = 255 := by
  obtain ⟨n, rfl⟩ := Int.eq_ofNat_of_zero_le h0
  exact zbits_zero_nat n (by omega) h
theorem zsum_zero : ∀ (l : List Int), isBytes l → zsum l = 0 → l = List.replicate l.length 255
  | [], _, _ => rfl
  | a :: l, hb, h => by
    have ha := hb a (by simp)
    have h1 := zbits_range a
    have h2 := zsum_range l
    have h3 : zsum (a :: l) = zbits a + zsum l := by simp [zsum]
    have e1 := zbits_zero a ha.1 ha.2 (by omega)
    have e2 := zsum_zero l (fun x hx => hb x (by simp [hx])) (by omega)
    rw [List.length_cons, List.replicate_succ, ← e2, e1]
theorem zsum_ones (n : Nat) : zsum (List.replicate n 255) = 0 := by
  induction n with
  | zero => rfl
  | succ n ih =>
    have : zsum (List.replicate (n + 1) 255) = zbits 255 + zsum (List.replicate n 255) := by simp [zsum, List.replicate_succ]
    rw [this, ih]
    decide
theorem blank_ev (l : List Int) (hb : isBytes l) (hl : l.length ≤ 100000) : Ev (fun k => zeros_Blank.f k l) (zsum l == 0) := by
  unfold zeros_Blank.f
  exact Ev.bind (pcount_ev l hb hl) (Ev.now _)
def datL (l : List Int) : List Int := (l.drop 24).take (beNum l 22 2).toNat
def mayL (l : List Int) : Bool := headMay (rd l 0) (rd l 1) (rd l 2) (beNum l 4 8) (beNum l 12 8) (beNum l 20 2) (beNum l 22 2)
def anew (l : List Int) : List Int := pageL (rd l 0) (rd l 1) (rd l 2) (beNum l 4 8) (beNum l 12 8) (beNum l 20 2) (beNum l 22 2) (datL l)
def rightL (l : List Int) : Bool := mayL l && decide (anew l = l)
def cls (l : List Int) : Int := if l.length = 256 then (if l = List.replicate 256 255 then 0 else if rightL l = true then 1 else 2) else 2
theorem num1 (l : List Int) (hb : isBytes l) (hl : l.length = 256) (a : Nat) (ha : a < 256) : numOf l a 1 = rd l a := by
  have h := rd_range l hb a
  unfold numOf beNum
  show (0 * 256 + byteAt l (a + (0 : Nat))) % 4294967296 = _
  rw [show ((a : Int) + ((0 : Nat) : Int)) = (a : Int) by omega]
  have e : byteAt l (a : Int) = rd l a := by
    unfold byteAt
    rw [if_neg (by omega)]
    rfl
  rw [e]
  omega
theorem num2 (l : List Int) (hb : isBytes l) (a : Int) : numOf l a 2 = beNum l a 2 := by
  have h : 0 ≤ beNum l a 2 ∧ beNum l a 2 < 65536 := bePre_range l hb a 2
  unfold numOf
  omega
theorem num_wide (l : List Int) (hb : isBytes l) (a : Int) : 0 ≤ beNum l a 8 := (bePre_range l hb a 8).1
theorem datL_bytes (l : List Int) (hb : isBytes l) : isBytes (datL l) := fun x hx => hb x (List.mem_of_mem_drop (List.mem_of_mem_take hx))
theorem dataOf_bytes (l : List Int) (hb : isBytes l) : isBytes (dataOf l) := fun x hx => hb x (List.mem_of_mem_drop (List.mem_of_mem_take hx))
theorem may_n (l : List Int) (h : mayL l = true) : 0 ≤ beNum l 22 2 ∧ beNum l 22 2 ≤ 228 := (wagtailref15_Put.headMay_range h).2.2.2.2.2.2
theorem datL_len (l : List Int) (hl : l.length = 256) (h : mayL l = true) : ((datL l).length : Int) = beNum l 22 2 := by
  have := may_n l h
  unfold datL
  rw [List.length_take, List.length_drop]
  omega
theorem dataOf_datL (l : List Int) (hb : isBytes l) (h : mayL l = true) : dataOf l = datL l := by
  have := may_n l h
  unfold dataOf datL
  rw [num2 l hb]
  congr 1
  unfold mn
  rw [if_neg (by omega)]
  omega
theorem read_val (l : List Int) (hb : isBytes l) (hl : l.length = 256) : page_read.f l = some (rd l 0, rd l 1, rd l 2, beNum l 4 8, beNum l 12 8, beNum l 20 2, beNum l 22 2, strOfNums (dataOf l)) := by
  unfold page_read.f
  rw [if_pos ⟨hb, hl⟩, num2 l hb, num2 l hb]
  have e0 := num1 l hb hl 0 (by omega)
  have e1 := num1 l hb hl 1 (by omega)
  have e2 := num1 l hb hl 2 (by omega)
  rw [show numOf l 0 1 = rd l 0 from e0, show numOf l 1 1 = rd l 1 from e1, show numOf l 2 1 = rd l 2 from e2]
theorem str_inj {a b : List Int} (ha : isBytes a) (hb : isBytes b) (h : strOfNums a = strOfNums b) : a = b := by
  rw [← wagtailref15_Put.bytesOf_str a ha, h, wagtailref15_Put.bytesOf_str b hb]
theorem toList_inj {a b : ByteArray} (h : a.toList = b.toList) : a = b := by
  rw [ByteArray.toList_eq, ByteArray.toList_eq] at h
  exact ByteArray.ext (Array.ext' h)
theorem class_ev (l : List Int) (hb : isBytes l) (hl : l.length ≤ 100000) : Ev (fun k => page_Class.f k l) (cls l) := by
  unfold page_Class.f cls
  by_cases h : l.length = 256
  · simp only [if_pos h, if_pos (show (l.length : Int) = 256 by omega)]
    refine Ev.bind (blank_ev l hb hl) ?_
    by_cases hz : l = List.replicate 256 255
    · rw [if_pos hz]
      refine Ev.congr (fun k => if_pos ?_) (Ev.now _)
      rw [hz, zsum_ones]
      rfl
    · rw [if_neg hz]
      refine Ev.congr (f := fun k => (page_read.f l).bind fun bt340 => ((page_Put.f k bt340.1 bt340.2.1 bt340.2.2.1 bt340.2.2.2.1 bt340.2.2.2.2.1 bt340.2.2.2.2.2.1 bt340.2.2.2.2.2.2.1 bt340.2.2.2.2.2.2.2).bind fun bt348 => (if bt348.2 = 0 then (if (strOfNums bt348.1).toList = (strOfNums l).toList then (some 1) else (some 2)) else (some 2)))) (fun k => if_neg ?_) ?_
      · intro h2
        have := zsum_zero l hb (by simpa using h2)
        rw [h] at this
        exact hz this
      rw [read_val l hb h]
      simp only [Option.bind_some]
      by_cases hm : mayL l = true
      · have hd := dataOf_datL l hb hm
        have hlen := datL_len l h hm
        have hp := pput_ev (rd l 0) (rd l 1) (rd l 2) (beNum l 4 8) (beNum l 12 8) (beNum l 20 2) (beNum l 22 2) (strOfNums (dataOf l)) hm (num_wide l hb 4) (num_wide l hb 12) (by rw [hd, wagtailref15_Put.str_size]; exact hlen)
        rw [wagtailref15_Put.bytesOf_str _ (dataOf_bytes l hb), hd] at hp
        rw [hd]
        refine Ev.bind hp ?_
        rw [if_pos rfl]
        unfold rightL
        rw [hm, Bool.true_and]
        by_cases he : anew l = l
        · rw [if_pos (decide_eq_true he)]
          refine Ev.congr (fun k => if_pos ?_) (Ev.now _)
          show (strOfNums (anew l)).toList = _
          rw [he]
        · rw [if_neg (show ¬ (decide (anew l = l) = true) by rw [decide_eq_false he]; decide)]
          refine Ev.congr (fun k => if_neg ?_) (Ev.now _)
          intro h2
          exact he (str_inj (page_bytes _ _ _ _ _ _ _ _ (datL_bytes l hb)) hb (toList_inj h2))
      · have hp := pput_bad (rd l 0) (rd l 1) (rd l 2) (beNum l 4 8) (beNum l 12 8) (beNum l 20 2) (beNum l 22 2) (strOfNums (dataOf l)) (.inl (by simpa [mayL] using hm))
        refine Ev.bind hp ?_
        rw [if_neg (show ¬ rightL l = true by unfold rightL; simp [hm])]
        exact Ev.congr (fun k => if_neg (by decide)) (Ev.now _)
  · rw [if_neg h]
    exact Ev.congr (fun k => if_neg (by omega)) (Ev.now _)
def getOf (l : List Int) : Int × Int × Int × Int × Int × Int × Int × ByteArray × Int :=
  if cls l = 0 then (0, 0, 0, 0, 0, 0, 0, (⟨#[]⟩ : ByteArray), 8) else if cls l = 2 then (0, 0, 0, 0, 0, 0, 0, (⟨#[]⟩ : ByteArray), 6) else (rd l 0, rd l 1, rd l 2, beNum l 4 8, beNum l 12 8, beNum l 20 2, beNum l 22 2, strOfNums (datL l), 0)
theorem get_ev (l : List Int) (hb : isBytes l) (hl : l.length ≤ 100000) : Ev (fun k => page_Get.f k l) (getOf l) := by
  unfold page_Get.f
  refine Ev.bind (class_ev l hb hl) ?_
  unfold getOf
  by_cases h0 : cls l = 0
  · simp only [h0, if_true]
    exact Ev.now _
  by_cases h2 : cls l = 2
  · simp only [if_neg h0, if_pos h2]
    exact Ev.now _
  simp only [if_neg h0, if_neg h2]
  have h : l.length = 256 := by
    unfold cls at h2
    by_cases h : l.length = 256
    · exact h
    · rw [if_neg h] at h2
      exact absurd rfl h2
  have hm : mayL l = true := by
    unfold cls at h0 h2
    rw [if_pos h] at h0 h2
    by_cases hz : l = List.replicate 256 255
    · rw [if_pos hz] at h0; exact absurd rfl h0
    · rw [if_neg hz] at h2
      by_cases hr : rightL l = true
      · unfold rightL at hr; simp at hr; exact hr.1
      · rw [if_neg hr] at h2; exact absurd rfl h2
  rw [read_val l hb h, dataOf_datL l hb hm]
  exact Ev.now _
end Go.Proofs.Ytnchdmidaigheaa.PG
namespace Go.Proofs.Ytnchdmidaigheaa.PG
set_option linter.unusedVariables false
open Go.RowKit Go.Proofs.Ytnchdmidaigheaa.Hp Go.Proofs.YtnchdmidaigheaaW.PrintWords Go.Proofs.YtnchdmidaigheaaW.PrintLast
theorem get_calls (l : List Int) (hb : isBytes l) (hl : l.length ≤ 100000) (A : Option Addr) (cp : Nat) (hc : l.length ≤ cp) (r1 r2 r3 r4 r5 r6 r7 : Int) (r8 : ByteArray) (r9 : Int) (h : getOf l = (r1, r2, r3, r4, r5, r6, r7, r8, r9)) (W : World) (hC : Kd.C (Kd.int .u8) W A l.length l) :
    Calls Try.prog 90 #[.slice A l.length cp] W fun e w' => e = .returned (.tuple #[.agg #[.int .i64 r1, .int .i64 r2, .int .i64 r3, .int .u64 r4, .int .u64 r5, .int .i64 r6, .int .i64 r7], .string r8, .int .i64 r9]) ∧ Below W.heap.size W w' := by
  obtain ⟨K, hK⟩ := get_ev l hb hl
  exact page_Get.calls K A cp l r1 r2 r3 r4 r5 r6 r7 r8 r9 W hC hc (by rw [← h]; exact hK K (Nat.le_refl _))
theorem class_calls (l : List Int) (hb : isBytes l) (hl : l.length ≤ 100000) (A : Option Addr) (cp : Nat) (hc : l.length ≤ cp) (r : Int) (h : cls l = r) (W : World) (hC : Kd.C (Kd.int .u8) W A l.length l) :
    Calls Try.prog 91 #[.slice A l.length cp] W fun e w' => e = .returned (.int .i64 r) ∧ Below W.heap.size W w' := by
  obtain ⟨K, hK⟩ := class_ev l hb hl
  exact page_Class.calls K A cp l r W hC hc (by rw [← h]; exact hK K (Nat.le_refl _))
end Go.Proofs.Ytnchdmidaigheaa.PG
namespace Go.Proofs.Ytnchdmidaigheaa.ND
set_option linter.unusedVariables false
set_option linter.unusedSimpArgs false
open Go.RowKit Go.Proofs.Ytnchdmidaigheaa.Hp Go.Proofs.YtnchdmidaigheaaW.PrintWords Go.Proofs.YtnchdmidaigheaaW.PrintLast Go.Proofs.YtnchdmidaigheaaW.PrintMore
abbrev Flt := S65
structure Dv where
  B : Int
  P : Int
  C : Int
  bad : List Int
  pages : List (List Int)
  next : List Int
  wear : List Int
  faults : List Flt
  ops : Int
  down : Bool
def Dv.there (D : Dv) (b : Int) : Bool := decide (b ≥ 0) && decide (b < D.B)
def Dv.here (D : Dv) (b p : Int) : Bool := D.there b && (decide (p ≥ 0) && decide (p < D.P))
def Dv.mark (D : Dv) (b : Int) : Bool := D.bad.any fun x => x == b
def onF (f : Flt) (n : Int) : Bool := f.f0 == n && (f.f1 == 1 || f.f1 == 2)
def Dv.fault (D : Dv) : Int × List Int := match D.faults.find? fun f => onF f D.ops with
  | some f => (f.f1, f.f2)
  | none => (0, [255])
def ended (k : Int) : Int := if k = 1 then 10 else if k = 2 then 9 else 0
def Dv.idx (D : Dv) (b p : Int) : Nat := (b * D.P + p).toNat
def Dv.nextOf (D : Dv) (b : Int) : Int := if D.there b = true then D.next.getD b.toNat 0 else 0
def Dv.progD (D : Dv) (b p : Int) (l : List Int) : Dv := { D with pages := D.pages.set (D.idx b p) (progRow (D.pages.getD (D.idx b p) []) l D.fault.2), next := D.next.set b.toNat (p + 1), ops := wrap64 (D.ops + 1), down := D.fault.1 == 2 }
def Dv.prog (D : Dv) (b p : Int) (l : List Int) : Int × Dv :=
  if D.down = true then (9, D) else if D.here b p = false ∨ l.length ≠ 256 then (3, D) else if D.mark b = true then (12, D) else if D.next.getD b.toNat 0 ≠ p then (11, D) else (ended D.fault.1, D.progD b p l)
def wiped (D : Dv) (b : Int) (m : List Int) : List (List Int) := D.pages.mapIdx fun i x => if b * D.P ≤ (i : Int) ∧ (i : Int) < (b + 1) * D.P then wipeRow x m else x
def Dv.eraseD (D : Dv) (b : Int) : Dv := { D with pages := wiped D b D.fault.2, next := D.next.set b.toNat (if D.fault.1 = 0 then 0 else D.P), wear := D.wear.set b.toNat (wrap64 (D.wear.getD b.toNat 0 + 1)), ops := wrap64 (D.ops + 1), down := D.fault.1 == 2 }
def Dv.erase (D : Dv) (b : Int) : Int × Dv :=
  if D.down = true then (9, D) else if D.there b = false then (3, D) else if D.mark b = true then (12, D) else (ended D.fault.1, D.eraseD b)
def Dv.read (D : Dv) (b p : Int) : List Int × Int := if D.down = true then ([], 9) else if D.here b p = false then ([], 3) else (D.pages.getD (D.idx b p) [], 0)
def Dv.power (D : Dv) : Dv := { D with down := false }
structure Dv.Ok (D : Dv) : Prop where
  b1 : 8 ≤ D.B
  b2 : D.B ≤ 34
  p1 : 4 ≤ D.P
  p2 : D.P ≤ 32
  c1 : 0 ≤ D.C
  c2 : D.C ≤ 8
  pl : (D.pages.length : Int) = D.B * D.P
  pw : ∀ l ∈ D.pages, isBytes l ∧ l.length = 256
  nl : (D.next.length : Int) = D.B
  nr : ∀ n ∈ D.next, 0 ≤ n ∧ n ≤ D.P
  wl : (D.wear.length : Int) = D.B
  wr : ∀ n ∈ D.wear, -9223372036854775808 ≤ n ∧ n ≤ 9223372036854775807
  fl : D.faults.length ≤ 1000
  fm : ∀ f ∈ D.faults, isBytes f.f2 ∧ f.f2.length ≤ 1000
  bl : D.bad.length ≤ 1000
theorem there_iff {D : Dv} {b : Int} : D.there b = true ↔ 0 ≤ b ∧ b < D.B := by unfold Dv.there; simp
theorem here_iff {D : Dv} {b p : Int} : D.here b p = true ↔ (0 ≤ b ∧ b < D.B) ∧ 0 ≤ p ∧ p < D.P := by unfold Dv.here Dv.there; simp
theorem mul_lt_of {a b p P : Int} (ha : 0 ≤ a) (hb : a < b) (hp : 0 ≤ p) (hP : p < P) : 0 ≤ a * P + p ∧ a * P + p < b * P ∧ a * P + p < (a + 1) * P := by
  have h1 : 0 ≤ a * P := Int.mul_nonneg ha (by omega)
  have h2 : (a + 1) * P ≤ b * P := Int.mul_le_mul_of_nonneg_right (by omega) (by omega)
  rw [Int.add_mul, Int.one_mul] at h2
  rw [Int.add_mul, Int.one_mul]
  omega
theorem Dv.Ok.size {D : Dv} (h : D.Ok) : D.B * D.P ≤ 1088 ∧ 32 ≤ D.B * D.P := by
  have h1 : D.B * D.P ≤ 34 * D.P := Int.mul_le_mul_of_nonneg_right h.b2 (by have := h.p1; omega)
  have h2 : 8 * D.P ≤ D.B * D.P := Int.mul_le_mul_of_nonneg_right h.b1 (by have := h.p1; omega)
  have := h.p2
  have := h.p1
  omega
theorem Dv.Ok.idx {D : Dv} (h : D.Ok) {b p : Int} (hh : D.here b p = true) : (D.idx b p : Int) = b * D.P + p ∧ D.idx b p < D.pages.length := by
  obtain ⟨⟨h1, h2⟩, h3, h4⟩ := here_iff.1 hh
  have := mul_lt_of h1 h2 h3 h4
  have := h.pl
  unfold Dv.idx
  omega
theorem fault_mask {D : Dv} (h : D.Ok) : isBytes D.fault.2 ∧ D.fault.2.length ≤ 1000 := by
  unfold Dv.fault
  split
  · rename_i f hf
    exact h.fm f (List.mem_of_find?_eq_some hf)
  · exact ⟨fun x hx => by simp at hx; omega, by simp⟩
theorem fault_kind (D : Dv) : D.fault.1 = 0 ∨ D.fault.1 = 1 ∨ D.fault.1 = 2 := by
  unfold Dv.fault
  split
  · rename_i f hf
    have := List.find?_some hf
    unfold onF at this
    simp only [Bool.and_eq_true, Bool.or_eq_true, beq_iff_eq] at this
    exact .inr this.2
  · exact .inl rfl
theorem progRow_ok {l b m : List Int} (hl : isBytes l) (hn : l.length = 256) : isBytes (progRow l b m) ∧ (progRow l b m).length = 256 := by
  unfold progRow
  refine ⟨fun x hx => ?_, by rw [List.length_map, List.length_range, hn]⟩
  obtain ⟨i, hi, rfl⟩ := List.mem_map.1 hx
  have hr : 0 ≤ l.getD i 0 ∧ l.getD i 0 ≤ 255 := rd_range l hl i
  split
  · unfold progByte
    have : (l.getD i 0).toNat &&& ((b.getD i 0).toNat ||| (255 - (maskAt m i).toNat)) ≤ (l.getD i 0).toNat := Nat.and_le_left
    omega
  · exact hr
theorem wipeRow_ok {l m : List Int} (hl : isBytes l) (hm : isBytes m) (hn : l.length = 256) : isBytes (wipeRow l m) ∧ (wipeRow l m).length = 256 := by
  unfold wipeRow
  refine ⟨fun x hx => ?_, by rw [List.length_map, List.length_range, hn]⟩
  obtain ⟨i, hi, rfl⟩ := List.mem_map.1 hx
  have hr : 0 ≤ l.getD i 0 ∧ l.getD i 0 ≤ 255 := rd_range l hl i
  have hk := maskAt_range m hm i
  have : (l.getD i 0).toNat ||| (maskAt m i).toNat < 2 ^ 8 := Nat.or_lt_two_pow (by omega) (by omega)
  omega
theorem page_ok {D : Dv} (h : D.Ok) {i : Nat} (hi : i < D.pages.length) : isBytes (D.pages.getD i []) ∧ (D.pages.getD i []).length = 256 := by
  rw [List.getD_eq_getElem?_getD, List.getElem?_eq_getElem hi]
  exact h.pw _ (List.getElem_mem hi)
theorem wrap_id {x : Int} (h0 : -1000000 ≤ x) (h1 : x ≤ 1000000) : IntKind.i64.wrap x = x ∧ wrap64 x = x := by
  have e : wrap64 x = x := by unfold wrap64; omega
  exact ⟨by rw [i64_w]; exact e, e⟩
theorem wrap_range (x : Int) : -9223372036854775808 ≤ wrap64 x ∧ wrap64 x ≤ 9223372036854775807 := by unfold wrap64; omega
def newDv (B P C : Int) (bad : List Int) (fs : List Flt) : Dv := ⟨B, P, C, bad, List.replicate (B * P).toNat (List.replicate 256 255), List.replicate B.toNat 0, List.replicate B.toNat 0, fs, 0, false⟩
def rightG (B P C : Int) : Bool := within B 8 34 && (within P 4 32 && within C 0 8)
theorem newDv_ok {B P C : Int} (hg : rightG B P C = true) {bad : List Int} {fs : List Flt} (h1 : bad.length ≤ 1000) (h2 : fs.length ≤ 1000) (h3 : ∀ f ∈ fs, isBytes f.f2 ∧ f.f2.length ≤ 1000) : (newDv B P C bad fs).Ok := by
  unfold rightG within at hg
  simp only [Bool.and_eq_true, decide_eq_true_eq] at hg
  obtain ⟨⟨hb1, hb2⟩, ⟨hp1, hp2⟩, hc1, hc2⟩ := hg
  have hn : 0 ≤ B * P := Int.mul_nonneg (by omega) (by omega)
  exact {
    b1 := hb1, b2 := hb2, p1 := hp1, p2 := hp2, c1 := hc1, c2 := hc2
    pl := by show ((List.replicate (B * P).toNat _).length : Int) = B * P; rw [List.length_replicate]; omega
    pw := fun x hx => by
      obtain ⟨_, rfl⟩ := List.mem_replicate.1 hx
      exact ⟨fun y hy => by obtain ⟨_, rfl⟩ := List.mem_replicate.1 hy; omega, List.length_replicate⟩
    nl := by show ((List.replicate B.toNat _).length : Int) = B; rw [List.length_replicate]; omega
    nr := fun x hx => by obtain ⟨_, rfl⟩ := List.mem_replicate.1 hx; show (0 : Int) ≤ 0 ∧ 0 ≤ P; omega
    wl := by show ((List.replicate B.toNat _).length : Int) = B; rw [List.length_replicate]; omega
    wr := fun x hx => by obtain ⟨_, rfl⟩ := List.mem_replicate.1 hx; omega
    fl := h2, fm := h3, bl := h1 }
end Go.Proofs.Ytnchdmidaigheaa.ND
namespace Go.Proofs.Ytnchdmidaigheaa.ND
set_option linter.unusedVariables false
set_option linter.unusedSimpArgs false
open Go.RowKit Go.Proofs.Ytnchdmidaigheaa.Hp Go.Proofs.YtnchdmidaigheaaW.PrintWords Go.Proofs.YtnchdmidaigheaaW.PrintLast Go.Proofs.YtnchdmidaigheaaW.PrintMore
structure Turn (w W : World) (S : Nat → Prop) : Prop where
  os : W.os = w.os
  tape : W.tape = w.tape
  output : W.output = w.output
  size : w.heap.size ≤ W.heap.size
  block : ∀ k, k < w.heap.size → ¬ S k → W.heap[k]? = w.heap[k]?
theorem Turn.refl (w : World) (S : Nat → Prop) : Turn w w S := ⟨rfl, rfl, rfl, Nat.le_refl _, fun _ _ _ => rfl⟩
theorem Turn.of_below {w W : World} (h : Below w.heap.size w W) (S : Nat → Prop) : Turn w W S := ⟨h.os, h.tape, h.output, h.size, fun k hk _ => h.block k hk⟩
theorem Turn.mono {w W : World} {S S' : Nat → Prop} (h : Turn w W S) (hs : ∀ k, S k → S' k) : Turn w W S' := ⟨h.os, h.tape, h.output, h.size, fun k hk hn => h.block k hk (fun hS => hn (hs k hS))⟩
theorem Turn.trans {w W W2 : World} {S S2 : Nat → Prop} (h : Turn w W S) (k : Turn W W2 S2) (hs : ∀ k, S2 k → S k ∨ w.heap.size ≤ k) : Turn w W2 S :=
  ⟨k.os.trans h.os, k.tape.trans h.tape, k.output.trans h.output, Nat.le_trans h.size k.size, fun i hi hn => (k.block i (Nat.lt_of_lt_of_le hi h.size) (fun hS => by rcases hs i hS with h' | h'; exact hn h'; omega)).trans (h.block i hi hn)⟩
theorem Turn.below {w W W2 : World} {S : Nat → Prop} (h : Turn w W S) (hb : Below W.heap.size W W2) : Turn w W2 S := h.trans (Turn.of_below hb (fun _ => False)) (fun _ hk => hk.elim)
theorem Turn.grown {w W W2 : World} {S : Nat → Prop} {row : Option Nat} (h : Turn w W S) (hg : W.grownBy W2 row) (hr : ∀ k, row = some k → S k ∨ w.heap.size ≤ k) : Turn w W2 S :=
  h.trans (S2 := fun k => row = some k) ⟨hg.os, hg.tape, hg.output, hg.size, fun k hk hn => hg.block k hk (fun e => hn e.symm)⟩ (fun k hk => hr k hk)
theorem Turn.alloc {w W : World} {S : Nat → Prop} (h : Turn w W S) (o : Obj) : Turn w (W.alloc o) S := h.below (below_alloc (Below.refl _ _) o)
theorem Turn.setCell {w W : World} {S : Nat → Prop} (h : Turn w W S) {p : Addr} (hp : S p.block ∨ w.heap.size ≤ p.block) (u : Value) : Turn w (W.setCell p u) S :=
  h.trans (S2 := fun k => k = p.block) ⟨rfl, rfl, rfl, by simp, fun k _ hk => Below.heap_setCell W p u k hk⟩ (fun k hk => by rw [hk]; exact hp)
theorem Turn.to_below {w W w0 : World} {S : Nat → Prop} {B : Nat} (h : Turn w W S) (h0 : Below B w0 w) (hB : B ≤ w.heap.size) (hS : ∀ k, S k → B ≤ k) : Below B w0 W :=
  ⟨h.os.trans h0.os, h.tape.trans h0.tape, h.output.trans h0.output, Nat.le_trans h0.size h.size, fun k hk => (h.block k (Nat.lt_of_lt_of_le hk hB) (fun hs => by have := hS k hs; omega)).trans (h0.block k hk)⟩
theorem blk_turn {w W : World} {S : Nat → Prop} {g : Nat} {o : Obj} (hb : w.heap[g]? = some o) (h : Turn w W S) (hne : ¬ S g) : W.heap[g]? = some o := (h.block g (blk_lt hb) hne).trans hb
theorem F_turn {α : Type} {d : Kd α} {w W : World} {ok S : Nat → Prop} {A : Option Addr} {n : Nat} {xs : List α} (h : Kd.F d w ok A n xs) (ht : Turn w W S) (hne : ∀ k, ok k → k < w.heap.size → ¬ S k) : Kd.F d W ok A n xs := Kd.F_step h (fun k hk hlt => ht.block k hlt (hne k hk hlt))
def Cells (W : World) (g T : Nat) (vs : List Value) : Prop := ∃ cs : Array Value, W.heap[g]? = some (.cells cs T (0, 0)) ∧ ∀ (j : Nat) (v : Value), vs[j]? = some v → cs[j]? = some v
section
variable {W W' : World} {g T : Nat} {vs : List Value}
theorem Cells.mk' {cs : Array Value} (h : W.heap[g]? = some (.cells cs T (0, 0))) : Cells W g T cs.toList := ⟨cs, h, fun j v hv => by rwa [Array.getElem?_toList] at hv⟩
theorem Cells.lt (h : Cells W g T vs) : g < W.heap.size := by obtain ⟨cs, h, _⟩ := h; exact blk_lt h
theorem Cells.cell (h : Cells W g T vs) {i : Nat} {v : Value} (hv : vs[i]? = some v) : W.cell? ⟨g, i, none⟩ = some v := by
  obtain ⟨cs, h, hc⟩ := h
  rw [blk_cell h]
  exact hc i v hv
theorem Cells.frozen (h : Cells W g T vs) (i : Nat) : W.frozen? ⟨g, i, none⟩ = false := by obtain ⟨cs, h, _⟩ := h; exact blk_frozen h i
theorem Cells.same (h : Cells W g T vs) (he : W'.heap[g]? = W.heap[g]?) : Cells W' g T vs := by obtain ⟨cs, h, hc⟩ := h; exact ⟨cs, he.trans h, hc⟩
theorem Cells.below (h : Cells W g T vs) (hb : Below W.heap.size W W') : Cells W' g T vs := h.same (hb.block g h.lt)
theorem Cells.turn {S : Nat → Prop} (h : Cells W g T vs) (ht : Turn W W' S) (hne : ¬ S g) : Cells W' g T vs := h.same (ht.block g h.lt hne)
theorem Cells.far (h : Cells W g T vs) {p : Addr} (hne : g ≠ p.block) (u : Value) : Cells (W.setCell p u) g T vs := h.same (Below.heap_setCell W p u g hne)
theorem Cells.set (h : Cells W g T vs) (i : Nat) (u : Value) : Cells (W.setCell ⟨g, i, none⟩ u) g T (vs.set i u) := by
  obtain ⟨cs, h, hc⟩ := h
  refine ⟨_, blk_set h i u, fun j v hv => ?_⟩
  rw [List.getElem?_set] at hv
  rw [Array.getElem?_setIfInBounds]
  by_cases hij : i = j
  · subst hij
    rw [if_pos rfl] at hv
    by_cases hl : i < vs.length
    · rw [if_pos hl] at hv
      have hs := hc i _ (List.getElem?_eq_getElem hl)
      rw [if_pos rfl, if_pos (Array.getElem?_eq_some_iff.1 hs).1]
      exact hv
    · rw [if_neg hl] at hv; cases hv
  · rw [if_neg hij] at hv ⊢
    exact hc j v hv
theorem Cells.of_own {base n c : Nat} (h : W.ownsRow base T 1 (.slice (some ⟨g, 0, none⟩) n c) n vs) : Cells W g T vs := by
  rcases h.2 with ⟨h', _⟩ | ⟨g', cap', cur, h', _, hg, _, _, _, htake⟩
  · simp at h'
  · simp only [Value.slice.injEq, Option.some.injEq, Addr.mk.injEq, and_true, true_and] at h'
    obtain ⟨rfl, rfl⟩ := h'
    refine ⟨cur, hg, fun j v hv => ?_⟩
    rw [← htake, List.getElem?_take] at hv
    split at hv
    · rwa [Array.getElem?_toList] at hv
    · cases hv
end
end Go.Proofs.Ytnchdmidaigheaa.ND
namespace Go.Proofs.Ytnchdmidaigheaa.ND
set_option linter.unusedVariables false
set_option linter.unusedSimpArgs false
open Go.RowKit Go.Proofs.Ytnchdmidaigheaa.Hp Go.Proofs.YtnchdmidaigheaaW.PrintWords Go.Proofs.YtnchdmidaigheaaW.PrintLast Go.Proofs.YtnchdmidaigheaaW.PrintMore
structure Lay where
  g : Nat
  gm : Nat
  gp : Nat
  gn : Nat
  gw : Nat
  cm : Nat
  cp : Nat
  cn : Nat
  cw : Nat
  Af : Option Addr
  cf : Nat
def Lay.S (L : Lay) (k : Nat) : Prop := k = L.g ∨ k = L.gp ∨ k = L.gn ∨ k = L.gw
def Pages (W : World) (ok : Nat → Prop) (vs : List Value) (pages : List (List Int)) : Prop := vs.length = pages.length ∧ ∀ (i : Nat) (v : Value) (l : List Int), vs[i]? = some v → pages[i]? = some l → ∃ A c, v = .slice A 256 c ∧ 256 ≤ c ∧ Kd.F (Kd.int .u8) W ok A 256 l
def marks (D : Dv) : List Value := (List.range D.B.toNat).map fun (i : Nat) => .bool (D.mark (i : Int))
theorem marks_len (D : Dv) : (marks D).length = D.B.toNat := by unfold marks; rw [List.length_map, List.length_range]
def Lay.top (L : Lay) (D : Dv) : Array Value := #[.int .i64 D.B, .int .i64 D.P, .int .i64 D.C, .slice (some ⟨L.gm, 0, none⟩) (marks D).length L.cm, .slice (some ⟨L.gp, 0, none⟩) D.pages.length L.cp, .slice (some ⟨L.gn, 0, none⟩) D.next.length L.cn, .slice (some ⟨L.gw, 0, none⟩) D.wear.length L.cw, .slice L.Af D.faults.length L.cf, .int .i64 D.ops, .bool D.down]
structure DV (W : World) (ok : Nat → Prop) (L : Lay) (D : Dv) : Prop where
  top : W.heap[L.g]? = some (.cells (L.top D) 109 (0, 0))
  nx : Cells W L.gn 3 (D.next.map (Value.int .i64))
  we : Cells W L.gw 3 (D.wear.map (Value.int .i64))
  pg : ∃ vs, Cells W L.gp 38 vs ∧ Pages W ok vs D.pages
  mb : Cells W L.gm 4 (marks D)
  fl : Kd.F k65 W ok L.Af D.faults.length D.faults ∧ D.faults.length ≤ L.cf
  ne : L.gp ≠ L.g ∧ L.gn ≠ L.g ∧ L.gw ≠ L.g ∧ L.gp ≠ L.gn ∧ L.gp ≠ L.gw ∧ L.gn ≠ L.gw
  nm : ¬ L.S L.gm
  no : ∀ k, ok k → k < W.heap.size → ¬ L.S k
  ok : D.Ok
def Lay.all (L : Lay) (ok : Nat → Prop) (k : Nat) : Prop := ok k ∨ L.S k ∨ k = L.gm
theorem Pages.step {W W' : World} {ok : Nat → Prop} {vs : List Value} {pages : List (List Int)} (h : Pages W ok vs pages) (hm : ∀ k, ok k → k < W.heap.size → W'.heap[k]? = W.heap[k]?) : Pages W' ok vs pages :=
  ⟨h.1, fun i v l hv hl => by obtain ⟨A, c, h1, h2, h3⟩ := h.2 i v l hv hl; exact ⟨A, c, h1, h2, Kd.F_step h3 hm⟩⟩
theorem Pages.mono {W : World} {ok ok' : Nat → Prop} {vs : List Value} {pages : List (List Int)} (h : Pages W ok vs pages) (ho : ∀ k, ok k → ok' k) : Pages W ok' vs pages :=
  ⟨h.1, fun i v l hv hl => by obtain ⟨A, c, h1, h2, h3⟩ := h.2 i v l hv hl; exact ⟨A, c, h1, h2, Kd.F_mono h3 ho⟩⟩
theorem Pages.bound {W : World} {ok : Nat → Prop} {vs : List Value} {pages : List (List Int)} (h : Pages W ok vs pages) : Pages W (fun k => ok k ∧ k < W.heap.size) vs pages :=
  ⟨h.1, fun i v l hv hl => by obtain ⟨A, c, h1, h2, h3⟩ := h.2 i v l hv hl; exact ⟨A, c, h1, h2, Kd.F_bound h3⟩⟩
theorem Pages.set {W : World} {ok : Nat → Prop} {vs : List Value} {pages : List (List Int)} (h : Pages W ok vs pages) (i : Nat) {A : Option Addr} {c : Nat} {l : List Int} (hc : 256 ≤ c) (hF : Kd.F (Kd.int .u8) W ok A 256 l) : Pages W ok (vs.set i (.slice A 256 c)) (pages.set i l) := by
  refine ⟨by rw [List.length_set, List.length_set]; exact h.1, fun j v x hv hx => ?_⟩
  rw [List.getElem?_set] at hv hx
  by_cases hij : i = j
  · subst hij
    rw [if_pos rfl] at hv hx
    have hl : i < vs.length := by
      by_cases hl : i < vs.length
      · exact hl
      · rw [if_neg hl] at hv; cases hv
    rw [if_pos hl] at hv
    rw [if_pos (by have := h.1; omega)] at hx
    obtain rfl := Option.some.inj hv
    obtain rfl := Option.some.inj hx
    exact ⟨A, c, rfl, hc, hF⟩
  · rw [if_neg hij] at hv hx
    exact h.2 j v x hv hx
section
variable {W W' : World} {ok : Nat → Prop} {L : Lay} {D : Dv}
theorem DV.step (h : DV W ok L D) (hs : W.heap.size ≤ W'.heap.size) (hm : ∀ k, L.all ok k → k < W.heap.size → W'.heap[k]? = W.heap[k]?) (hn : ∀ k, ok k → k < W'.heap.size → ¬ L.S k) : DV W' ok L D where
  top := (hm _ (.inr (.inl (.inl rfl))) (blk_lt h.top)).trans h.top
  nx := h.nx.same (hm _ (.inr (.inl (.inr (.inr (.inl rfl))))) h.nx.lt)
  we := h.we.same (hm _ (.inr (.inl (.inr (.inr (.inr rfl))))) h.we.lt)
  pg := by
    obtain ⟨vs, h1, h2⟩ := h.pg
    exact ⟨vs, h1.same (hm _ (.inr (.inl (.inr (.inl rfl)))) h1.lt), h2.step (fun k hk hl => hm k (.inl hk) hl)⟩
  mb := h.mb.same (hm _ (.inr (.inr rfl)) h.mb.lt)
  fl := ⟨Kd.F_step h.fl.1 (fun k hk hl => hm k (.inl hk) hl), h.fl.2⟩
  ne := h.ne
  nm := h.nm
  no := hn
  ok := h.ok
theorem DV.lt (h : DV W ok L D) : ∀ k, L.S k → k < W.heap.size := by
  rintro k (rfl | rfl | rfl | rfl)
  · exact blk_lt h.top
  · obtain ⟨vs, h1, _⟩ := h.pg; exact h1.lt
  · exact h.nx.lt
  · exact h.we.lt
theorem DV.turn {S : Nat → Prop} (h : DV W ok L D) (ht : Turn W W' S) (hS : ∀ k, L.all ok k → k < W.heap.size → ¬ S k) : DV W' ok L D :=
  h.step ht.size (fun k hk hl => ht.block k hl (hS k hk hl)) (fun k hk _ hS' => h.no k hk (h.lt k hS') hS')
theorem DV.below (h : DV W ok L D) (hb : Below W.heap.size W W') : DV W' ok L D := h.turn (Turn.of_below hb (fun _ => False)) (fun _ _ _ hf => hf)
theorem DV.mono {ok' : Nat → Prop} (h : DV W ok L D) (ho : ∀ k, ok k → ok' k) (hn : ∀ k, ok' k → k < W.heap.size → ¬ L.S k) : DV W ok' L D where
  top := h.top
  nx := h.nx
  we := h.we
  pg := by obtain ⟨vs, h1, h2⟩ := h.pg; exact ⟨vs, h1, h2.mono ho⟩
  mb := h.mb
  fl := ⟨Kd.F_mono h.fl.1 ho, h.fl.2⟩
  ne := h.ne
  nm := h.nm
  no := hn
  ok := h.ok
theorem DV.bound (h : DV W ok L D) : DV W (fun k => ok k ∧ k < W.heap.size) L D where
  top := h.top
  nx := h.nx
  we := h.we
  pg := by obtain ⟨vs, h1, h2⟩ := h.pg; exact ⟨vs, h1, h2.bound⟩
  mb := h.mb
  fl := ⟨Kd.F_bound h.fl.1, h.fl.2⟩
  ne := h.ne
  nm := h.nm
  no := fun k hk hl => h.no k hk.1 hl
  ok := h.ok
end
def newer (W : World) (ok : Nat → Prop) (k : Nat) : Prop := ok k ∨ W.heap.size ≤ k
end Go.Proofs.Ytnchdmidaigheaa.ND
namespace Go.Proofs.Ytnchdmidaigheaa.ND
set_option linter.unusedVariables false
set_option linter.unusedSimpArgs false
open Go.RowKit Go.Proofs.Ytnchdmidaigheaa.Hp Go.Proofs.YtnchdmidaigheaaW.PrintWords Go.Proofs.YtnchdmidaigheaaW.PrintLast Go.Proofs.YtnchdmidaigheaaW.PrintMore
theorem top_cells {W : World} {ok : Nat → Prop} {L : Lay} {D : Dv} (h : DV W ok L D) :
    W.cell? ⟨L.g, 0, none⟩ = some (.int .i64 D.B) ∧ W.cell? ⟨L.g, 1, none⟩ = some (.int .i64 D.P) ∧ W.cell? ⟨L.g, 2, none⟩ = some (.int .i64 D.C) ∧ W.cell? ⟨L.g, 3, none⟩ = some (.slice (some ⟨L.gm, 0, none⟩) (marks D).length L.cm) ∧
    W.cell? ⟨L.g, 4, none⟩ = some (.slice (some ⟨L.gp, 0, none⟩) D.pages.length L.cp) ∧ W.cell? ⟨L.g, 5, none⟩ = some (.slice (some ⟨L.gn, 0, none⟩) D.next.length L.cn) ∧ W.cell? ⟨L.g, 6, none⟩ = some (.slice (some ⟨L.gw, 0, none⟩) D.wear.length L.cw) ∧
    W.cell? ⟨L.g, 7, none⟩ = some (.slice L.Af D.faults.length L.cf) ∧ W.cell? ⟨L.g, 8, none⟩ = some (.int .i64 D.ops) ∧ W.cell? ⟨L.g, 9, none⟩ = some (.bool D.down) :=
  ⟨blk_cell h.top 0, blk_cell h.top 1, blk_cell h.top 2, blk_cell h.top 3, blk_cell h.top 4, blk_cell h.top 5, blk_cell h.top 6, blk_cell h.top 7, blk_cell h.top 8, blk_cell h.top 9⟩
set_option maxHeartbeats 1000000 in
set_option maxRecDepth 100000 in
theorem there_calls {W : World} {ok : Nat → Prop} {L : Lay} {D : Dv} (h : DV W ok L D) (b : Int) :
    Calls Try.prog 62 #[.pointer (some ⟨L.g, 0, none⟩), .int .i64 b] W fun e w' => e = .returned (.bool (D.there b)) ∧ Below W.heap.size W w' := by
  obtain ⟨c0, -⟩ := top_cells h
  clear h
  obtain ⟨t, ht⟩ : ∃ t, t = D.there b := ⟨_, rfl⟩
  rw [← ht]
  unfold Dv.there at ht
  generalize L.g = g at c0 ⊢
  have B0 := Aside0.mk (Below.refl W.heap.size W)
  cases hb : decide (b ≥ 0) with
  | false =>
    rw [hb] at ht
    subst ht
    go_enter Try.func62, Try.ntmps62
    go_wp2_with fail
    go_ret
    exact ⟨rfl, B0.out⟩
  | true =>
    rw [hb, Bool.true_and] at ht
    rw [ht]
    clear ht
    go_enter Try.func62, Try.ntmps62
    go_wp2_with fail
    go_ret
    exact ⟨rfl, B0.out⟩
theorem marks_at {D : Dv} {n : Nat} (h : (n : Int) < D.B) : (marks D)[n]? = some (.bool (D.mark (n : Int))) := by
  unfold marks
  rw [List.getElem?_map, List.getElem?_range (by omega)]
  rfl
theorem ints_at {l : List Int} {n : Nat} (h : n < l.length) : (l.map (Value.int .i64))[n]? = some (.int .i64 (l.getD n 0)) := by
  rw [List.getElem?_map, List.getD_eq_getElem?_getD, List.getElem?_eq_getElem h]
  rfl
set_option maxHeartbeats 1000000 in
set_option maxRecDepth 100000 in
theorem marked_calls {W : World} {ok : Nat → Prop} {L : Lay} {D : Dv} (h : DV W ok L D) (b : Int) :
    Calls Try.prog 30 #[.pointer (some ⟨L.g, 0, none⟩), .int .i64 b] W fun e w' => e = .returned (.bool (D.there b && D.mark b)) ∧ Below W.heap.size W w' := by
  have HT := Aside0.mk (there_calls h b)
  have H := Aside0.mk h
  clear h
  cases hb : D.there b with
  | false =>
    rw [hb] at HT
    rw [Bool.false_and]
    clear hb
    go_enter Try.func30, Try.ntmps30
    go_wp2_with (go_at_call 62; refine HT.out.mono ?_; rintro e w2 ⟨rfl, hb⟩; have B0 := Aside0.mk hb; clear hb)
    go_ret
    exact ⟨rfl, B0.out⟩
  | true =>
    rw [hb] at HT
    obtain ⟨h0, h1⟩ := there_iff.1 hb
    obtain ⟨n, rfl⟩ := Int.eq_ofNat_of_zero_le h0
    have p1 := eq_true h0
    have q1 := eq_true (show (n : Int) < (((marks D).length : Nat) : Int) by rw [marks_len]; omega)
    rw [Bool.true_and]
    have H1 := Aside0.mk h1
    clear hb h0 h1
    go_enter Try.func30, Try.ntmps30
    go_wp2_with (go_at_call 62; refine HT.out.mono ?_; rintro e w2 ⟨rfl, hb⟩; have B0 := Aside0.mk hb; have c3 := (top_cells (H.out.below hb)).2.2.2.1; have ce := (H.out.below hb).mb.cell (marks_at H1.out); clear hb)
    go_ret
    exact ⟨rfl, B0.out⟩
set_option maxHeartbeats 1000000 in
set_option maxRecDepth 100000 in
theorem down_calls {W : World} {ok : Nat → Prop} {L : Lay} {D : Dv} (h : DV W ok L D) :
    Calls Try.prog 29 #[.pointer (some ⟨L.g, 0, none⟩)] W fun e w' => e = .returned (.bool D.down) ∧ Below W.heap.size W w' := by
  have c9 := (top_cells h).2.2.2.2.2.2.2.2.2
  have B0 := Aside0.mk (Below.refl W.heap.size W)
  clear h
  go_enter Try.func29, Try.ntmps29
  go_wp2_with fail
  go_ret
  exact ⟨rfl, B0.out⟩
set_option maxHeartbeats 1000000 in
set_option maxRecDepth 100000 in
theorem up_calls {W : World} {ok : Nat → Prop} {L : Lay} {D : Dv} (h : DV W ok L D) :
    Calls Try.prog 63 #[.pointer (some ⟨L.g, 0, none⟩)] W fun e w' => e = .returned (.int .i64 (if D.down = true then 9 else 0)) ∧ Below W.heap.size W w' := by
  have c9 := (top_cells h).2.2.2.2.2.2.2.2.2
  have B0 := Aside0.mk (Below.refl W.heap.size W)
  clear h
  cases hd : D.down with
  | true =>
    rw [hd] at c9
    clear hd
    go_enter Try.func63, Try.ntmps63
    go_wp2_with fail
    go_ret
    exact ⟨rfl, B0.out⟩
  | false =>
    rw [hd] at c9
    clear hd
    go_enter Try.func63, Try.ntmps63
    go_wp2_with fail
    go_ret
    exact ⟨rfl, B0.out⟩
end Go.Proofs.Ytnchdmidaigheaa.ND
namespace Go.Proofs.Ytnchdmidaigheaa.ND
set_option linter.unusedVariables false
set_option linter.unusedSimpArgs false
open Go.RowKit Go.Proofs.Ytnchdmidaigheaa.Hp Go.Proofs.YtnchdmidaigheaaW.PrintWords Go.Proofs.YtnchdmidaigheaaW.PrintLast Go.Proofs.YtnchdmidaigheaaW.PrintMore
section
variable {W : World} {ok : Nat → Prop} {L : Lay} {D : Dv}
theorem DV.ro (h : DV W ok L D) {p : Addr} (hp : L.S p.block) (u : Value) : ∀ k, ok k → k < W.heap.size → (W.setCell p u).heap[k]? = W.heap[k]? := fun k hk hl => Below.heap_setCell W p u k (fun e => h.no k hk hl (e ▸ hp))
theorem gm_ne (h : DV W ok L D) : L.gm ≠ L.g ∧ L.gm ≠ L.gp ∧ L.gm ≠ L.gn ∧ L.gm ≠ L.gw := ⟨fun e => h.nm (.inl e), fun e => h.nm (.inr (.inl e)), fun e => h.nm (.inr (.inr (.inl e))), fun e => h.nm (.inr (.inr (.inr e)))⟩
theorem DV.set_down (h : DV W ok L D) (x : Bool) : DV (W.setCell ⟨L.g, 9, none⟩ (.bool x)) ok L { D with down := x } where
  top := blk_put h.top 9 (.bool x) rfl
  nx := h.nx.far h.ne.2.1 _
  we := h.we.far h.ne.2.2.1 _
  pg := by obtain ⟨vs, h1, h2⟩ := h.pg; exact ⟨vs, h1.far h.ne.1 _, h2.step (h.ro (.inl rfl) _)⟩
  mb := h.mb.far (gm_ne h).1 _
  fl := ⟨Kd.F_step h.fl.1 (h.ro (.inl rfl) _), h.fl.2⟩
  ne := h.ne
  nm := h.nm
  no := fun k hk hl => h.no k hk (by simpa using hl)
  ok := { h.ok with }
theorem DV.set_ops (h : DV W ok L D) (x : Int) : DV (W.setCell ⟨L.g, 8, none⟩ (.int .i64 x)) ok L { D with ops := x } where
  top := blk_put h.top 8 (.int .i64 x) rfl
  nx := h.nx.far h.ne.2.1 _
  we := h.we.far h.ne.2.2.1 _
  pg := by obtain ⟨vs, h1, h2⟩ := h.pg; exact ⟨vs, h1.far h.ne.1 _, h2.step (h.ro (.inl rfl) _)⟩
  mb := h.mb.far (gm_ne h).1 _
  fl := ⟨Kd.F_step h.fl.1 (h.ro (.inl rfl) _), h.fl.2⟩
  ne := h.ne
  nm := h.nm
  no := fun k hk hl => h.no k hk (by simpa using hl)
  ok := { h.ok with }
theorem DV.set_next (h : DV W ok L D) (n : Nat) (x : Int) (hx : 0 ≤ x ∧ x ≤ D.P) : DV (W.setCell ⟨L.gn, n, none⟩ (.int .i64 x)) ok L { D with next := D.next.set n x } where
  top := by
    have := blk_far h.top (p := ⟨L.gn, n, none⟩) h.ne.2.1.symm (.int .i64 x)
    rw [this]
    unfold Lay.top
    simp only [List.length_set]
    rfl
  nx := by
    have := h.nx.set n (.int .i64 x)
    rwa [← List.map_set] at this
  we := h.we.far (p := ⟨L.gn, n, none⟩) h.ne.2.2.2.2.2.symm _
  pg := by obtain ⟨vs, h1, h2⟩ := h.pg; exact ⟨vs, h1.far (p := ⟨L.gn, n, none⟩) h.ne.2.2.2.1 _, h2.step (h.ro (.inr (.inr (.inl rfl))) _)⟩
  mb := h.mb.far (p := ⟨L.gn, n, none⟩) (gm_ne h).2.2.1 _
  fl := ⟨Kd.F_step h.fl.1 (h.ro (.inr (.inr (.inl rfl))) _), h.fl.2⟩
  ne := h.ne
  nm := h.nm
  no := fun k hk hl => h.no k hk (by simpa using hl)
  ok := { h.ok with
    nl := by show ((D.next.set _ _).length : Int) = _; rw [List.length_set]; exact h.ok.nl
    nr := fun y hy => by
      rcases List.mem_or_eq_of_mem_set hy with h' | h'
      · exact h.ok.nr y h'
      · rw [h']; exact hx }
theorem DV.set_wear (h : DV W ok L D) (n : Nat) (x : Int) (hx : -9223372036854775808 ≤ x ∧ x ≤ 9223372036854775807) : DV (W.setCell ⟨L.gw, n, none⟩ (.int .i64 x)) ok L { D with wear := D.wear.set n x } where
  top := by
    have := blk_far h.top (p := ⟨L.gw, n, none⟩) h.ne.2.2.1.symm (.int .i64 x)
    rw [this]
    unfold Lay.top
    simp only [List.length_set]
    rfl
  nx := h.nx.far (p := ⟨L.gw, n, none⟩) h.ne.2.2.2.2.2 _
  we := by
    have := h.we.set n (.int .i64 x)
    rwa [← List.map_set] at this
  pg := by obtain ⟨vs, h1, h2⟩ := h.pg; exact ⟨vs, h1.far (p := ⟨L.gw, n, none⟩) h.ne.2.2.2.2.1 _, h2.step (h.ro (.inr (.inr (.inr rfl))) _)⟩
  mb := h.mb.far (p := ⟨L.gw, n, none⟩) (gm_ne h).2.2.2 _
  fl := ⟨Kd.F_step h.fl.1 (h.ro (.inr (.inr (.inr rfl))) _), h.fl.2⟩
  ne := h.ne
  nm := h.nm
  no := fun k hk hl => h.no k hk (by simpa using hl)
  ok := { h.ok with
    wl := by show ((D.wear.set _ _).length : Int) = _; rw [List.length_set]; exact h.ok.wl
    wr := fun y hy => by
      rcases List.mem_or_eq_of_mem_set hy with h' | h'
      · exact h.ok.wr y h'
      · rw [h']; exact hx }
theorem DV.set_page (h : DV W ok L D) (n : Nat) {A : Option Addr} {c : Nat} {l : List Int} (hc : 256 ≤ c) (hF : Kd.F (Kd.int .u8) W ok A 256 l) (hl : isBytes l ∧ l.length = 256) : DV (W.setCell ⟨L.gp, n, none⟩ (.slice A 256 c)) ok L { D with pages := D.pages.set n l } where
  top := by
    have := blk_far h.top (p := ⟨L.gp, n, none⟩) h.ne.1.symm (.slice A 256 c)
    rw [this]
    unfold Lay.top
    simp only [List.length_set]
    rfl
  nx := h.nx.far (p := ⟨L.gp, n, none⟩) h.ne.2.2.2.1.symm _
  we := h.we.far (p := ⟨L.gp, n, none⟩) h.ne.2.2.2.2.1.symm _
  pg := by
    obtain ⟨vs, h1, h2⟩ := h.pg
    exact ⟨_, h1.set n _, (h2.set n hc hF).step (h.ro (.inr (.inl rfl)) _)⟩
  mb := h.mb.far (p := ⟨L.gp, n, none⟩) (gm_ne h).2.1 _
  fl := ⟨Kd.F_step h.fl.1 (h.ro (.inr (.inl rfl)) _), h.fl.2⟩
  ne := h.ne
  nm := h.nm
  no := fun k hk hl => h.no k hk (by simpa using hl)
  ok := { h.ok with
    pl := by show ((D.pages.set _ _).length : Int) = _; rw [List.length_set]; exact h.ok.pl
    pw := fun y hy => by
      rcases List.mem_or_eq_of_mem_set hy with h' | h'
      · exact h.ok.pw y h'
      · rw [h']; exact hl }
end
set_option maxHeartbeats 1000000 in
set_option maxRecDepth 100000 in
theorem end_calls {W : World} {ok : Nat → Prop} {L : Lay} {D : Dv} (h : DV W ok L D) (hd : D.down = false) (k : Int) (hk : k = 0 ∨ k = 1 ∨ k = 2) :
    Calls Try.prog 68 #[.pointer (some ⟨L.g, 0, none⟩), .int .i64 k] W fun e w' => e = .returned (.int .i64 (ended k)) ∧ DV w' ok L { D with down := k == 2 } ∧ Turn W w' L.S := by
  have HS : Aside0 (D = { D with down := false }) := ⟨by rw [← hd]⟩
  rcases hk with rfl | rfl | rfl
  · have H := Aside0.mk h
    have HT := Aside0.mk (Turn.refl W L.S)
    clear h hd
    go_enter Try.func68, Try.ntmps68
    go_wp2_with fail
    go_ret
    exact ⟨rfl, HS.out ▸ H.out, HT.out⟩
  · have H := Aside0.mk h
    have HT := Aside0.mk (Turn.refl W L.S)
    clear h hd
    go_enter Try.func68, Try.ntmps68
    go_wp2_with fail
    go_ret
    exact ⟨rfl, HS.out ▸ H.out, HT.out⟩
  · have HD := Aside0.mk (h.set_down true)
    have HT := Aside0.mk ((Turn.refl W L.S).setCell (p := ⟨L.g, 9, none⟩) (.inl (.inl rfl)) (.bool true))
    have c9 := (top_cells h).2.2.2.2.2.2.2.2.2
    have f9 := blk_frozen h.top 9
    clear h hd
    go_enter Try.func68, Try.ntmps68
    go_wp2_with fail
    go_ret
    exact ⟨rfl, HD.out, HT.out⟩
end Go.Proofs.Ytnchdmidaigheaa.ND
namespace Go.Proofs.Ytnchdmidaigheaa.ND
set_option linter.unusedVariables false
set_option linter.unusedSimpArgs false
open Go.RowKit Go.Proofs.Ytnchdmidaigheaa.Hp Go.Proofs.YtnchdmidaigheaaW.PrintWords Go.Proofs.YtnchdmidaigheaaW.PrintLast Go.Proofs.YtnchdmidaigheaaW.PrintMore
def begin7.T7 : Bool × List (List Nat × List Nat) := (true, [([], []), ([0], [0]), ([], []), ([2], [2]), ([1, 0, 1], [1]), ([3, 4, 0, 1, 2, 3, 4], [3])])
def begin7.B7 : List Nat := [0, 1, 0, 4, 3, 31]
theorem begin7.tab7 : rtab .any (opsOf Try.f64 7) = begin7.T7 := by kernel_rfl
theorem begin7.bits7 : waitsOk begin7.T7.2 begin7.B7 = true := by kernel_rfl
theorem fresh_F {d : Kd Int} {e : Nat} {w w' : World} {v : Value} {xs : List Int} (h : d.R e w' w.heap.size (fun _ => True) v xs) (ok : Nat → Prop) : ∃ A c, v = .slice A xs.length c ∧ xs.length ≤ c ∧ Kd.F d w' (newer w ok) A xs.length xs := by
  obtain ⟨A, c, rfl, hc, _⟩ := Kd.R_reads h
  exact ⟨A, c, rfl, hc, Kd.R_F (Kd.R_mono (Kd.R_bound h) (fun k hk => .inr hk.2.1))⟩
theorem fault_none {D : Dv} (h : ∀ f ∈ D.faults, onF f D.ops = false) : D.fault = (0, [255]) := by
  unfold Dv.fault
  rw [List.find?_eq_none.2 (fun f hf => by rw [h f hf]; decide)]
theorem fault_at {D : Dv} {i : Nat} (hi : i < D.faults.length) (h : ∀ f ∈ D.faults.take i, onF f D.ops = false) (ho : onF (rd_T65 D.faults (i : Int)) D.ops = true) : D.fault = ((rd_T65 D.faults (i : Int)).f1, (rd_T65 D.faults (i : Int)).f2) := by
  have hr : rd_T65 D.faults (i : Int) = D.faults[i] := by
    unfold rd_T65
    rw [Int.toNat_natCast, List.getD_eq_getElem?_getD, List.getElem?_eq_getElem hi]
    rfl
  rw [hr] at ho ⊢
  have hs : D.faults.find? (fun f => onF f D.ops) = some D.faults[i] := by
    rw [List.find?_eq_some_iff_getElem]
    exact ⟨ho, i, hi, rfl, fun j hj => by rw [h _ (by rw [List.mem_take_iff_getElem]; exact ⟨j, by omega, rfl⟩)]; rfl⟩
  unfold Dv.fault
  rw [hs]
theorem take_on {D : Dv} {i : Nat} (hi : i < D.faults.length) (h : ∀ f ∈ D.faults.take i, onF f D.ops = false) (ho : onF (rd_T65 D.faults (i : Int)) D.ops = false) : ∀ f ∈ D.faults.take (i + 1), onF f D.ops = false := by
  have hr : rd_T65 D.faults (i : Int) = D.faults[i] := by
    unfold rd_T65
    rw [Int.toNat_natCast, List.getD_eq_getElem?_getD, List.getElem?_eq_getElem hi]
    rfl
  rw [hr] at ho
  intro f hf
  rw [List.take_add_one, List.getElem?_eq_getElem hi, List.mem_append] at hf
  rcases hf with hf | hf
  · exact h f hf
  · simp at hf; rw [hf]; exact ho
def Dv.bump (D : Dv) : Dv := { D with ops := wrap64 (D.ops + 1) }
set_option maxHeartbeats 2000000 in
set_option maxRecDepth 100000 in
theorem begin_calls {W : World} {ok : Nat → Prop} {L : Lay} {D : Dv} (h : DV W ok L D) :
    Calls Try.prog 64 #[.pointer (some ⟨L.g, 0, none⟩)] W fun e w' => ∃ A c, e = .returned (.tuple #[.int .i64 D.fault.1, .slice A D.fault.2.length c]) ∧ D.fault.2.length ≤ c ∧ Kd.F (Kd.int .u8) w' (newer W ok) A D.fault.2.length D.fault.2 ∧ DV w' ok L D.bump ∧ Turn W w' L.S := by
  have H1 := Aside0.mk (h.set_ops (wrap64 (D.ops + 1)))
  have T1 := Aside0.mk ((Turn.refl W L.S).setCell (p := ⟨L.g, 8, none⟩) (.inl (.inl rfl)) (.int .i64 (wrap64 (D.ops + 1))))
  have c7 := (top_cells h).2.2.2.2.2.2.2.1
  have c8 := (top_cells h).2.2.2.2.2.2.2.2.1
  have f8 := blk_frozen h.top 8
  have HLT := Aside0.mk (Nat.le_trans h.ok.fl (by omega) : D.faults.length ≤ 9223372036854775807)
  clear h
  go_enter Try.func64, Try.ntmps64
  go_upto_region 3 with fail
  generalize W.setCell ⟨L.g, 8, none⟩ (.int .i64 (wrap64 (D.ops + 1))) = W1 at H1 T1 ⊢
  have c7' := (top_cells H1.out).2.2.2.2.2.2.2.1
  clear c7 c8 f8
  go_wp2_with fail
  clear c7'
  go_loopg [23] (D.faults.length + 1) (fun kq v23 w' => ∃ i : Nat, v23 = .int .i64 (i : Int) ∧ Aside0 (i ≤ D.faults.length ∧ kq + i = D.faults.length + 1 ∧ ∀ f ∈ D.faults.take i, onF f D.ops = false) ∧ Aside0 (Below W1.heap.size W1 w'))
  case atStart => exact ⟨0, rfl, ⟨Nat.zero_le _, rfl, by simp⟩, ⟨Below.refl _ _⟩⟩
  case round =>
    obtain ⟨i, rfl, HI, BB⟩ := hrel
    by_cases hi : i < D.faults.length
    case neg =>
      have hie : i = D.faults.length := by have := HI.out.1; omega
      have t1 : decide ((i : Int) < (D.faults.length : Int)) = false := decide_eq_false (by omega)
      have t2 : decide (i < D.faults.length) = false := decide_eq_false (by omega)
      have HF : Aside0 (D.fault = (0, [255])) := ⟨fault_none (by have := HI.out.2.2; rwa [hie, List.take_length] at this)⟩
      have HN := Aside0.mk (fun W => zeros_Ones.calls 5 1 [255] W (by decide +kernel))
      clear hi hie
      go_wp2_with (go_at_call 61; refine (HN.out _).mono ?_; rintro e w5 ⟨v, rfl, hR, hb⟩; obtain ⟨A, c, rfl, hc, hF⟩ := fresh_F hR ok; have H5 := Aside0.mk (And.intro hc (And.intro hF hb)); clear hR hc hF hb)
      go_ret2
      have hT := T1.out.below BB.out
      have hsz := hT.size
      rw [HF.out]
      exact ⟨A, c, rfl, H5.out.1, Kd.F_mono H5.out.2.1 (fun k hk => hk.elim .inl (fun hk => .inr (Nat.le_trans hsz hk))), (H1.out.below BB.out).below H5.out.2.2, hT.below H5.out.2.2⟩
    case pos =>
      have t1 : decide ((i : Int) < (D.faults.length : Int)) = true := decide_eq_true (by omega)
      have t2 : decide (i < D.faults.length) = true := decide_eq_true (by omega)
      have p1 := eq_true (show (0 : Int) ≤ (i : Int) by omega)
      have q1 := eq_true (show (i : Int) < (D.faults.length : Int) by omega)
      obtain ⟨ad, cs, hA, hcl, hFK, hcc, _⟩ := Kd.F_get (H1.out.below BB.out).fl.1 z65 (i : Int) (by omega) (show (i : Int) < ((D.faults.length : Nat) : Int) by omega)
      obtain ⟨A2, c2, rfl, l2, g2⟩ := k65_openF hFK
      obtain ⟨x, hx⟩ : ∃ x, x = rd_T65 D.faults (i : Int) := ⟨_, rfl⟩
      have hx' : D.faults.getD (i : Int).toNat z65 = x := hx.symm
      rw [hx'] at hcc l2 g2
      have hx0 : wr.cell? (ad.add (i * 3)) = some (.int .i64 x.f0) := by have := hcc 0 _ rfl; rwa [Int.toNat_natCast] at this
      have hx1 : wr.cell? ⟨(ad.add (i * 3)).block, (ad.add (i * 3)).off + 1, none⟩ = some (.int .i64 x.f1) := by have := hcc 1 _ rfl; rw [Int.toNat_natCast] at this; rw [← add_field _ _ 1 (by omega)]; exact this
      have hx2 : wr.cell? ⟨(ad.add (i * 3)).block, (ad.add (i * 3)).off + 2, none⟩ = some (.slice A2 x.f2.length c2) := by have := hcc 2 _ rfl; rw [Int.toNat_natCast] at this; rw [← add_field _ _ 2 (by omega)]; exact this
      have HA := Aside0.mk hA
      have HX := Aside0.mk (And.intro hx (And.intro l2 g2))
      have hA' : L.Af = some ad := hA
      rw [hA']
      clear hA hA' hcl hFK hcc hx hx' l2 g2
      have hz6 := heap_alloc_new wr (.cells #[.int .i64 x.f0, .int .i64 x.f1, .slice A2 x.f2.length c2] 65)
      have hb6 := below_alloc BB.out (.cells #[.int .i64 x.f0, .int .i64 x.f1, .slice A2 x.f2.length c2] 65)
      have hg6 := Kd.F_alloc HX.out.2.2 (.cells #[.int .i64 x.f0, .int .i64 x.f1, .slice A2 x.f2.length c2] 65)
      go_upto_region 6 with fail
      generalize wr.alloc (.cells #[.int .i64 x.f0, .int .i64 x.f1, .slice A2 x.f2.length c2] 65) = W6 at hz6 hb6 hg6 ⊢
      generalize wr.heap.size = h6 at hz6 ⊢
      have HB6 := Aside0.mk hb6
      have HG6 := Aside0.mk hg6
      have HZ6 := Aside0.mk hz6
      have x0 := blk_cell hz6 0
      have x1 := blk_cell hz6 1
      have HI2 := Aside0.mk hi
      have HWI : IntKind.i64.wrap ((i : Int) + 1) = ((i + 1 : Nat) : Int) := by rw [i64_w]; unfold wrap64; have := HLT.out; omega
      clear hx0 hx1 hx2 p1 q1 t1 t2 hb6 hg6 hz6 hi
      rw [show (some ad : Option Addr) = L.Af from HA.out.symm]
      cases e1 : (x.f0 == D.ops) with
      | false =>
        have HO : Aside0 (onF x D.ops = false) := ⟨by unfold onF; rw [e1]; rfl⟩
        go_wp2_with fail
        go_roundg (D.faults.length - i)
        case measure => have := HI.out.2.1; have := HI2.out; omega
        case rel => exact ⟨i + 1, by first | rfl | (rw [← i64_w, HWI]) | (simp; unfold wrap64; have := HI2.out; have := HLT.out; omega), ⟨HI2.out, by have := HI.out.2.1; have := HI2.out; omega, take_on HI2.out HI.out.2.2 (HX.out.1 ▸ HO.out)⟩, HB6⟩
      | true =>
        cases e2 : (x.f1 == 1) with
        | true =>
          have HO : Aside0 (onF x D.ops = true) := ⟨by unfold onF; rw [e1, e2]; rfl⟩
          go_upto_region 7 with fail
          have B0 := Aside0.mk (below_drew1 (Below.refl W6.heap.size W6))
          have Z6 := Aside0.mk (blk_drew HZ6.out)
          clear x0 x1
          refine start_ (n := 6) (S := fun w' => True) (ds := []) #[false, false, false, false, false, false] (by kernel_rfl) rfl rfl trivial (fun hHeld => ?_)
          refine with_tabW begin7.tab7 begin7.bits7 (fun HT_ HW_ => ?_)
          generalize W6.drew = wq at B0 Z6 hHeld ⊢
          refine inv_at [0, 1, 2, 3, 4, 5] (fun a0_ b a w' => a = putSel a0_ b [(0, 41, .pointer (some ⟨h6, 1, none⟩)), (1, 42, .int .i64 x.f1), (2, 43, .pointer (some ⟨h6, 2, none⟩)), (3, 44, .slice A2 x.f2.length c2), (4, 2, .int .i64 x.f1), (5, 3, .slice A2 x.f2.length c2)] ∧ (Below W6.heap.size W6 w') ∧ (w'.heap[h6]? = some (.cells #[.int .i64 x.f0, .int .i64 x.f1, .slice A2 x.f2.length c2] 65 (0, 0)))) HT_.out HW_.out (by kernel_rfl) (by kernel_rfl) ?_ ?_ ?_
          · exact ⟨by simp only [putSel, Bool.false_eq_true, if_false], B0.out, Z6.out⟩
          · skip
            clear B0 Z6
            refine steps_cons ?_ ?_
            · rintro b a w' ⟨ha, Q_B0, Q_Z6⟩ hb_ hon hoff
              refine ⟨_, rfl, fun K hK => ?_⟩
              have e6 : a.tmps[6]? = some (.pointer (some ⟨h6, 0, none⟩)) := by rw [ha]; exact (putSel_off rfl).trans rfl
              replace ha := Aside0.mk ha
              have B0 := Aside0.mk Q_B0
              have Z6 := Aside0.mk Q_Z6
              refine value_ (w1 := w') (v := .pointer (some ⟨h6, 1, none⟩)) (by rfl) rfl ?_ ?_
              · go_simp
                (try simp only [i64_w])
                try rfl
              refine hK.out _ _ ⟨(by rw [ha.out]; exact putSel_upk 0 hb_ rfl rfl rfl), Q_B0, Q_Z6⟩
            refine steps_cons ?_ ?_
            · rintro b a w' ⟨ha, Q_B0, Q_Z6⟩ hb_ hon hoff
              refine ⟨_, rfl, fun K hK => ?_⟩
              have e41 : a.tmps[41]? = some (.pointer (some ⟨h6, 1, none⟩)) := by rw [ha]; exact putSel_on (e := (0, 41, .pointer (some ⟨h6, 1, none⟩))) 0 rfl rfl (hon 0 (by kernel_rfl)) rfl
              replace ha := Aside0.mk ha
              have B0 := Aside0.mk Q_B0
              have Z6 := Aside0.mk Q_Z6
              have c_ := blk_cell Z6.out 1
              refine value_ (w1 := w') (v := .int .i64 x.f1) (by rfl) rfl ?_ ?_
              · go_simp
                (try simp only [i64_w])
                try rfl
              refine hK.out _ _ ⟨(by rw [ha.out]; exact putSel_upk 1 hb_ rfl rfl rfl), Q_B0, Q_Z6⟩
            refine steps_cons ?_ ?_
            · rintro b a w' ⟨ha, Q_B0, Q_Z6⟩ hb_ hon hoff
              refine ⟨_, rfl, fun K hK => ?_⟩
              have e6 : a.tmps[6]? = some (.pointer (some ⟨h6, 0, none⟩)) := by rw [ha]; exact (putSel_off rfl).trans rfl
              replace ha := Aside0.mk ha
              have B0 := Aside0.mk Q_B0
              have Z6 := Aside0.mk Q_Z6
              refine value_ (w1 := w') (v := .pointer (some ⟨h6, 2, none⟩)) (by rfl) rfl ?_ ?_
              · go_simp
                (try simp only [i64_w])
                try rfl
              refine hK.out _ _ ⟨(by rw [ha.out]; exact putSel_upk 2 hb_ rfl rfl rfl), Q_B0, Q_Z6⟩
            refine steps_cons ?_ ?_
            · rintro b a w' ⟨ha, Q_B0, Q_Z6⟩ hb_ hon hoff
              refine ⟨_, rfl, fun K hK => ?_⟩
              have e43 : a.tmps[43]? = some (.pointer (some ⟨h6, 2, none⟩)) := by rw [ha]; exact putSel_on (e := (2, 43, .pointer (some ⟨h6, 2, none⟩))) 2 rfl rfl (hon 2 (by kernel_rfl)) rfl
              replace ha := Aside0.mk ha
              have B0 := Aside0.mk Q_B0
              have Z6 := Aside0.mk Q_Z6
              have c_ := blk_cell Z6.out 2
              refine value_ (w1 := w') (v := .slice A2 x.f2.length c2) (by rfl) rfl ?_ ?_
              · go_simp
                (try simp only [i64_w])
                try rfl
              refine hK.out _ _ ⟨(by rw [ha.out]; exact putSel_upk 3 hb_ rfl rfl rfl), Q_B0, Q_Z6⟩
            refine steps_cons ?_ ?_
            · rintro b a w' ⟨ha, Q_B0, Q_Z6⟩ hb_ hon hoff
              refine ⟨_, rfl, fun K hK => ?_⟩
              have e42 : a.tmps[42]? = some (.int .i64 x.f1) := by rw [ha]; exact putSel_on (e := (1, 42, .int .i64 x.f1)) 1 rfl rfl (hon 1 (by kernel_rfl)) rfl
              replace ha := Aside0.mk ha
              have B0 := Aside0.mk Q_B0
              have Z6 := Aside0.mk Q_Z6
              refine value_ (w1 := w') (v := .int .i64 x.f1) (by rfl) rfl ?_ ?_
              · go_simp
                (try simp only [i64_w])
                try rfl
              refine hK.out _ _ ⟨(by rw [ha.out]; exact putSel_upk 4 hb_ rfl rfl rfl), Q_B0, Q_Z6⟩
            refine steps_cons ?_ ?_
            · rintro b a w' ⟨ha, Q_B0, Q_Z6⟩ hb_ hon hoff
              refine ⟨_, rfl, fun K hK => ?_⟩
              have e44 : a.tmps[44]? = some (.slice A2 x.f2.length c2) := by rw [ha]; exact putSel_on (e := (3, 44, .slice A2 x.f2.length c2)) 3 rfl rfl (hon 3 (by kernel_rfl)) rfl
              replace ha := Aside0.mk ha
              have B0 := Aside0.mk Q_B0
              have Z6 := Aside0.mk Q_Z6
              refine value_ (w1 := w') (v := .slice A2 x.f2.length c2) (by rfl) rfl ?_ ?_
              · go_simp
                (try simp only [i64_w])
                try rfl
              refine hK.out _ _ ⟨(by rw [ha.out]; exact putSel_upk 5 hb_ rfl rfl rfl), Q_B0, Q_Z6⟩
            exact steps_nil
          rintro b a wl hall ⟨ha, Q_B0, Q_Z6⟩
          clear B0 Z6
          have hb0_ := hall 0 (by kernel_rfl)
          have hb1_ := hall 1 (by kernel_rfl)
          have hb2_ := hall 2 (by kernel_rfl)
          have hb3_ := hall 3 (by kernel_rfl)
          have hb4_ := hall 4 (by kernel_rfl)
          have hb5_ := hall 5 (by kernel_rfl)
          subst ha
          simp only [putSel, hb0_, hb1_, hb2_, hb3_, hb4_, hb5_, if_true, Act.put, List.setIfInBounds_toArray, List.set_cons_zero, List.set_cons_succ]
          have B0 := Aside0.mk Q_B0
          clear Q_B0
          have Z6 := Aside0.mk Q_Z6
          clear Q_Z6
          clear hall hb0_ hb1_ hb2_ hb3_ hb4_ hb5_
          go_wp2_with fail
          go_ret2
          have hT := (T1.out.below HB6.out).below B0.out
          have hsz := T1.out.size
          have hf := fault_at HI2.out HI.out.2.2 (HX.out.1 ▸ HO.out)
          rw [← HX.out.1] at hf
          rw [hf]
          exact ⟨A2, c2, rfl, HX.out.2.1, Kd.F_mono (Kd.F_below HG6.out B0.out) (fun k hk => .inl hk), (H1.out.below HB6.out).below B0.out, hT⟩
        | false =>
          cases e3 : (x.f1 == 2) with
          | true =>
            have HO : Aside0 (onF x D.ops = true) := ⟨by unfold onF; rw [e1, e2, e3]; rfl⟩
            go_upto_region 7 with fail
            have B0 := Aside0.mk (below_drew1 (Below.refl W6.heap.size W6))
            have Z6 := Aside0.mk (blk_drew HZ6.out)
            clear x0 x1
            refine start_ (n := 6) (S := fun w' => True) (ds := []) #[false, false, false, false, false, false] (by kernel_rfl) rfl rfl trivial (fun hHeld => ?_)
            refine with_tabW begin7.tab7 begin7.bits7 (fun HT_ HW_ => ?_)
            generalize W6.drew = wq at B0 Z6 hHeld ⊢
            refine inv_at [0, 1, 2, 3, 4, 5] (fun a0_ b a w' => a = putSel a0_ b [(0, 41, .pointer (some ⟨h6, 1, none⟩)), (1, 42, .int .i64 x.f1), (2, 43, .pointer (some ⟨h6, 2, none⟩)), (3, 44, .slice A2 x.f2.length c2), (4, 2, .int .i64 x.f1), (5, 3, .slice A2 x.f2.length c2)] ∧ (Below W6.heap.size W6 w') ∧ (w'.heap[h6]? = some (.cells #[.int .i64 x.f0, .int .i64 x.f1, .slice A2 x.f2.length c2] 65 (0, 0)))) HT_.out HW_.out (by kernel_rfl) (by kernel_rfl) ?_ ?_ ?_
            · exact ⟨by simp only [putSel, Bool.false_eq_true, if_false], B0.out, Z6.out⟩
            · skip
              clear B0 Z6
              refine steps_cons ?_ ?_
              · rintro b a w' ⟨ha, Q_B0, Q_Z6⟩ hb_ hon hoff
                refine ⟨_, rfl, fun K hK => ?_⟩
                have e6 : a.tmps[6]? = some (.pointer (some ⟨h6, 0, none⟩)) := by rw [ha]; exact (putSel_off rfl).trans rfl
                replace ha := Aside0.mk ha
                have B0 := Aside0.mk Q_B0
                have Z6 := Aside0.mk Q_Z6
                refine value_ (w1 := w') (v := .pointer (some ⟨h6, 1, none⟩)) (by rfl) rfl ?_ ?_
                · go_simp
                  (try simp only [i64_w])
                  try rfl
                refine hK.out _ _ ⟨(by rw [ha.out]; exact putSel_upk 0 hb_ rfl rfl rfl), Q_B0, Q_Z6⟩
              refine steps_cons ?_ ?_
              · rintro b a w' ⟨ha, Q_B0, Q_Z6⟩ hb_ hon hoff
                refine ⟨_, rfl, fun K hK => ?_⟩
                have e41 : a.tmps[41]? = some (.pointer (some ⟨h6, 1, none⟩)) := by rw [ha]; exact putSel_on (e := (0, 41, .pointer (some ⟨h6, 1, none⟩))) 0 rfl rfl (hon 0 (by kernel_rfl)) rfl
                replace ha := Aside0.mk ha
                have B0 := Aside0.mk Q_B0
                have Z6 := Aside0.mk Q_Z6
                have c_ := blk_cell Z6.out 1
                refine value_ (w1 := w') (v := .int .i64 x.f1) (by rfl) rfl ?_ ?_
                · go_simp
                  (try simp only [i64_w])
                  try rfl
                refine hK.out _ _ ⟨(by rw [ha.out]; exact putSel_upk 1 hb_ rfl rfl rfl), Q_B0, Q_Z6⟩
              refine steps_cons ?_ ?_
              · rintro b a w' ⟨ha, Q_B0, Q_Z6⟩ hb_ hon hoff
                refine ⟨_, rfl, fun K hK => ?_⟩
                have e6 : a.tmps[6]? = some (.pointer (some ⟨h6, 0, none⟩)) := by rw [ha]; exact (putSel_off rfl).trans rfl
                replace ha := Aside0.mk ha
                have B0 := Aside0.mk Q_B0
                have Z6 := Aside0.mk Q_Z6
                refine value_ (w1 := w') (v := .pointer (some ⟨h6, 2, none⟩)) (by rfl) rfl ?_ ?_
                · go_simp
                  (try simp only [i64_w])
                  try rfl
                refine hK.out _ _ ⟨(by rw [ha.out]; exact putSel_upk 2 hb_ rfl rfl rfl), Q_B0, Q_Z6⟩
              refine steps_cons ?_ ?_
              · rintro b a w' ⟨ha, Q_B0, Q_Z6⟩ hb_ hon hoff
                refine ⟨_, rfl, fun K hK => ?_⟩
                have e43 : a.tmps[43]? = some (.pointer (some ⟨h6, 2, none⟩)) := by rw [ha]; exact putSel_on (e := (2, 43, .pointer (some ⟨h6, 2, none⟩))) 2 rfl rfl (hon 2 (by kernel_rfl)) rfl
                replace ha := Aside0.mk ha
                have B0 := Aside0.mk Q_B0
                have Z6 := Aside0.mk Q_Z6
                have c_ := blk_cell Z6.out 2
                refine value_ (w1 := w') (v := .slice A2 x.f2.length c2) (by rfl) rfl ?_ ?_
                · go_simp
                  (try simp only [i64_w])
                  try rfl
                refine hK.out _ _ ⟨(by rw [ha.out]; exact putSel_upk 3 hb_ rfl rfl rfl), Q_B0, Q_Z6⟩
              refine steps_cons ?_ ?_
              · rintro b a w' ⟨ha, Q_B0, Q_Z6⟩ hb_ hon hoff
                refine ⟨_, rfl, fun K hK => ?_⟩
                have e42 : a.tmps[42]? = some (.int .i64 x.f1) := by rw [ha]; exact putSel_on (e := (1, 42, .int .i64 x.f1)) 1 rfl rfl (hon 1 (by kernel_rfl)) rfl
                replace ha := Aside0.mk ha
                have B0 := Aside0.mk Q_B0
                have Z6 := Aside0.mk Q_Z6
                refine value_ (w1 := w') (v := .int .i64 x.f1) (by rfl) rfl ?_ ?_
                · go_simp
                  (try simp only [i64_w])
                  try rfl
                refine hK.out _ _ ⟨(by rw [ha.out]; exact putSel_upk 4 hb_ rfl rfl rfl), Q_B0, Q_Z6⟩
              refine steps_cons ?_ ?_
              · rintro b a w' ⟨ha, Q_B0, Q_Z6⟩ hb_ hon hoff
                refine ⟨_, rfl, fun K hK => ?_⟩
                have e44 : a.tmps[44]? = some (.slice A2 x.f2.length c2) := by rw [ha]; exact putSel_on (e := (3, 44, .slice A2 x.f2.length c2)) 3 rfl rfl (hon 3 (by kernel_rfl)) rfl
                replace ha := Aside0.mk ha
                have B0 := Aside0.mk Q_B0
                have Z6 := Aside0.mk Q_Z6
                refine value_ (w1 := w') (v := .slice A2 x.f2.length c2) (by rfl) rfl ?_ ?_
                · go_simp
                  (try simp only [i64_w])
                  try rfl
                refine hK.out _ _ ⟨(by rw [ha.out]; exact putSel_upk 5 hb_ rfl rfl rfl), Q_B0, Q_Z6⟩
              exact steps_nil
            rintro b a wl hall ⟨ha, Q_B0, Q_Z6⟩
            clear B0 Z6
            have hb0_ := hall 0 (by kernel_rfl)
            have hb1_ := hall 1 (by kernel_rfl)
            have hb2_ := hall 2 (by kernel_rfl)
            have hb3_ := hall 3 (by kernel_rfl)
            have hb4_ := hall 4 (by kernel_rfl)
            have hb5_ := hall 5 (by kernel_rfl)
            subst ha
            simp only [putSel, hb0_, hb1_, hb2_, hb3_, hb4_, hb5_, if_true, Act.put, List.setIfInBounds_toArray, List.set_cons_zero, List.set_cons_succ]
            have B0 := Aside0.mk Q_B0
            clear Q_B0
            have Z6 := Aside0.mk Q_Z6
            clear Q_Z6
            clear hall hb0_ hb1_ hb2_ hb3_ hb4_ hb5_
            go_wp2_with fail
            go_ret2
            have hT := (T1.out.below HB6.out).below B0.out
            have hsz := T1.out.size
            have hf := fault_at HI2.out HI.out.2.2 (HX.out.1 ▸ HO.out)
            rw [← HX.out.1] at hf
            rw [hf]
            exact ⟨A2, c2, rfl, HX.out.2.1, Kd.F_mono (Kd.F_below HG6.out B0.out) (fun k hk => .inl hk), (H1.out.below HB6.out).below B0.out, hT⟩
          | false =>
            have HO : Aside0 (onF x D.ops = false) := ⟨by unfold onF; rw [e1, e2, e3]; rfl⟩
            go_wp2_with fail
            go_roundg (D.faults.length - i)
            case measure => have := HI.out.2.1; have := HI2.out; omega
            case rel => exact ⟨i + 1, by first | rfl | (rw [← i64_w, HWI]) | (simp; unfold wrap64; have := HI2.out; have := HLT.out; omega), ⟨HI2.out, by have := HI.out.2.1; have := HI2.out; omega, take_on HI2.out HI.out.2.2 (HX.out.1 ▸ HO.out)⟩, HB6⟩
end Go.Proofs.Ytnchdmidaigheaa.ND
namespace Go.Proofs.Ytnchdmidaigheaa.ND
set_option linter.unusedVariables false
set_option linter.unusedSimpArgs false
open Go.RowKit Go.Proofs.Ytnchdmidaigheaa.Hp Go.Proofs.YtnchdmidaigheaaW.PrintWords Go.Proofs.YtnchdmidaigheaaW.PrintLast Go.Proofs.YtnchdmidaigheaaW.PrintMore
section
variable {P : Program} {ops : Array Oper} {Q : Exit → Act → World → Prop}
theorem goesv_ {oi : Oper} {N : Option Tmp} {a : Act} {w : World} {K : Act → World → Prop} {f : FuncId} {fn : Func} {as_ : Array Operand} {ts : Array TypeId} {tc : Tmp} {caps : Array Value} (hf : P.funcs[f]? = some fn) (hname : (fn.name == "runtime.NumGoroutine") = false) (hb : fn.body.isSome = true) (args : Array Value)
    (hw : Region.wanted oi (yielded ops a.tmps) = true) (hN : oi.dst = N) (hop : oi.op = .call { callee := .value (.tmp tc), args := as_, argTypes := ts }) (hc : a.tmps[tc]? = some (.func (.func f) #[] caps)) (hargs : as_.map a.eval = args)
    (h : Calls P f (args ++ caps) w fun e w' => ∃ v, e = .returned v ∧ K (a.put N v) w') : if Region.wanted oi (yielded ops a.tmps) = true then Oper.wp P oi a w K Q else K (a.put N undef) w := by
  refine call_ f (args ++ caps) hw hN ?_ h
  have he := enters_ hf hname hb (args ++ caps) w
  have hc' : a.tmps.getD tc undef = .func (.func f) #[] caps := by simp [Array.getD_eq_getD_getElem?, hc]
  unfold execOp
  simp [hop, resolve, Deferred.ofValue, invoke, Act.eval, hargs, he, hc']
end
def change0.T0 : Bool × List (List Nat × List Nat) := (true, [([], []), ([0], [0]), ([1], [1]), ([2], [2]), ([], []), ([], []), ([], []), ([6], [6]), ([7], [7]), ([8], [8]), ([], []), ([9, 10], [9, 10]), ([11], [11]), ([5, 12], [5, 12]), ([3, 4, 0, 1, 2, 3, 4, 5, 6, 7, 8, 9, 10, 11, 12, 13], [3, 4]), ([14, 13, 13, 0, 1, 2, 3, 4, 5, 6, 7, 8, 9, 10, 11, 12, 13], [13, 14])])
def change0.B0 : List Nat := [0, 1, 3, 7, 0, 0, 0, 64, 192, 448, 0, 1984, 4032, 8160, 16383, 32767]
theorem change0.tab0 : rtab .any (opsOf Try.f65 0) = change0.T0 := by kernel_rfl
theorem change0.bits0 : waitsOk change0.T0.2 change0.B0 = true := by kernel_rfl
theorem newer_le {W W' : World} {ok : Nat → Prop} (h : W.heap.size ≤ W'.heap.size) : ∀ k, newer W' ok k → newer W ok k := fun k hk => hk.elim .inl (fun hk => .inr (Nat.le_trans h hk))
theorem DV.newer_ {W W' : World} {ok : Nat → Prop} {L : Lay} {D : Dv} (h : DV W' ok L D) (hl : ∀ k, L.S k → k < W.heap.size) : DV W' (newer W ok) L D :=
  h.mono (fun k hk => .inl hk) (fun k hk hlt hS => by
    rcases hk with hk | hk
    · exact h.no k hk hlt hS
    · have := hl k hS; omega)
set_option maxHeartbeats 2000000 in
set_option maxRecDepth 100000 in
theorem change_calls {W : World} {ok : Nat → Prop} {L : Lay} {D : Dv} (h : DV W ok L D) (i : Nat) (hi : i < D.pages.length) (kf : FuncId) (fn : Func) (caps : Array Value) (hK : Try.prog.funcs[kf]? = some fn) (hname : (fn.name == "runtime.NumGoroutine") = false) (hbody : fn.body.isSome = true) (l' : List Int) (hl : isBytes l' ∧ l'.length = 256)
    (hdo : ∀ W', Below W.heap.size W W' → ∀ A c, 256 ≤ c → Kd.C (Kd.int .u8) W' A 256 (D.pages.getD i []) → Calls Try.prog kf (#[.slice A 256 c] ++ caps) W' fun e w' => ∃ A c, e = .returned (.slice A 256 c) ∧ 256 ≤ c ∧ Kd.F (Kd.int .u8) w' (newer W' ok) A 256 l' ∧ Below W'.heap.size W' w') :
    Calls Try.prog 65 #[.pointer (some ⟨L.g, 0, none⟩), .int .i64 (i : Int),   .func (.func kf) #[] caps] W fun e w' => e = .returned (.tuple #[]) ∧ DV w' (newer W ok) L { D with pages := D.pages.set i l' } ∧ Turn W w' L.S := by
  obtain ⟨vs, hcv, hpg⟩ := h.pg
  have hil : i < vs.length := by rw [hpg.1]; exact hi
  obtain ⟨Ai, ci, hv, hci, hFi⟩ := hpg.2 i vs[i] (D.pages.getD i []) (List.getElem?_eq_getElem hil) (by rw [List.getD_eq_getElem?_getD, List.getElem?_eq_getElem hi]; rfl)
  have HV : Aside0 (vs[i]? = some (.slice Ai 256 ci)) := ⟨by rw [List.getElem?_eq_getElem hil, hv]⟩
  have HC := Aside0.mk hcv
  have HFI := Aside0.mk (And.intro hci hFi)
  have HP := Aside0.mk (And.intro (eq_true (show (0 : Int) ≤ (i : Int) by omega)) (eq_true (show (i : Int) < ((D.pages.length : Nat) : Int) by omega)))
  have H := Aside0.mk h
  have HDO := Aside0.mk hdo
  have HK := Aside0.mk (And.intro hK (And.intro hname hbody))
  have HLL := Aside0.mk hl
  have B0 := Aside0.mk (below_drew1 (Below.refl W.heap.size W))
  clear hcv hpg hil hv hci hFi h hdo hK hname hbody hl hi
  go_enter Try.func65, Try.ntmps65
  go_upto_region 0 with fail
  refine start_ (n := 16) (S := fun w' => True) (ds := []) #[false, false, false, false, false, false, false, false, false, false, false, false, false, false, false, false] (by kernel_rfl) rfl rfl trivial (fun hHeld => ?_)
  refine with_tabW change0.tab0 change0.bits0 (fun HT_ HW_ => ?_)
  generalize W.drew = wq at B0 hHeld ⊢
  refine inv_at [0, 1, 2, 3, 4, 5, 6, 7, 8, 9, 10, 11, 12, 13, 14, 15] (fun a0_ b a w' => ∃ (A13 : Option Addr) (c13 : Nat) (m13_ : Value), a = putSel a0_ b [(0, 6, .pointer (some ⟨L.g, 0, none⟩)), (1, 7, .pointer (some ⟨L.g, 0, none⟩)), (2, 8, .pointer (some ⟨L.g, 4, none⟩)), (3, 9, .slice (some ⟨L.gp, 0, none⟩) D.pages.length L.cp), (4, 10, .int .i64 (i : Int)), (5, 11, .func (.func kf) #[] caps), (6, 12, .pointer (some ⟨L.g, 0, none⟩)), (7, 13, .pointer (some ⟨L.g, 0, none⟩)), (8, 14, .pointer (some ⟨L.g, 4, none⟩)), (9, 15, .slice (some ⟨L.gp, 0, none⟩) D.pages.length L.cp), (10, 16, .int .i64 (i : Int)), (11, 17, .pointer (some ⟨L.gp, i, none⟩)), (12, 18, .slice Ai 256 ci), (13, 19, m13_), (14, 20, .pointer (some ⟨L.gp, i, none⟩))] ∧ (b 15 = false → Below W.heap.size W w') ∧ (b 13 = true → b 15 = false → 256 ≤ c13 ∧ Kd.F (Kd.int .u8) w' (newer W ok) A13 256 l') ∧ (b 15 = true → DV w' (newer W ok) L { D with pages := D.pages.set i l' } ∧ Turn W w' L.S) ∧ (b 13 = true → (m13_ : Value) = .slice A13 256 c13)) HT_.out HW_.out (by kernel_rfl) (by kernel_rfl) ?_ ?_ ?_
  · exact ⟨none, 0, .bool false, by simp only [putSel, Bool.false_eq_true, if_false], fun _ => B0.out, fun h_ => absurd h_ (by decide), fun h_ => absurd h_ (by decide), fun h_ => absurd h_ (by decide)⟩
  · skip
    clear B0
    refine steps_cons ?_ ?_
    · rintro b a w' ⟨A13, c13, m13_, ha, Q_B0, Q_R13, Q_FIN, Q_X13_⟩ hb_ hon hoff
      refine ⟨_, rfl, fun K hK => ?_⟩
      have e0 : a.tmps[0]? = some (.pointer (some ⟨L.g, 0, none⟩)) := by rw [ha]; exact (putSel_off rfl).trans rfl
      replace ha := Aside0.mk ha
      have B0 := Aside0.mk (Q_B0 (hoff 15 (by kernel_rfl)))
      refine value_ (w1 := w') (v := .pointer (some ⟨L.g, 0, none⟩)) (by rfl) rfl ?_ ?_
      · go_simp
        (try simp only [i64_w])
        try rfl
      refine hK.out _ _ ⟨A13, c13, m13_, (by rw [ha.out]; exact putSel_upk 0 hb_ rfl rfl rfl), Q_B0, Q_R13, fun h0_ => absurd ((hoff 15 (by kernel_rfl)).symm.trans h0_) (by decide), Q_X13_⟩
    refine steps_cons ?_ ?_
    · rintro b a w' ⟨A13, c13, m13_, ha, Q_B0, Q_R13, Q_FIN, Q_X13_⟩ hb_ hon hoff
      refine ⟨_, rfl, fun K hK => ?_⟩
      have e6 : a.tmps[6]? = some (.pointer (some ⟨L.g, 0, none⟩)) := by rw [ha]; exact putSel_on (e := (0, 6, .pointer (some ⟨L.g, 0, none⟩))) 0 rfl rfl (hon 0 (by kernel_rfl)) rfl
      replace ha := Aside0.mk ha
      have B0 := Aside0.mk (Q_B0 (hoff 15 (by kernel_rfl)))
      refine value_ (w1 := w') (v := .pointer (some ⟨L.g, 0, none⟩)) (by rfl) rfl ?_ ?_
      · go_simp
        (try simp only [i64_w])
        try rfl
      refine hK.out _ _ ⟨A13, c13, m13_, (by rw [ha.out]; exact putSel_upk 1 hb_ rfl rfl rfl), Q_B0, Q_R13, fun h0_ => absurd ((hoff 15 (by kernel_rfl)).symm.trans h0_) (by decide), Q_X13_⟩
    refine steps_cons ?_ ?_
    · rintro b a w' ⟨A13, c13, m13_, ha, Q_B0, Q_R13, Q_FIN, Q_X13_⟩ hb_ hon hoff
      refine ⟨_, rfl, fun K hK => ?_⟩
      have e7 : a.tmps[7]? = some (.pointer (some ⟨L.g, 0, none⟩)) := by rw [ha]; exact putSel_on (e := (1, 7, .pointer (some ⟨L.g, 0, none⟩))) 1 rfl rfl (hon 1 (by kernel_rfl)) rfl
      replace ha := Aside0.mk ha
      have B0 := Aside0.mk (Q_B0 (hoff 15 (by kernel_rfl)))
      refine value_ (w1 := w') (v := .pointer (some ⟨L.g, 4, none⟩)) (by rfl) rfl ?_ ?_
      · go_simp
        (try simp only [i64_w])
        try rfl
      refine hK.out _ _ ⟨A13, c13, m13_, (by rw [ha.out]; exact putSel_upk 2 hb_ rfl rfl rfl), Q_B0, Q_R13, fun h0_ => absurd ((hoff 15 (by kernel_rfl)).symm.trans h0_) (by decide), Q_X13_⟩
    refine steps_cons ?_ ?_
    · rintro b a w' ⟨A13, c13, m13_, ha, Q_B0, Q_R13, Q_FIN, Q_X13_⟩ hb_ hon hoff
      refine ⟨_, rfl, fun K hK => ?_⟩
      have e8 : a.tmps[8]? = some (.pointer (some ⟨L.g, 4, none⟩)) := by rw [ha]; exact putSel_on (e := (2, 8, .pointer (some ⟨L.g, 4, none⟩))) 2 rfl rfl (hon 2 (by kernel_rfl)) rfl
      replace ha := Aside0.mk ha
      have B0 := Aside0.mk (Q_B0 (hoff 15 (by kernel_rfl)))
      have c_ := (top_cells (H.out.below B0.out)).2.2.2.2.1
      refine value_ (w1 := w') (v := .slice (some ⟨L.gp, 0, none⟩) D.pages.length L.cp) (by rfl) rfl ?_ ?_
      · go_simp
        (try simp only [i64_w])
        try rfl
      refine hK.out _ _ ⟨A13, c13, m13_, (by rw [ha.out]; exact putSel_upk 3 hb_ rfl rfl rfl), Q_B0, Q_R13, fun h0_ => absurd ((hoff 15 (by kernel_rfl)).symm.trans h0_) (by decide), Q_X13_⟩
    refine steps_cons ?_ ?_
    · rintro b a w' ⟨A13, c13, m13_, ha, Q_B0, Q_R13, Q_FIN, Q_X13_⟩ hb_ hon hoff
      refine ⟨_, rfl, fun K hK => ?_⟩
      have e1 : a.tmps[1]? = some (.int .i64 (i : Int)) := by rw [ha]; exact (putSel_off rfl).trans rfl
      replace ha := Aside0.mk ha
      have B0 := Aside0.mk (Q_B0 (hoff 15 (by kernel_rfl)))
      refine value_ (w1 := w') (v := .int .i64 (i : Int)) (by rfl) rfl ?_ ?_
      · go_simp
        (try simp only [i64_w])
        try rfl
      refine hK.out _ _ ⟨A13, c13, m13_, (by rw [ha.out]; exact putSel_upk 4 hb_ rfl rfl rfl), Q_B0, Q_R13, fun h0_ => absurd ((hoff 15 (by kernel_rfl)).symm.trans h0_) (by decide), Q_X13_⟩
    refine steps_cons ?_ ?_
    · rintro b a w' ⟨A13, c13, m13_, ha, Q_B0, Q_R13, Q_FIN, Q_X13_⟩ hb_ hon hoff
      refine ⟨_, rfl, fun K hK => ?_⟩
      have e2 : a.tmps[2]? = some (.func (.func kf) #[] caps) := by rw [ha]; exact (putSel_off rfl).trans rfl
      replace ha := Aside0.mk ha
      have B0 := Aside0.mk (Q_B0 (hoff 15 (by kernel_rfl)))
      refine value_ (w1 := w') (v := .func (.func kf) #[] caps) (by rfl) rfl ?_ ?_
      · go_simp
        (try simp only [i64_w])
        try rfl
      refine hK.out _ _ ⟨A13, c13, m13_, (by rw [ha.out]; exact putSel_upk 5 hb_ rfl rfl rfl), Q_B0, fun h0_ _ => absurd ((hoff 13 (by kernel_rfl)).symm.trans h0_) (by decide), fun h0_ => absurd ((hoff 15 (by kernel_rfl)).symm.trans h0_) (by decide), fun h0_ => absurd ((hoff 13 (by kernel_rfl)).symm.trans h0_) (by decide)⟩
    refine steps_cons ?_ ?_
    · rintro b a w' ⟨A13, c13, m13_, ha, Q_B0, Q_R13, Q_FIN, Q_X13_⟩ hb_ hon hoff
      refine ⟨_, rfl, fun K hK => ?_⟩
      have e0 : a.tmps[0]? = some (.pointer (some ⟨L.g, 0, none⟩)) := by rw [ha]; exact (putSel_off rfl).trans rfl
      replace ha := Aside0.mk ha
      have B0 := Aside0.mk (Q_B0 (hoff 15 (by kernel_rfl)))
      refine value_ (w1 := w') (v := .pointer (some ⟨L.g, 0, none⟩)) (by rfl) rfl ?_ ?_
      · go_simp
        (try simp only [i64_w])
        try rfl
      refine hK.out _ _ ⟨A13, c13, m13_, (by rw [ha.out]; exact putSel_upk 6 hb_ rfl rfl rfl), Q_B0, fun h0_ _ => absurd ((hoff 13 (by kernel_rfl)).symm.trans h0_) (by decide), fun h0_ => absurd ((hoff 15 (by kernel_rfl)).symm.trans h0_) (by decide), fun h0_ => absurd ((hoff 13 (by kernel_rfl)).symm.trans h0_) (by decide)⟩
    refine steps_cons ?_ ?_
    · rintro b a w' ⟨A13, c13, m13_, ha, Q_B0, Q_R13, Q_FIN, Q_X13_⟩ hb_ hon hoff
      refine ⟨_, rfl, fun K hK => ?_⟩
      have e12 : a.tmps[12]? = some (.pointer (some ⟨L.g, 0, none⟩)) := by rw [ha]; exact putSel_on (e := (6, 12, .pointer (some ⟨L.g, 0, none⟩))) 6 rfl rfl (hon 6 (by kernel_rfl)) rfl
      replace ha := Aside0.mk ha
      have B0 := Aside0.mk (Q_B0 (hoff 15 (by kernel_rfl)))
      refine value_ (w1 := w') (v := .pointer (some ⟨L.g, 0, none⟩)) (by rfl) rfl ?_ ?_
      · go_simp
        (try simp only [i64_w])
        try rfl
      refine hK.out _ _ ⟨A13, c13, m13_, (by rw [ha.out]; exact putSel_upk 7 hb_ rfl rfl rfl), Q_B0, fun h0_ _ => absurd ((hoff 13 (by kernel_rfl)).symm.trans h0_) (by decide), fun h0_ => absurd ((hoff 15 (by kernel_rfl)).symm.trans h0_) (by decide), fun h0_ => absurd ((hoff 13 (by kernel_rfl)).symm.trans h0_) (by decide)⟩
    refine steps_cons ?_ ?_
    · rintro b a w' ⟨A13, c13, m13_, ha, Q_B0, Q_R13, Q_FIN, Q_X13_⟩ hb_ hon hoff
      refine ⟨_, rfl, fun K hK => ?_⟩
      have e13 : a.tmps[13]? = some (.pointer (some ⟨L.g, 0, none⟩)) := by rw [ha]; exact putSel_on (e := (7, 13, .pointer (some ⟨L.g, 0, none⟩))) 7 rfl rfl (hon 7 (by kernel_rfl)) rfl
      replace ha := Aside0.mk ha
      have B0 := Aside0.mk (Q_B0 (hoff 15 (by kernel_rfl)))
      refine value_ (w1 := w') (v := .pointer (some ⟨L.g, 4, none⟩)) (by rfl) rfl ?_ ?_
      · go_simp
        (try simp only [i64_w])
        try rfl
      refine hK.out _ _ ⟨A13, c13, m13_, (by rw [ha.out]; exact putSel_upk 8 hb_ rfl rfl rfl), Q_B0, fun h0_ _ => absurd ((hoff 13 (by kernel_rfl)).symm.trans h0_) (by decide), fun h0_ => absurd ((hoff 15 (by kernel_rfl)).symm.trans h0_) (by decide), fun h0_ => absurd ((hoff 13 (by kernel_rfl)).symm.trans h0_) (by decide)⟩
    refine steps_cons ?_ ?_
    · rintro b a w' ⟨A13, c13, m13_, ha, Q_B0, Q_R13, Q_FIN, Q_X13_⟩ hb_ hon hoff
      refine ⟨_, rfl, fun K hK => ?_⟩
      have e14 : a.tmps[14]? = some (.pointer (some ⟨L.g, 4, none⟩)) := by rw [ha]; exact putSel_on (e := (8, 14, .pointer (some ⟨L.g, 4, none⟩))) 8 rfl rfl (hon 8 (by kernel_rfl)) rfl
      replace ha := Aside0.mk ha
      have B0 := Aside0.mk (Q_B0 (hoff 15 (by kernel_rfl)))
      have c_ := (top_cells (H.out.below B0.out)).2.2.2.2.1
      refine value_ (w1 := w') (v := .slice (some ⟨L.gp, 0, none⟩) D.pages.length L.cp) (by rfl) rfl ?_ ?_
      · go_simp
        (try simp only [i64_w])
        try rfl
      refine hK.out _ _ ⟨A13, c13, m13_, (by rw [ha.out]; exact putSel_upk 9 hb_ rfl rfl rfl), Q_B0, fun h0_ _ => absurd ((hoff 13 (by kernel_rfl)).symm.trans h0_) (by decide), fun h0_ => absurd ((hoff 15 (by kernel_rfl)).symm.trans h0_) (by decide), fun h0_ => absurd ((hoff 13 (by kernel_rfl)).symm.trans h0_) (by decide)⟩
    refine steps_cons ?_ ?_
    · rintro b a w' ⟨A13, c13, m13_, ha, Q_B0, Q_R13, Q_FIN, Q_X13_⟩ hb_ hon hoff
      refine ⟨_, rfl, fun K hK => ?_⟩
      have e1 : a.tmps[1]? = some (.int .i64 (i : Int)) := by rw [ha]; exact (putSel_off rfl).trans rfl
      replace ha := Aside0.mk ha
      have B0 := Aside0.mk (Q_B0 (hoff 15 (by kernel_rfl)))
      refine value_ (w1 := w') (v := .int .i64 (i : Int)) (by rfl) rfl ?_ ?_
      · go_simp
        (try simp only [i64_w])
        try rfl
      refine hK.out _ _ ⟨A13, c13, m13_, (by rw [ha.out]; exact putSel_upk 10 hb_ rfl rfl rfl), Q_B0, fun h0_ _ => absurd ((hoff 13 (by kernel_rfl)).symm.trans h0_) (by decide), fun h0_ => absurd ((hoff 15 (by kernel_rfl)).symm.trans h0_) (by decide), fun h0_ => absurd ((hoff 13 (by kernel_rfl)).symm.trans h0_) (by decide)⟩
    refine steps_cons ?_ ?_
    · rintro b a w' ⟨A13, c13, m13_, ha, Q_B0, Q_R13, Q_FIN, Q_X13_⟩ hb_ hon hoff
      refine ⟨_, rfl, fun K hK => ?_⟩
      have e15 : a.tmps[15]? = some (.slice (some ⟨L.gp, 0, none⟩) D.pages.length L.cp) := by rw [ha]; exact putSel_on (e := (9, 15, .slice (some ⟨L.gp, 0, none⟩) D.pages.length L.cp)) 9 rfl rfl (hon 9 (by kernel_rfl)) rfl
      have e16 : a.tmps[16]? = some (.int .i64 (i : Int)) := by rw [ha]; exact putSel_on (e := (10, 16, .int .i64 (i : Int))) 10 rfl rfl (hon 10 (by kernel_rfl)) rfl
      replace ha := Aside0.mk ha
      have B0 := Aside0.mk (Q_B0 (hoff 15 (by kernel_rfl)))
      have p_ := HP.out.1
      have q_ := HP.out.2
      refine value_ (w1 := w') (v := .pointer (some ⟨L.gp, i, none⟩)) (by rfl) rfl ?_ ?_
      · go_simp
        (try simp only [i64_w])
        try rfl
      refine hK.out _ _ ⟨A13, c13, m13_, (by rw [ha.out]; exact putSel_upk 11 hb_ rfl rfl rfl), Q_B0, fun h0_ _ => absurd ((hoff 13 (by kernel_rfl)).symm.trans h0_) (by decide), fun h0_ => absurd ((hoff 15 (by kernel_rfl)).symm.trans h0_) (by decide), fun h0_ => absurd ((hoff 13 (by kernel_rfl)).symm.trans h0_) (by decide)⟩
    refine steps_cons ?_ ?_
    · rintro b a w' ⟨A13, c13, m13_, ha, Q_B0, Q_R13, Q_FIN, Q_X13_⟩ hb_ hon hoff
      refine ⟨_, rfl, fun K hK => ?_⟩
      have e17 : a.tmps[17]? = some (.pointer (some ⟨L.gp, i, none⟩)) := by rw [ha]; exact putSel_on (e := (11, 17, .pointer (some ⟨L.gp, i, none⟩))) 11 rfl rfl (hon 11 (by kernel_rfl)) rfl
      replace ha := Aside0.mk ha
      have B0 := Aside0.mk (Q_B0 (hoff 15 (by kernel_rfl)))
      have c_ := (HC.out.below B0.out).cell HV.out
      refine value_ (w1 := w') (v := .slice Ai 256 ci) (by rfl) rfl ?_ ?_
      · go_simp
        (try simp only [i64_w])
        try rfl
      refine hK.out _ _ ⟨A13, c13, m13_, (by rw [ha.out]; exact putSel_upk 12 hb_ rfl rfl rfl), Q_B0, fun h0_ _ => absurd ((hoff 13 (by kernel_rfl)).symm.trans h0_) (by decide), fun h0_ => absurd ((hoff 15 (by kernel_rfl)).symm.trans h0_) (by decide), fun h0_ => absurd ((hoff 13 (by kernel_rfl)).symm.trans h0_) (by decide)⟩
    refine steps_cons ?_ ?_
    · rintro b a w' ⟨A13, c13, m13_, ha, Q_B0, Q_R13, Q_FIN, Q_X13_⟩ hb_ hon hoff
      refine ⟨_, rfl, fun K hK => ?_⟩
      have e11 : a.tmps[11]? = some (.func (.func kf) #[] caps) := by rw [ha]; exact putSel_on (e := (5, 11, .func (.func kf) #[] caps)) 5 rfl rfl (hon 5 (by kernel_rfl)) rfl
      have e18 : a.tmps[18]? = some (.slice Ai 256 ci) := by rw [ha]; exact putSel_on (e := (12, 18, .slice Ai 256 ci)) 12 rfl rfl (hon 12 (by kernel_rfl)) rfl
      replace ha := Aside0.mk ha
      have B0 := Aside0.mk (Q_B0 (hoff 15 (by kernel_rfl)))
      refine goesv_ HK.out.1 HK.out.2.1 HK.out.2.2 #[.slice Ai 256 ci] (by rfl) rfl rfl e11 (by first | (simp only [List.map_toArray, List.map_cons, List.map_nil, Act.eval, Array.getD_eq_getD_getElem?, Option.getD_some, e11, e18]; done) | (simp only [List.map_toArray, List.map_cons, List.map_nil, Act.eval, Array.getD_eq_getD_getElem?, Option.getD_some, e11, e18]; rfl)) ?_
      with_reducible refine (HDO.out _ B0.out Ai ci HFI.out.1 (Kd.C_below (Kd.F_now HFI.out.2) B0.out)).mono ?_
      rintro e w2 ⟨A_, c_, rfl, hc_, hF_, hb⟩
      refine ⟨_, rfl, ?_⟩
      refine hK.out _ _ ⟨A_, c_, (.slice A_ 256 c_), (by rw [ha.out]; exact putSel_upk 13 hb_ rfl rfl rfl), fun _ => below_then B0.out B0.out.size hb, fun _ _ => ⟨hc_, Kd.F_mono hF_ (newer_le B0.out.size)⟩, fun h0_ => absurd ((hoff 15 (by kernel_rfl)).symm.trans h0_) (by decide), fun _ => rfl⟩
    refine steps_cons ?_ ?_
    · rintro b a w' ⟨A13, c13, m13_, ha, Q_B0, Q_R13, Q_FIN, Q_X13_⟩ hb_ hon hoff
      refine ⟨_, rfl, fun K hK => ?_⟩
      have e9 : a.tmps[9]? = some (.slice (some ⟨L.gp, 0, none⟩) D.pages.length L.cp) := by rw [ha]; exact putSel_on (e := (3, 9, .slice (some ⟨L.gp, 0, none⟩) D.pages.length L.cp)) 3 rfl rfl (hon 3 (by kernel_rfl)) rfl
      have e10 : a.tmps[10]? = some (.int .i64 (i : Int)) := by rw [ha]; exact putSel_on (e := (4, 10, .int .i64 (i : Int))) 4 rfl rfl (hon 4 (by kernel_rfl)) rfl
      replace ha := Aside0.mk ha
      have B0 := Aside0.mk (Q_B0 (hoff 15 (by kernel_rfl)))
      have R13 := Aside0.mk (Q_R13 (hon 13 (by kernel_rfl)) (hoff 15 (by kernel_rfl)))
      have p_ := HP.out.1
      have q_ := HP.out.2
      refine value_ (w1 := w') (v := .pointer (some ⟨L.gp, i, none⟩)) (by rfl) rfl ?_ ?_
      · go_simp
        (try simp only [i64_w])
        try rfl
      refine hK.out _ _ ⟨A13, c13, m13_, (by rw [ha.out]; exact putSel_upk 14 hb_ rfl rfl rfl), Q_B0, Q_R13, fun h0_ => absurd ((hoff 15 (by kernel_rfl)).symm.trans h0_) (by decide), Q_X13_⟩
    refine steps_cons ?_ ?_
    · rintro b a w' ⟨A13, c13, m13_, ha, Q_B0, Q_R13, Q_FIN, Q_X13_⟩ hb_ hon hoff
      refine ⟨_, rfl, fun K hK => ?_⟩
      have e20 : a.tmps[20]? = some (.pointer (some ⟨L.gp, i, none⟩)) := by rw [ha]; exact putSel_on (e := (14, 20, .pointer (some ⟨L.gp, i, none⟩))) 14 rfl rfl (hon 14 (by kernel_rfl)) rfl
      have e19 : a.tmps[19]? = some (m13_) := by rw [ha]; exact putSel_on (e := (13, 19, m13_)) 13 rfl rfl (hon 13 (by kernel_rfl)) rfl
      rw [Q_X13_ (hon 13 (by kernel_rfl))] at e19
      replace ha := Aside0.mk ha
      have B0 := Aside0.mk (Q_B0 hb_)
      have R13 := Aside0.mk (Q_R13 (hon 13 (by kernel_rfl)) hb_)
      have c_ := (HC.out.below B0.out).cell HV.out
      have fr_ := (HC.out.below B0.out).frozen i
      refine skip_ (w1 := ?_) (by rfl) rfl ?_ ?_
      rotate_left
      · go_simp
        rfl
      refine hK.out _ _ ⟨A13, c13, m13_, (by rw [ha.out]; exact putSel_none (v := undef) rfl), fun h0_ => absurd ((up_self b 15).symm.trans h0_) (by decide), fun _ h1_ => absurd ((up_self b 15).symm.trans h1_) (by decide), fun _ => ⟨((H.out.below B0.out).newer_ H.out.lt).set_page i R13.out.1 R13.out.2 HLL.out, (Turn.of_below B0.out L.S).setCell (p := ⟨L.gp, i, none⟩) (.inl (.inr (.inl rfl))) _⟩, Q_X13_⟩
    exact steps_nil
  rintro b a wl hall ⟨A13, c13, m13_, ha, Q_B0, Q_R13, Q_FIN, Q_X13_⟩
  clear B0
  have hb0_ := hall 0 (by kernel_rfl)
  have hb1_ := hall 1 (by kernel_rfl)
  have hb2_ := hall 2 (by kernel_rfl)
  have hb3_ := hall 3 (by kernel_rfl)
  have hb4_ := hall 4 (by kernel_rfl)
  have hb5_ := hall 5 (by kernel_rfl)
  have hb6_ := hall 6 (by kernel_rfl)
  have hb7_ := hall 7 (by kernel_rfl)
  have hb8_ := hall 8 (by kernel_rfl)
  have hb9_ := hall 9 (by kernel_rfl)
  have hb10_ := hall 10 (by kernel_rfl)
  have hb11_ := hall 11 (by kernel_rfl)
  have hb12_ := hall 12 (by kernel_rfl)
  have hb13_ := hall 13 (by kernel_rfl)
  have hb14_ := hall 14 (by kernel_rfl)
  have hb15_ := hall 15 (by kernel_rfl)
  subst ha
  obtain rfl := Q_X13_ hb13_
  simp only [putSel, hb0_, hb1_, hb2_, hb3_, hb4_, hb5_, hb6_, hb7_, hb8_, hb9_, hb10_, hb11_, hb12_, hb13_, hb14_, hb15_, if_true, Act.put, List.setIfInBounds_toArray, List.set_cons_zero, List.set_cons_succ]
  clear Q_B0
  clear Q_R13
  have FIN := Aside0.mk (Q_FIN hb15_)
  clear Q_FIN
  clear hall hb0_ hb1_ hb2_ hb3_ hb4_ hb5_ hb6_ hb7_ hb8_ hb9_ hb10_ hb11_ hb12_ hb13_ hb14_ hb15_
  go_wp2_with fail
  go_end0
  exact ⟨rfl, FIN.out.1, FIN.out.2⟩
end Go.Proofs.Ytnchdmidaigheaa.ND
namespace Go.Proofs.Ytnchdmidaigheaa.Hp
open Go.RowKit Go.Proofs.YtnchdmidaigheaaW.PrintWords Go.Proofs.YtnchdmidaigheaaW.PrintLast Go.Proofs.YtnchdmidaigheaaW.PrintMore
attribute [local go_sem] max2_int min2_int max_two min_two max_three min_three max_four min_four   -- for this text's walks alone
set_option linter.unusedVariables false
set_option linter.unusedSimpArgs false
def zeros_Program.f (old b m : List Int) : Option (List Int) := if isBytes old ∧ isBytes b ∧ isBytes m ∧ old.length ≤ 1000000 then some (progRow old b m) else none
set_option maxHeartbeats 1000000 in
theorem each_calls (cap : Array Value) (g : Nat → Int) (A0 : Option Addr) (c0 : Nat) (l0 : List Int) (w : World) (hr0 : Kd.C (Kd.int .u8) w A0 l0.length l0) (hlen : l0.length ≤ 1000000)
    (hf : ∀ (i : Nat) (W : World), i < l0.length → Below w.heap.size w W → Calls Try.prog 105 (#[.int .i64 (i : Int), .int .u8 (rd l0 (i : Int))] ++ cap) W fun e w' => e = .returned (.int .u8 (g i)) ∧ Drawn0 W w') :
    Calls Try.prog 102 #[.slice A0 l0.length c0, .func (.func 105) #[] cap] w fun e w' => ∃ v0_ : Value, e = .returned (v0_) ∧ Kd.R (Kd.int .u8) 5 w' w.heap.size (fun _ => True) v0_ ((List.range l0.length).map g) ∧ Below w.heap.size w w' := by
  have HR0 := Aside0.mk hr0
  have HL := Aside0.mk hlen
  have HF := Aside0.mk hf
  clear hr0 hlen hf
  have HB := Aside0.mk (Below.refl w.heap.size w)
  go_enter Try.func102, Try.ntmps102
  go_wp2
  go_loopg [5, 10] (l0.length + 1) (fun kq v5 v10 w' => ∃ (j : Nat), v10 = .int .i64 j ∧ Aside0 (j ≤ l0.length) ∧ Aside0 (kq + j = l0.length + 1) ∧ Aside0 (Kd.R (Kd.int .u8) 5 w' w.heap.size (fun _ => True) v5 ((List.range j).map g)) ∧ Aside0 (Below w.heap.size w w'))
  case atStart => exact ⟨0, rfl, ⟨by omega⟩, ⟨by omega⟩, ⟨Kd.R_nil _ _ _ _ _⟩, ⟨by repeat (first | (with_reducible first | exact HB.out | apply below_alloc | apply pw_below_drewN | apply below_drew1) | exact HB.out)⟩⟩
  case round =>
    obtain ⟨j, rfl, HJ, HQ, HO_5, HB⟩ := hrel
    by_cases hj : j < l0.length
    · have c3b0 : decide ((j : Int) < (l0.length : Int)) = true := decide_eq_true (by omega)
      have c3b1 : decide (j < l0.length) = true := decide_eq_true (by omega)
      have p395 : 0 ≤ (j : Int) := by omega
      have q395 : (j : Int) < (l0.length : Int) := by omega
      obtain ⟨ad395, e395, hx395_0⟩ := Kd.at_int HR0.out j p395 q395
      cases e395
      replace hx395_0 := (HB.out.cell (World.block_lt_of_cell? w _ hx395_0)).trans hx395_0
      rw [Int.toNat_natCast] at hx395_0
      replace p395 := eq_true p395
      replace q395 := eq_true q395
      go_wp2_with (first | ((go_at_call 105); (with_reducible refine (HF.out j _ hj ?side1).mono ?_); (case side1 => exact (by repeat (first | (with_reducible first | exact HB.out | apply below_alloc | apply pw_below_drewN | apply below_drew1) | exact HB.out))); rintro e w' ⟨rfl, ⟨nd, rfl⟩⟩) | ((with_reducible refine gate_builtin (b := .append) (xs := #[.tmp 15, .tmp 20]) rfl ?_); at_builtin; refine Kd.R_append (Kd.int .u8) (w0 := w) w.heap.size rfl (.tmp 15) (.tmp 20) 38 5 (.int .u8 0) 1 rfl Try.underlying38 info5 rfl (by decide) (by omega) u5 ((List.range j).map g) (g j) [.int .u8 (g j)] (fun _ => True) (fun _ => False) rfl rfl ?aP (fun _ hk => hk.elim) ?aF ?aO ?aB ?aS ?aL ?_; (case aP => exact rfl); (case aB => exact (by repeat (first | (with_reducible first | exact HB.out | apply below_alloc | apply pw_below_drewN | apply below_drew1) | exact HB.out))); (case aF => exact (fun _ _ => trivial)); (case aO => exact (by (with_reducible repeat (first | apply Kd.R_alloc | apply Kd.R_drewN | apply Kd.R_drew)); exact HO_5.out)); (case aS => exact (below_size (by repeat (first | (with_reducible first | exact HB.out | apply below_alloc | apply pw_below_drewN | apply below_drew1) | exact HB.out)))); (case aL => have := HL.out; simp only [List.length_map, List.length_range]; omega); intro v397 w11 ho hb hg hat; rw [← range_map_snoc] at ho; have n0_ := Aside0.mk (hb); have n1_ := Aside0.mk (ho); clear HB; clear HO_5; have HB := n0_; have HO398 := n1_; clear n0_ n1_; clear ho hb hg hat))
      go_roundg (l0.length - j)
      case measure => have := HQ.out; omega
      case rel => exact ⟨j + 1, by congr 1; have := HL.out; unfold wrap64; omega, ⟨by omega⟩, ⟨by omega⟩, ⟨by (with_reducible repeat (first | apply Kd.R_alloc | apply Kd.R_drewN | apply Kd.R_drew)); exact HO398.out⟩, ⟨by repeat (first | (with_reducible first | exact HB.out | apply below_alloc | apply pw_below_drewN | apply below_drew1) | exact HB.out)⟩⟩
    · have hje : j = l0.length := by have := HJ.out; omega
      subst hje
      go_wp2
      go_ret
      exact ⟨_, rfl, by (with_reducible repeat (first | apply Kd.R_alloc | apply Kd.R_drewN | apply Kd.R_drew)); exact HO_5.out, by repeat (first | (with_reducible first | exact HB.out | apply below_alloc | apply pw_below_drewN | apply below_drew1) | exact HB.out)⟩
theorem mask_at (m : List Int) (i : Nat) (hm : isBytes m) : zeros_Mask.f m (i : Int) = some (maskAt m i) := by
  unfold zeros_Mask.f maskAt
  rw [if_neg (by omega)]
  by_cases h0 : m.length = 0
  · rw [if_pos (by omega), if_pos h0]
  · rw [if_neg (by omega), if_neg h0]
    have e : Int.tmod (i : Int) (m.length : Int) = ((i % m.length : Nat) : Int) := by
      rw [Int.tmod_eq_emod_of_nonneg (by omega)]; rfl
    have hlt := Nat.mod_lt i (show m.length > 0 by omega)
    rw [e, if_pos (by omega), if_pos (by omega)]
    show some (m.getD (((i % m.length : Nat) : Int)).toNat 0) = _
    rw [Int.toNat_natCast]
set_option maxHeartbeats 1000000 in
theorem prog_clo (i : Nat) (c : Int) (A1 A2 : Option Addr) (c1 c2 : Nat) (l1 l2 : List Int) (p q : Addr) (w : World) (hcr : 0 ≤ c ∧ c ≤ 255)
    (hp : w.cell? p = some (.slice A1 l1.length c1)) (hq : w.cell? q = some (.slice A2 l2.length c2))
    (hr1 : Kd.C (Kd.int .u8) w A1 l1.length l1) (hb1 : isBytes l1) (hr2 : Kd.C (Kd.int .u8) w A2 l2.length l2) (hc2 : l2.length ≤ c2) (hb2 : isBytes l2) :
    Calls Try.prog 105 #[.int .i64 (i : Int), .int .u8 c, .pointer (some p), .pointer (some q)] w fun e w' => e = .returned (.int .u8 (if i < l1.length then progByte c (rd l1 i) (maskAt l2 i) else c)) ∧ Drawn0 w w' := by
  have HE := Aside0.mk (prog_bits c (rd l1 i) (maskAt l2 i) hcr (rd_range l1 hb1 i) (maskAt_range l2 hb2 i))
  have HR1 := Aside0.mk hr1
  have HR2 := Aside0.mk hr2
  have HC2 := Aside0.mk hc2
  have HM := Aside0.mk (mask_at l2 i hb2)
  clear hr1 hr2 hc2 hb2 hb1 hcr
  by_cases hj : i < l1.length
  · rw [if_pos hj]
    have c3b0 : decide ((l1.length : Int) ≤ (i : Int)) = false := decide_eq_false (by omega)
    have c3b1 : decide (l1.length ≤ i) = false := decide_eq_false (by omega)
    have p395 : 0 ≤ (i : Int) := by omega
    have q395 : (i : Int) < (l1.length : Int) := by omega
    obtain ⟨ad395, e395, hx395_0⟩ := Kd.at_int HR1.out i p395 q395
    cases e395
    rw [Int.toNat_natCast] at hx395_0
    go_enter Try.func105, Try.ntmps105
    go_wp2
    go_quiet ((go_at_call 104; exact (Calls.quiet_of ((zeros_Mask.calls _ _ l2 i (maskAt l2 i) _ (Kd.C_drewN HR2.out _) HC2.out HM.out).mono fun _ _ h => ⟨h.1, h.2.out⟩))))
    rw [HE.out]
    go_wp2
    go_ret
    exact ⟨rfl, ⟨⟨_, rfl⟩⟩⟩
  · rw [if_neg hj]
    have c3b0 : decide ((l1.length : Int) ≤ (i : Int)) = true := decide_eq_true (by omega)
    have c3b1 : decide (l1.length ≤ i) = true := decide_eq_true (by omega)
    go_enter Try.func105, Try.ntmps105
    go_wp2
    go_ret
    exact ⟨rfl, Drawn0.refl _⟩
set_option maxHeartbeats 8000000 in
set_option maxRecDepth 100000 in
theorem zeros_Program.calls (A0 : Option Addr) (c0 : Nat) (l0 : List Int) (A1 : Option Addr) (c1 : Nat) (l1 : List Int) (A2 : Option Addr) (c2 : Nat) (l2 : List Int) (r : List Int) (w : World) (hr0 : Kd.C (Kd.int .u8) w A0 l0.length l0) (hc0 : l0.length ≤ c0) (hr1 : Kd.C (Kd.int .u8) w A1 l1.length l1) (hc1 : l1.length ≤ c1) (hr2 : Kd.C (Kd.int .u8) w A2 l2.length l2) (hc2 : l2.length ≤ c2) (h : zeros_Program.f l0 l1 l2 = some r) :
    Calls Try.prog 71 #[.slice A0 l0.length c0, .slice A1 l1.length c1, .slice A2 l2.length c2] w fun e w' => ∃ v0_ : Value, e = .returned (v0_) ∧ Kd.R (Kd.int .u8) 5 w' w.heap.size (fun _ => True) v0_ r ∧ Below w.heap.size w w' := by
  unfold zeros_Program.f at h
  by_cases hb : isBytes l0 ∧ isBytes l1 ∧ isBytes l2 ∧ l0.length ≤ 1000000
  · rw [if_pos hb] at h
    obtain rfl := Option.some.inj h
    clear h
    obtain ⟨hb0, hb1, hb2, hl⟩ := hb
    have HF := fun (W : World) (hB : Below w.heap.size w W) (p q : Addr) (hp : W.cell? p = some (.slice A1 l1.length c1)) (hq : W.cell? q = some (.slice A2 l2.length c2)) =>
      each_calls #[.pointer (some p), .pointer (some q)] (fun i => if i < l1.length then progByte (rd l0 i) (rd l1 i) (maskAt l2 i) else rd l0 i) A0 c0 l0 W (Kd.C_below hr0 hB) hl
        (fun i W' hi hB' => prog_clo i (rd l0 i) A1 A2 c1 c2 l1 l2 p q W' (rd_range l0 hb0 i) (pw_cell_below hB' hp) (pw_cell_below hB' hq) (Kd.C_below (Kd.C_below hr1 hB) hB') hb1 (Kd.C_below (Kd.C_below hr2 hB) hB') hc2 hb2)
    have HF := Aside0.mk HF
    clear hr0 hr1 hr2 hc0 hc1 hc2 hb0 hb1 hb2 hl
    have hmf : ∀ (fn : Fn) (first cap : Array Value) (w : World), (Instr.makeFunc fn first cap).run Try.prog w = .ok (.func fn first cap) w := fun _ _ _ _ => rfl
    go_enter Try.func71, Try.ntmps71
    go_wp2_with fail
    have HBw : Below w.heap.size w ((w.alloc (Obj.cells #[Value.slice A1 l1.length c1] 38)).alloc (Obj.cells #[Value.slice A2 l2.length c2] 38)) := (by repeat (first | exact Below.refl _ _ | apply below_alloc | apply pw_below_drewN | apply below_drew1))
    refine (HF.out _ HBw ⟨w.heap.size, 0, none⟩ ⟨w.heap.size + 1, 0, none⟩ (by simp) (by simp)).mono ?_
    rintro e w' ⟨v, rfl, hR, hB⟩
    have HR := Aside0.mk (Kd.R_lower hR (show w.heap.size ≤ _ by simp; omega))
    have HB := Aside0.mk (below_step HBw hB)
    clear hR hB HBw HF
    go_wp2
    go_ret
    exact ⟨_, rfl, HR.out, HB.out⟩
  · rw [if_neg hb] at h
    cases h
end Go.Proofs.Ytnchdmidaigheaa.Hp
namespace Go.Proofs.Ytnchdmidaigheaa.Hp
open Go.RowKit Go.Proofs.YtnchdmidaigheaaW.PrintWords Go.Proofs.YtnchdmidaigheaaW.PrintLast Go.Proofs.YtnchdmidaigheaaW.PrintMore
attribute [local go_sem] max2_int min2_int max_two min_two max_three min_three max_four min_four   -- for this text's walks alone
set_option linter.unusedVariables false
set_option linter.unusedSimpArgs false
def zeros_Erase.f (old m : List Int) : Option (List Int) := if isBytes old ∧ isBytes m ∧ old.length ≤ 1000000 then some (wipeRow old m) else none
set_option maxHeartbeats 1000000 in
theorem each_calls2 (cap : Array Value) (g : Nat → Int) (A0 : Option Addr) (c0 : Nat) (l0 : List Int) (w : World) (hr0 : Kd.C (Kd.int .u8) w A0 l0.length l0) (hlen : l0.length ≤ 1000000)
    (hf : ∀ (i : Nat) (W : World), i < l0.length → Below w.heap.size w W → Calls Try.prog 103 (#[.int .i64 (i : Int), .int .u8 (rd l0 (i : Int))] ++ cap) W fun e w' => e = .returned (.int .u8 (g i)) ∧ Drawn0 W w') :
    Calls Try.prog 102 #[.slice A0 l0.length c0, .func (.func 103) #[] cap] w fun e w' => ∃ v0_ : Value, e = .returned (v0_) ∧ Kd.R (Kd.int .u8) 5 w' w.heap.size (fun _ => True) v0_ ((List.range l0.length).map g) ∧ Below w.heap.size w w' := by
  have HR0 := Aside0.mk hr0
  have HL := Aside0.mk hlen
  have HF := Aside0.mk hf
  clear hr0 hlen hf
  have HB := Aside0.mk (Below.refl w.heap.size w)
  go_enter Try.func102, Try.ntmps102
  go_wp2
  go_loopg [5, 10] (l0.length + 1) (fun kq v5 v10 w' => ∃ (j : Nat), v10 = .int .i64 j ∧ Aside0 (j ≤ l0.length) ∧ Aside0 (kq + j = l0.length + 1) ∧ Aside0 (Kd.R (Kd.int .u8) 5 w' w.heap.size (fun _ => True) v5 ((List.range j).map g)) ∧ Aside0 (Below w.heap.size w w'))
  case atStart => exact ⟨0, rfl, ⟨by omega⟩, ⟨by omega⟩, ⟨Kd.R_nil _ _ _ _ _⟩, ⟨by repeat (first | (with_reducible first | exact HB.out | apply below_alloc | apply pw_below_drewN | apply below_drew1) | exact HB.out)⟩⟩
  case round =>
    obtain ⟨j, rfl, HJ, HQ, HO_5, HB⟩ := hrel
    by_cases hj : j < l0.length
    · have c3b0 : decide ((j : Int) < (l0.length : Int)) = true := decide_eq_true (by omega)
      have c3b1 : decide (j < l0.length) = true := decide_eq_true (by omega)
      have p395 : 0 ≤ (j : Int) := by omega
      have q395 : (j : Int) < (l0.length : Int) := by omega
      obtain ⟨ad395, e395, hx395_0⟩ := Kd.at_int HR0.out j p395 q395
      cases e395
      replace hx395_0 := (HB.out.cell (World.block_lt_of_cell? w _ hx395_0)).trans hx395_0
      rw [Int.toNat_natCast] at hx395_0
      replace p395 := eq_true p395
      replace q395 := eq_true q395
      go_wp2_with (first | ((go_at_call 103); (with_reducible refine (HF.out j _ hj ?side1).mono ?_); (case side1 => exact (by repeat (first | (with_reducible first | exact HB.out | apply below_alloc | apply pw_below_drewN | apply below_drew1) | exact HB.out))); rintro e w' ⟨rfl, ⟨nd, rfl⟩⟩) | ((with_reducible refine gate_builtin (b := .append) (xs := #[.tmp 15, .tmp 20]) rfl ?_); at_builtin; refine Kd.R_append (Kd.int .u8) (w0 := w) w.heap.size rfl (.tmp 15) (.tmp 20) 38 5 (.int .u8 0) 1 rfl Try.underlying38 info5 rfl (by decide) (by omega) u5 ((List.range j).map g) (g j) [.int .u8 (g j)] (fun _ => True) (fun _ => False) rfl rfl ?aP (fun _ hk => hk.elim) ?aF ?aO ?aB ?aS ?aL ?_; (case aP => exact rfl); (case aB => exact (by repeat (first | (with_reducible first | exact HB.out | apply below_alloc | apply pw_below_drewN | apply below_drew1) | exact HB.out))); (case aF => exact (fun _ _ => trivial)); (case aO => exact (by (with_reducible repeat (first | apply Kd.R_alloc | apply Kd.R_drewN | apply Kd.R_drew)); exact HO_5.out)); (case aS => exact (below_size (by repeat (first | (with_reducible first | exact HB.out | apply below_alloc | apply pw_below_drewN | apply below_drew1) | exact HB.out)))); (case aL => have := HL.out; simp only [List.length_map, List.length_range]; omega); intro v397 w11 ho hb hg hat; rw [← range_map_snoc] at ho; have n0_ := Aside0.mk (hb); have n1_ := Aside0.mk (ho); clear HB; clear HO_5; have HB := n0_; have HO398 := n1_; clear n0_ n1_; clear ho hb hg hat))
      go_roundg (l0.length - j)
      case measure => have := HQ.out; omega
      case rel => exact ⟨j + 1, by congr 1; have := HL.out; unfold wrap64; omega, ⟨by omega⟩, ⟨by omega⟩, ⟨by (with_reducible repeat (first | apply Kd.R_alloc | apply Kd.R_drewN | apply Kd.R_drew)); exact HO398.out⟩, ⟨by repeat (first | (with_reducible first | exact HB.out | apply below_alloc | apply pw_below_drewN | apply below_drew1) | exact HB.out)⟩⟩
    · have hje : j = l0.length := by have := HJ.out; omega
      subst hje
      go_wp2
      go_ret
      exact ⟨_, rfl, by (with_reducible repeat (first | apply Kd.R_alloc | apply Kd.R_drewN | apply Kd.R_drew)); exact HO_5.out, by repeat (first | (with_reducible first | exact HB.out | apply below_alloc | apply pw_below_drewN | apply below_drew1) | exact HB.out)⟩
set_option maxHeartbeats 1000000 in
theorem erase_clo (i : Nat) (c : Int) (A2 : Option Addr) (c2 : Nat) (l2 : List Int) (q : Addr) (w : World) (hcr : 0 ≤ c ∧ c ≤ 255)
    (hq : w.cell? q = some (.slice A2 l2.length c2)) (hr2 : Kd.C (Kd.int .u8) w A2 l2.length l2) (hc2 : l2.length ≤ c2) (hb2 : isBytes l2) :
    Calls Try.prog 103 #[.int .i64 (i : Int), .int .u8 c, .pointer (some q)] w fun e w' => e = .returned (.int .u8 ((c.toNat ||| (maskAt l2 i).toNat : Nat) : Int)) ∧ Drawn0 w w' := by
  have HE := Aside0.mk (wipe_bits c (maskAt l2 i) hcr (maskAt_range l2 hb2 i))
  have HR2 := Aside0.mk hr2
  have HC2 := Aside0.mk hc2
  have HM := Aside0.mk (mask_at l2 i hb2)
  clear hr2 hc2 hb2 hcr
  go_enter Try.func103, Try.ntmps103
  go_wp2_with ((go_at_call 104); (with_reducible refine (zeros_Mask.calls _ _ l2 i (maskAt l2 i) _ HR2.out HC2.out HM.out).mono ?_); rintro e w' ⟨rfl, ⟨nd, rfl⟩⟩)
  rw [HE.out]
  go_ret
  exact ⟨rfl, ⟨⟨_, rfl⟩⟩⟩
set_option maxHeartbeats 8000000 in
set_option maxRecDepth 100000 in
theorem zeros_Erase.calls (A0 : Option Addr) (c0 : Nat) (l0 : List Int) (A1 : Option Addr) (c1 : Nat) (l1 : List Int) (r : List Int) (w : World) (hr0 : Kd.C (Kd.int .u8) w A0 l0.length l0) (hc0 : l0.length ≤ c0) (hr1 : Kd.C (Kd.int .u8) w A1 l1.length l1) (hc1 : l1.length ≤ c1) (h : zeros_Erase.f l0 l1 = some r) :
    Calls Try.prog 67 #[.slice A0 l0.length c0, .slice A1 l1.length c1] w fun e w' => ∃ v0_ : Value, e = .returned (v0_) ∧ Kd.R (Kd.int .u8) 5 w' w.heap.size (fun _ => True) v0_ r ∧ Below w.heap.size w w' := by
  unfold zeros_Erase.f at h
  by_cases hb : isBytes l0 ∧ isBytes l1 ∧ l0.length ≤ 1000000
  · rw [if_pos hb] at h
    obtain rfl := Option.some.inj h
    clear h
    obtain ⟨hb0, hb1, hl⟩ := hb
    have HF := fun (W : World) (hB : Below w.heap.size w W) (q : Addr) (hq : W.cell? q = some (.slice A1 l1.length c1)) =>
      each_calls2 #[.pointer (some q)] (fun i => (((rd l0 i).toNat ||| (maskAt l1 i).toNat : Nat) : Int)) A0 c0 l0 W (Kd.C_below hr0 hB) hl
        (fun i W' hi hB' => erase_clo i (rd l0 i) A1 c1 l1 q W' (rd_range l0 hb0 i) (pw_cell_below hB' hq) (Kd.C_below (Kd.C_below hr1 hB) hB') hc1 hb1)
    have HF := Aside0.mk HF
    clear hr0 hr1 hc0 hc1 hb0 hb1 hl
    have hmf : ∀ (fn : Fn) (first cap : Array Value) (w : World), (Instr.makeFunc fn first cap).run Try.prog w = .ok (.func fn first cap) w := fun _ _ _ _ => rfl
    go_enter Try.func67, Try.ntmps67
    go_wp2_with fail
    have HBw : Below w.heap.size w (w.alloc (Obj.cells #[Value.slice A1 l1.length c1] 38)) := (by repeat (first | exact Below.refl _ _ | apply below_alloc | apply pw_below_drewN | apply below_drew1))
    refine (HF.out _ HBw ⟨w.heap.size, 0, none⟩ (by simp)).mono ?_
    rintro e w' ⟨v, rfl, hR, hB⟩
    have HR := Aside0.mk (Kd.R_lower hR (show w.heap.size ≤ _ by simp))
    have HB := Aside0.mk (below_step HBw hB)
    clear hR hB HBw HF
    go_wp2
    go_ret
    exact ⟨_, rfl, HR.out, HB.out⟩
  · rw [if_neg hb] at h
    cases h
end Go.Proofs.Ytnchdmidaigheaa.Hp
namespace Go.Proofs.Ytnchdmidaigheaa.ND
set_option linter.unusedVariables false
set_option linter.unusedSimpArgs false
open Go.RowKit Go.Proofs.Ytnchdmidaigheaa.Hp Go.Proofs.YtnchdmidaigheaaW.PrintWords Go.Proofs.YtnchdmidaigheaaW.PrintLast Go.Proofs.YtnchdmidaigheaaW.PrintMore
set_option maxHeartbeats 1000000 in
set_option maxRecDepth 100000 in
theorem prog1_calls {W : World} {hb hm : Nat} {tb tm : Nat} {Ab Am A0 : Option Addr} {cb cm c0 : Nat} {l m o : List Int} (hzb : W.heap[hb]? = some (.cells #[.slice Ab l.length cb] tb (0, 0))) (hzm : W.heap[hm]? = some (.cells #[.slice Am m.length cm] tm (0, 0)))
    (hl : isBytes l ∧ l.length ≤ cb) (hm' : isBytes m ∧ m.length ≤ cm) (ho : isBytes o ∧ o.length = 256) (hc0 : 256 ≤ c0) (gl : Kd.C (Kd.int .u8) W Ab l.length l) (gm : Kd.C (Kd.int .u8) W Am m.length m) (go : Kd.C (Kd.int .u8) W A0 256 o) (ok : Nat → Prop) :
    Calls Try.prog 70 (#[.slice A0 256 c0] ++ #[.pointer (some ⟨hb, 0, none⟩), .pointer (some ⟨hm, 0, none⟩)]) W fun e w' => ∃ A c, e = .returned (.slice A 256 c) ∧ 256 ≤ c ∧ Kd.F (Kd.int .u8) w' (newer W ok) A 256 (progRow o l m) ∧ Below W.heap.size W w' := by
  have x0 := blk_cell hzb 0
  have x1 := blk_cell hzm 0
  have hP := zeros_Program.calls A0 c0 o Ab cb l Am cm m (progRow o l m) W (by rw [ho.2]; exact go) (by rw [ho.2]; exact hc0) gl hl.2 gm hm'.2 (by unfold zeros_Program.f; rw [if_pos ⟨ho.1, hl.1, hm'.1, by rw [ho.2]; omega⟩])
  have hlen : (progRow o l m).length = 256 := (progRow_ok ho.1 ho.2).2
  rw [ho.2] at hP
  have HP := Aside0.mk hP
  clear hP hzb hzm hl hm' gl gm go ho hc0
  show Calls Try.prog 70 #[.slice A0 256 c0, .pointer (some ⟨hb, 0, none⟩), .pointer (some ⟨hm, 0, none⟩)] W _
  go_enter Try.func70, Try.ntmps70
  go_wp2_with (go_at_call 71; refine HP.out.mono ?_; rintro e w2 ⟨v, rfl, hR, hb⟩; have HR := Aside0.mk (And.intro hR hb); clear hR hb)
  go_ret
  obtain ⟨A, c, rfl, hc, hF⟩ := fresh_F HR.out.1 ok
  rw [hlen] at hc hF ⊢
  exact ⟨A, c, rfl, hc, hF, HR.out.2⟩
set_option maxHeartbeats 1000000 in
set_option maxRecDepth 100000 in
theorem erase1_calls {W : World} {hm : Nat} {tm : Nat} {Am A0 : Option Addr} {cm c0 : Nat} {m o : List Int} (hzm : W.heap[hm]? = some (.cells #[.slice Am m.length cm] tm (0, 0)))
    (hm' : isBytes m ∧ m.length ≤ cm) (ho : isBytes o ∧ o.length = 256) (hc0 : 256 ≤ c0) (gm : Kd.C (Kd.int .u8) W Am m.length m) (go : Kd.C (Kd.int .u8) W A0 256 o) (ok : Nat → Prop) :
    Calls Try.prog 66 (#[.slice A0 256 c0] ++ #[.pointer (some ⟨hm, 0, none⟩)]) W fun e w' => ∃ A c, e = .returned (.slice A 256 c) ∧ 256 ≤ c ∧ Kd.F (Kd.int .u8) w' (newer W ok) A 256 (wipeRow o m) ∧ Below W.heap.size W w' := by
  have x1 := blk_cell hzm 0
  have hP := zeros_Erase.calls A0 c0 o Am cm m (wipeRow o m) W (by rw [ho.2]; exact go) (by rw [ho.2]; exact hc0) gm hm'.2 (by unfold zeros_Erase.f; rw [if_pos ⟨ho.1, hm'.1, by rw [ho.2]; omega⟩])
  have hlen : (wipeRow o m).length = 256 := (wipeRow_ok ho.1 hm'.1 ho.2).2
  rw [ho.2] at hP
  have HP := Aside0.mk hP
  clear hP hzm hm' gm go ho hc0
  show Calls Try.prog 66 #[.slice A0 256 c0, .pointer (some ⟨hm, 0, none⟩)] W _
  go_enter Try.func66, Try.ntmps66
  go_wp2_with (go_at_call 67; refine HP.out.mono ?_; rintro e w2 ⟨v, rfl, hR, hb⟩; have HR := Aside0.mk (And.intro hR hb); clear hR hb)
  go_ret
  obtain ⟨A, c, rfl, hc, hF⟩ := fresh_F HR.out.1 ok
  rw [hlen] at hc hF ⊢
  exact ⟨A, c, rfl, hc, hF, HR.out.2⟩
end Go.Proofs.Ytnchdmidaigheaa.ND
namespace Go.Proofs.Ytnchdmidaigheaa.Hp
open Go.RowKit Go.Proofs.YtnchdmidaigheaaW.PrintWords Go.Proofs.YtnchdmidaigheaaW.PrintLast Go.Proofs.YtnchdmidaigheaaW.PrintMore
attribute [local go_sem] max2_int min2_int max_two min_two max_three min_three max_four min_four   -- for this text's walks alone
set_option linter.unusedVariables false
set_option linter.unusedSimpArgs false
def geom_Check.f (a b c : Int) : Option Int := some (if within a 8 34 && (within b 4 32 && within c 0 8) then 0 else 3)
theorem geom_Check.within_calls (n a b : Int) (r : Bool) (w : World) (h : within n a b = r) : Calls Try.prog 101 #[.int .i64 n, .int .i64 a, .int .i64 b] w fun e w' => e = .returned (.bool r) ∧ Drawn0 w w' := by
  unfold within at h
  subst h
  by_cases h1 : a ≤ n <;> by_cases h2 : n ≤ b
  all_goals
    go_enter Try.func101, Try.ntmps101
    go_wp2
    go_ret
    exact ⟨by simp [h1, h2], Drawn0.refl _⟩
set_option maxHeartbeats 8000000 in
set_option maxRecDepth 100000 in
theorem geom_Check.calls (a0_0 : Int) (a0_1 : Int) (a0_2 : Int) (r : Int) (w : World) (h : geom_Check.f a0_0 a0_1 a0_2 = some r) :
    Calls Try.prog 60 #[.agg #[.int .i64 a0_0, .int .i64 a0_1, .int .i64 a0_2]] w fun e w' => e = .returned (.int .i64 r) ∧ Below w.heap.size w w' := by
  have h := Option.some.inj h
  obtain ⟨b1, h1⟩ : ∃ b, within a0_0 8 34 = b := ⟨_, rfl⟩
  obtain ⟨b2, h2⟩ : ∃ b, within a0_1 4 32 = b := ⟨_, rfl⟩
  obtain ⟨b3, h3⟩ : ∃ b, within a0_2 0 8 = b := ⟨_, rfl⟩
  rw [h1, h2, h3] at h
  have H1 := Aside0.mk h1
  have H2 := Aside0.mk h2
  have H3 := Aside0.mk h3
  clear h1 h2 h3
  cases b1 <;> cases b2 <;> cases b3 <;> simp only [Bool.false_and, Bool.true_and, Bool.and_false, Bool.and_true, if_true, Bool.false_eq_true, if_false] at h <;> subst h
  all_goals
    go_enter Try.func60, Try.ntmps60
    go_wp2_with ((go_at_call 101); (first | (with_reducible refine (geom_Check.within_calls a0_0 8 34 _ _ H1.out).mono ?_) | (with_reducible refine (geom_Check.within_calls a0_1 4 32 _ _ H2.out).mono ?_) | (with_reducible refine (geom_Check.within_calls a0_2 0 8 _ _ H3.out).mono ?_)); rintro e w' ⟨rfl, ⟨n, rfl⟩⟩)
    go_ret
    exact ⟨rfl, by repeat (first | exact Below.refl _ _ | apply below_alloc | apply pw_below_drewN | apply below_drew1)⟩
end Go.Proofs.Ytnchdmidaigheaa.Hp
namespace Go.Proofs.Ytnchdmidaigheaa.Hp
open Go.RowKit Go.Proofs.YtnchdmidaigheaaW.PrintWords Go.Proofs.YtnchdmidaigheaaW.PrintLast Go.Proofs.YtnchdmidaigheaaW.PrintMore
attribute [local go_sem] max2_int min2_int max_two min_two max_three min_three max_four min_four   -- for this text's walks alone
set_option linter.unusedVariables false
set_option linter.unusedSimpArgs false
def geom_Place.f (a0_0 : Int) (a0_1 : Int) (a0_2 : Int) (a1_0 : Int) (a1_1 : Int) : Option (Int) := (geom_Check.f a0_0 a0_1 a0_2).bind fun t115 => (if t115 = 0 then (if a1_0 < 0 then (some (-1)) else (if a1_0 ≥ a0_0 then (some (-1)) else (if a1_1 < 0 then (some (-1)) else (if a1_1 ≥ a0_1 then (some (-1)) else (some (wrap64 ((wrap64 (a1_0 * a0_1)) + a1_1))))))) else (some (-1)))
set_option maxHeartbeats 8000000 in
set_option maxRecDepth 100000 in
theorem geom_Place.calls (a0_0 : Int) (a0_1 : Int) (a0_2 : Int) (a1_0 : Int) (a1_1 : Int) (r : Int) (w : World) (h : geom_Place.f a0_0 a0_1 a0_2 a1_0 a1_1 = some r) :
    Calls Try.prog 69 #[.agg #[.int .i64 a0_0, .int .i64 a0_1, .int .i64 a0_2], .agg #[.int .i64 a1_0, .int .i64 a1_1]] w fun e w' => e = .returned (.int .i64 r) ∧ Below w.heap.size w w' := by
  have hu23 := Try.underlying23
  have hu37 := Try.underlying37
  have HB := Aside0.mk (Below.refl w.heap.size w)
  have H : ((geom_Check.f a0_0 a0_1 a0_2).bind fun t115 => (if t115 = 0 then (if a1_0 < 0 then (some (-1)) else (if a1_0 ≥ a0_0 then (some (-1)) else (if a1_1 < 0 then (some (-1)) else (if a1_1 ≥ a0_1 then (some (-1)) else (some (wrap64 ((wrap64 (a1_0 * a0_1)) + a1_1))))))) else (some (-1)))) = some r := h
  clear h
  replace H := Option.bind_eq_some_iff.mp H
  obtain ⟨t115, A30, H⟩ := H
  replace H : (if t115 = 0 then (if a1_0 < 0 then (some (-1)) else (if a1_0 ≥ a0_0 then (some (-1)) else (if a1_1 < 0 then (some (-1)) else (if a1_1 ≥ a0_1 then (some (-1)) else (some (wrap64 ((wrap64 (a1_0 * a0_1)) + a1_1))))))) else (some (-1))) = some r := H
  have A3 := Aside0.mk A30
  clear A30
  by_cases c4 : t115 = 0
  · rw [if_pos c4] at H
    have c4b0 : (t115 == 0) = true := beq_iff_eq.mpr c4
    have c4b1 : (t115 != 0) = false := bne_eq_false_iff_eq.mpr c4
    clear c4
    by_cases c5 : a1_0 < 0
    · rw [if_pos c5] at H
      have c5b0 : decide (a1_0 < 0) = true := decide_eq_true c5
      clear c5
      obtain rfl := Option.some.inj H
      go_enter Try.func69, Try.ntmps69
      go_wp2_with (first | ((with_reducible refine gate_dst (N := 2) rfl ?_); refine box_event ?hg (N := 2) ?hd (cs := #[.int .i64 a0_0, .int .i64 a0_1, .int .i64 a0_2]) (t := 23) ?hr ?_; (case hd => rfl); (case hg => rfl); (case hr => first | (go_simp; done) | (go_simp; rfl)); intro gb113 hg w6 hbox hb; have n0_ := Aside0.mk (below_step (by repeat (first | (with_reducible first | exact HB.out | apply below_alloc | apply pw_below_drewN | apply below_drew1) | exact HB.out)) hb); have n1_ := Aside0.mk (hbox); have n2_ := Aside0.mk ((by rw [hg]; exact (below_size (by repeat (first | (with_reducible first | exact HB.out | apply below_alloc | apply pw_below_drewN | apply below_drew1) | exact HB.out))) : w.heap.size ≤ gb113)); have n3_ := Aside0.mk ((by rw [hg]; exact (below_size (by repeat (first | (with_reducible first | exact HB.out | apply below_alloc | apply pw_below_drewN | apply below_drew1) | exact HB.out))) : w.heap.size ≤ gb113)); clear HB; have HB := n0_; have BK113 := n1_; have GW113 := n2_; have GE113 := n3_; clear n0_ n1_ n2_ n3_; clear hb hbox hg) | ((with_reducible refine gate_dst (N := 3) rfl ?_); refine box_event ?hg (N := 3) ?hd (cs := #[.int .i64 a1_0, .int .i64 a1_1]) (t := 37) ?hr ?_; (case hd => rfl); (case hg => rfl); (case hr => first | (go_simp; done) | (go_simp; rfl)); intro gb114 hg w7 hbox hb; have n0_ := Aside0.mk (blk_below (g := gb113) (o := .cells #[.int .i64 a0_0, .int .i64 a0_1, .int .i64 a0_2] 23 (0, 0)) (by (with_reducible repeat (first | refine blk_drewN ?_ _ | refine blk_drew ?_ | refine blk_alloc ?_ _)); exact BK113.out) hb); have n1_ := Aside0.mk (below_step (by repeat (first | (with_reducible first | exact HB.out | apply below_alloc | apply pw_below_drewN | apply below_drew1 | refine below_set ?_ GE113.out) | exact HB.out)) hb); have n2_ := Aside0.mk (hbox); have n3_ := Aside0.mk ((by rw [hg]; exact (below_size (by repeat (first | (with_reducible first | exact HB.out | apply below_alloc | apply pw_below_drewN | apply below_drew1 | refine below_set ?_ GE113.out) | exact HB.out))) : w.heap.size ≤ gb114)); have n4_ := Aside0.mk ((by rw [hg]; exact (below_size (by repeat (first | (with_reducible first | exact HB.out | apply below_alloc | apply pw_below_drewN | apply below_drew1 | refine below_set ?_ GE113.out) | exact HB.out))) : w.heap.size ≤ gb114)); have n5_ := Aside0.mk ((by rw [hg]; exact Nat.ne_of_lt (blk_lt (g := gb113) (o := .cells #[.int .i64 a0_0, .int .i64 a0_1, .int .i64 a0_2] 23 (0, 0)) (by (with_reducible repeat (first | refine blk_drewN ?_ _ | refine blk_drew ?_ | refine blk_alloc ?_ _)); exact BK113.out)) : gb113 ≠ gb114)); have n6_ := Aside0.mk ((by rw [hg]; exact Nat.ne_of_gt (blk_lt (g := gb113) (o := .cells #[.int .i64 a0_0, .int .i64 a0_1, .int .i64 a0_2] 23 (0, 0)) (by (with_reducible repeat (first | refine blk_drewN ?_ _ | refine blk_drew ?_ | refine blk_alloc ?_ _)); exact BK113.out)) : gb114 ≠ gb113)); clear BK113; clear HB; have BK113 := n0_; have HB := n1_; have BK114 := n2_; have GW114 := n3_; have GE114 := n4_; have NB113_114 := n5_; have NB114_113 := n6_; clear n0_ n1_ n2_ n3_ n4_ n5_ n6_; clear hb hbox hg; have hnb8 := NB113_114.out; have hnc8 := NB114_113.out; have hcz9_0 : w7.cell? ⟨gb113, 0, none⟩ = some (.int .i64 a0_0) := (blk_cell BK113.out 0).trans rfl; have hcz9_1 : w7.cell? ⟨gb113, 1, none⟩ = some (.int .i64 a0_1) := (blk_cell BK113.out 1).trans rfl; have hcz9_2 : w7.cell? ⟨gb113, 2, none⟩ = some (.int .i64 a0_2) := (blk_cell BK113.out 2).trans rfl; have hfz9_0 := blk_frozen BK113.out 0; have hfz9_1 := blk_frozen BK113.out 1; have hfz9_2 := blk_frozen BK113.out 2) | ((with_reducible refine gate_callee (f := 60) rfl ?_); refine goesL_ (some 6) rfl rfl Try.func60 (by kernel_rfl) rfl #[.agg #[.int .i64 a0_0, .int .i64 a0_1, .int .i64 a0_2]] rfl (by (try simp only [List.map_toArray, List.map_cons, List.map_nil]); first | done | rfl | (simp only [List.length_drop, List.length_take]; rfl)) ?_; (with_reducible refine (geom_Check.calls a0_0 a0_1 a0_2 t115 _ A3.out).mono ?_); rintro e w10 ⟨rfl, hb⟩; refine ⟨_, rfl, ?_⟩; have n0_ := Aside0.mk (blk_below (g := gb113) (o := .cells #[.int .i64 a0_0, .int .i64 a0_1, .int .i64 a0_2] 23 (0, 0)) (by (with_reducible repeat (first | refine blk_drewN ?_ _ | refine blk_drew ?_ | refine blk_alloc ?_ _)); exact BK113.out) hb); have n1_ := Aside0.mk (blk_below (g := gb114) (o := .cells #[.int .i64 a1_0, .int .i64 a1_1] 37 (0, 0)) (by (with_reducible repeat (first | refine blk_drewN ?_ _ | refine blk_drew ?_ | refine blk_alloc ?_ _)); exact BK114.out) hb); have n2_ := Aside0.mk (below_step (by repeat (first | (with_reducible first | exact HB.out | apply below_alloc | apply pw_below_drewN | apply below_drew1 | refine below_set ?_ GE113.out | refine below_set ?_ GE114.out) | exact HB.out)) hb); clear BK113; clear BK114; clear HB; have BK113 := n0_; have BK114 := n1_; have HB := n2_; clear n0_ n1_ n2_; (try clear hb); (try clear hb2); (try clear hk); (try clear hi); have hcz11_0 : w10.cell? ⟨gb114, 0, none⟩ = some (.int .i64 a1_0) := (blk_cell BK114.out 0).trans rfl; have hcz11_1 : w10.cell? ⟨gb114, 1, none⟩ = some (.int .i64 a1_1) := (blk_cell BK114.out 1).trans rfl; have hfz11_0 := blk_frozen BK114.out 0; have hfz11_1 := blk_frozen BK114.out 1))
      go_ret
      exact ⟨by first | rfl | (simp [errW_none, errW_some] <;> rfl) | (simp [*, errW_none, errW_some] <;> rfl), by repeat (first | (with_reducible first | exact HB.out | apply below_alloc | apply pw_below_drewN | apply below_drew1 | refine below_set ?_ GE113.out | refine below_set ?_ GE114.out) | exact HB.out)⟩
    · rw [if_neg c5] at H
      have c5b0 : decide (a1_0 < 0) = false := decide_eq_false c5
      clear c5
      by_cases c12 : a1_0 ≥ a0_0
      · rw [if_pos c12] at H
        have c12b0 : decide (a0_0 ≤ a1_0) = true := decide_eq_true c12
        clear c12
        obtain rfl := Option.some.inj H
        go_enter Try.func69, Try.ntmps69
        go_wp2_with (first | ((with_reducible refine gate_dst (N := 2) rfl ?_); refine box_event ?hg (N := 2) ?hd (cs := #[.int .i64 a0_0, .int .i64 a0_1, .int .i64 a0_2]) (t := 23) ?hr ?_; (case hd => rfl); (case hg => rfl); (case hr => first | (go_simp; done) | (go_simp; rfl)); intro gb113 hg w13 hbox hb; have n0_ := Aside0.mk (below_step (by repeat (first | (with_reducible first | exact HB.out | apply below_alloc | apply pw_below_drewN | apply below_drew1) | exact HB.out)) hb); have n1_ := Aside0.mk (hbox); have n2_ := Aside0.mk ((by rw [hg]; exact (below_size (by repeat (first | (with_reducible first | exact HB.out | apply below_alloc | apply pw_below_drewN | apply below_drew1) | exact HB.out))) : w.heap.size ≤ gb113)); have n3_ := Aside0.mk ((by rw [hg]; exact (below_size (by repeat (first | (with_reducible first | exact HB.out | apply below_alloc | apply pw_below_drewN | apply below_drew1) | exact HB.out))) : w.heap.size ≤ gb113)); clear HB; have HB := n0_; have BK113 := n1_; have GW113 := n2_; have GE113 := n3_; clear n0_ n1_ n2_ n3_; clear hb hbox hg) | ((with_reducible refine gate_dst (N := 3) rfl ?_); refine box_event ?hg (N := 3) ?hd (cs := #[.int .i64 a1_0, .int .i64 a1_1]) (t := 37) ?hr ?_; (case hd => rfl); (case hg => rfl); (case hr => first | (go_simp; done) | (go_simp; rfl)); intro gb114 hg w14 hbox hb; have n0_ := Aside0.mk (blk_below (g := gb113) (o := .cells #[.int .i64 a0_0, .int .i64 a0_1, .int .i64 a0_2] 23 (0, 0)) (by (with_reducible repeat (first | refine blk_drewN ?_ _ | refine blk_drew ?_ | refine blk_alloc ?_ _)); exact BK113.out) hb); have n1_ := Aside0.mk (below_step (by repeat (first | (with_reducible first | exact HB.out | apply below_alloc | apply pw_below_drewN | apply below_drew1 | refine below_set ?_ GE113.out) | exact HB.out)) hb); have n2_ := Aside0.mk (hbox); have n3_ := Aside0.mk ((by rw [hg]; exact (below_size (by repeat (first | (with_reducible first | exact HB.out | apply below_alloc | apply pw_below_drewN | apply below_drew1 | refine below_set ?_ GE113.out) | exact HB.out))) : w.heap.size ≤ gb114)); have n4_ := Aside0.mk ((by rw [hg]; exact (below_size (by repeat (first | (with_reducible first | exact HB.out | apply below_alloc | apply pw_below_drewN | apply below_drew1 | refine below_set ?_ GE113.out) | exact HB.out))) : w.heap.size ≤ gb114)); have n5_ := Aside0.mk ((by rw [hg]; exact Nat.ne_of_lt (blk_lt (g := gb113) (o := .cells #[.int .i64 a0_0, .int .i64 a0_1, .int .i64 a0_2] 23 (0, 0)) (by (with_reducible repeat (first | refine blk_drewN ?_ _ | refine blk_drew ?_ | refine blk_alloc ?_ _)); exact BK113.out)) : gb113 ≠ gb114)); have n6_ := Aside0.mk ((by rw [hg]; exact Nat.ne_of_gt (blk_lt (g := gb113) (o := .cells #[.int .i64 a0_0, .int .i64 a0_1, .int .i64 a0_2] 23 (0, 0)) (by (with_reducible repeat (first | refine blk_drewN ?_ _ | refine blk_drew ?_ | refine blk_alloc ?_ _)); exact BK113.out)) : gb114 ≠ gb113)); clear BK113; clear HB; have BK113 := n0_; have HB := n1_; have BK114 := n2_; have GW114 := n3_; have GE114 := n4_; have NB113_114 := n5_; have NB114_113 := n6_; clear n0_ n1_ n2_ n3_ n4_ n5_ n6_; clear hb hbox hg; have hnb15 := NB113_114.out; have hnc15 := NB114_113.out; have hcz16_0 : w14.cell? ⟨gb113, 0, none⟩ = some (.int .i64 a0_0) := (blk_cell BK113.out 0).trans rfl; have hcz16_1 : w14.cell? ⟨gb113, 1, none⟩ = some (.int .i64 a0_1) := (blk_cell BK113.out 1).trans rfl; have hcz16_2 : w14.cell? ⟨gb113, 2, none⟩ = some (.int .i64 a0_2) := (blk_cell BK113.out 2).trans rfl; have hfz16_0 := blk_frozen BK113.out 0; have hfz16_1 := blk_frozen BK113.out 1; have hfz16_2 := blk_frozen BK113.out 2) | ((with_reducible refine gate_callee (f := 60) rfl ?_); refine goesL_ (some 6) rfl rfl Try.func60 (by kernel_rfl) rfl #[.agg #[.int .i64 a0_0, .int .i64 a0_1, .int .i64 a0_2]] rfl (by (try simp only [List.map_toArray, List.map_cons, List.map_nil]); first | done | rfl | (simp only [List.length_drop, List.length_take]; rfl)) ?_; (with_reducible refine (geom_Check.calls a0_0 a0_1 a0_2 t115 _ A3.out).mono ?_); rintro e w17 ⟨rfl, hb⟩; refine ⟨_, rfl, ?_⟩; have n0_ := Aside0.mk (blk_below (g := gb113) (o := .cells #[.int .i64 a0_0, .int .i64 a0_1, .int .i64 a0_2] 23 (0, 0)) (by (with_reducible repeat (first | refine blk_drewN ?_ _ | refine blk_drew ?_ | refine blk_alloc ?_ _)); exact BK113.out) hb); have n1_ := Aside0.mk (blk_below (g := gb114) (o := .cells #[.int .i64 a1_0, .int .i64 a1_1] 37 (0, 0)) (by (with_reducible repeat (first | refine blk_drewN ?_ _ | refine blk_drew ?_ | refine blk_alloc ?_ _)); exact BK114.out) hb); have n2_ := Aside0.mk (below_step (by repeat (first | (with_reducible first | exact HB.out | apply below_alloc | apply pw_below_drewN | apply below_drew1 | refine below_set ?_ GE113.out | refine below_set ?_ GE114.out) | exact HB.out)) hb); clear BK113; clear BK114; clear HB; have BK113 := n0_; have BK114 := n1_; have HB := n2_; clear n0_ n1_ n2_; (try clear hb); (try clear hb2); (try clear hk); (try clear hi); have hcz18_0 : w17.cell? ⟨gb114, 0, none⟩ = some (.int .i64 a1_0) := (blk_cell BK114.out 0).trans rfl; have hcz18_1 : w17.cell? ⟨gb114, 1, none⟩ = some (.int .i64 a1_1) := (blk_cell BK114.out 1).trans rfl; have hfz18_0 := blk_frozen BK114.out 0; have hfz18_1 := blk_frozen BK114.out 1; have hcz19_0 : w17.cell? ⟨gb113, 0, none⟩ = some (.int .i64 a0_0) := (blk_cell BK113.out 0).trans rfl; have hcz19_1 : w17.cell? ⟨gb113, 1, none⟩ = some (.int .i64 a0_1) := (blk_cell BK113.out 1).trans rfl; have hcz19_2 : w17.cell? ⟨gb113, 2, none⟩ = some (.int .i64 a0_2) := (blk_cell BK113.out 2).trans rfl; have hfz19_0 := blk_frozen BK113.out 0; have hfz19_1 := blk_frozen BK113.out 1; have hfz19_2 := blk_frozen BK113.out 2))
        go_ret
        exact ⟨by first | rfl | (simp [errW_none, errW_some] <;> rfl) | (simp [*, errW_none, errW_some] <;> rfl), by repeat (first | (with_reducible first | exact HB.out | apply below_alloc | apply pw_below_drewN | apply below_drew1 | refine below_set ?_ GE113.out | refine below_set ?_ GE114.out) | exact HB.out)⟩
      · rw [if_neg c12] at H
        have c12b0 : decide (a0_0 ≤ a1_0) = false := decide_eq_false c12
        clear c12
        by_cases c20 : a1_1 < 0
        · rw [if_pos c20] at H
          have c20b0 : decide (a1_1 < 0) = true := decide_eq_true c20
          clear c20
          obtain rfl := Option.some.inj H
          go_enter Try.func69, Try.ntmps69
          go_wp2_with (first | ((with_reducible refine gate_dst (N := 2) rfl ?_); refine box_event ?hg (N := 2) ?hd (cs := #[.int .i64 a0_0, .int .i64 a0_1, .int .i64 a0_2]) (t := 23) ?hr ?_; (case hd => rfl); (case hg => rfl); (case hr => first | (go_simp; done) | (go_simp; rfl)); intro gb113 hg w21 hbox hb; have n0_ := Aside0.mk (below_step (by repeat (first | (with_reducible first | exact HB.out | apply below_alloc | apply pw_below_drewN | apply below_drew1) | exact HB.out)) hb); have n1_ := Aside0.mk (hbox); have n2_ := Aside0.mk ((by rw [hg]; exact (below_size (by repeat (first | (with_reducible first | exact HB.out | apply below_alloc | apply pw_below_drewN | apply below_drew1) | exact HB.out))) : w.heap.size ≤ gb113)); have n3_ := Aside0.mk ((by rw [hg]; exact (below_size (by repeat (first | (with_reducible first | exact HB.out | apply below_alloc | apply pw_below_drewN | apply below_drew1) | exact HB.out))) : w.heap.size ≤ gb113)); clear HB; have HB := n0_; have BK113 := n1_; have GW113 := n2_; have GE113 := n3_; clear n0_ n1_ n2_ n3_; clear hb hbox hg) | ((with_reducible refine gate_dst (N := 3) rfl ?_); refine box_event ?hg (N := 3) ?hd (cs := #[.int .i64 a1_0, .int .i64 a1_1]) (t := 37) ?hr ?_; (case hd => rfl); (case hg => rfl); (case hr => first | (go_simp; done) | (go_simp; rfl)); intro gb114 hg w22 hbox hb; have n0_ := Aside0.mk (blk_below (g := gb113) (o := .cells #[.int .i64 a0_0, .int .i64 a0_1, .int .i64 a0_2] 23 (0, 0)) (by (with_reducible repeat (first | refine blk_drewN ?_ _ | refine blk_drew ?_ | refine blk_alloc ?_ _)); exact BK113.out) hb); have n1_ := Aside0.mk (below_step (by repeat (first | (with_reducible first | exact HB.out | apply below_alloc | apply pw_below_drewN | apply below_drew1 | refine below_set ?_ GE113.out) | exact HB.out)) hb); have n2_ := Aside0.mk (hbox); have n3_ := Aside0.mk ((by rw [hg]; exact (below_size (by repeat (first | (with_reducible first | exact HB.out | apply below_alloc | apply pw_below_drewN | apply below_drew1 | refine below_set ?_ GE113.out) | exact HB.out))) : w.heap.size ≤ gb114)); have n4_ := Aside0.mk ((by rw [hg]; exact (below_size (by repeat (first | (with_reducible first | exact HB.out | apply below_alloc | apply pw_below_drewN | apply below_drew1 | refine below_set ?_ GE113.out) | exact HB.out))) : w.heap.size ≤ gb114)); have n5_ := Aside0.mk ((by rw [hg]; exact Nat.ne_of_lt (blk_lt (g := gb113) (o := .cells #[.int .i64 a0_0, .int .i64 a0_1, .int .i64 a0_2] 23 (0, 0)) (by (with_reducible repeat (first | refine blk_drewN ?_ _ | refine blk_drew ?_ | refine blk_alloc ?_ _)); exact BK113.out)) : gb113 ≠ gb114)); have n6_ := Aside0.mk ((by rw [hg]; exact Nat.ne_of_gt (blk_lt (g := gb113) (o := .cells #[.int .i64 a0_0, .int .i64 a0_1, .int .i64 a0_2] 23 (0, 0)) (by (with_reducible repeat (first | refine blk_drewN ?_ _ | refine blk_drew ?_ | refine blk_alloc ?_ _)); exact BK113.out)) : gb114 ≠ gb113)); clear BK113; clear HB; have BK113 := n0_; have HB := n1_; have BK114 := n2_; have GW114 := n3_; have GE114 := n4_; have NB113_114 := n5_; have NB114_113 := n6_; clear n0_ n1_ n2_ n3_ n4_ n5_ n6_; clear hb hbox hg; have hnb23 := NB113_114.out; have hnc23 := NB114_113.out; have hcz24_0 : w22.cell? ⟨gb113, 0, none⟩ = some (.int .i64 a0_0) := (blk_cell BK113.out 0).trans rfl; have hcz24_1 : w22.cell? ⟨gb113, 1, none⟩ = some (.int .i64 a0_1) := (blk_cell BK113.out 1).trans rfl; have hcz24_2 : w22.cell? ⟨gb113, 2, none⟩ = some (.int .i64 a0_2) := (blk_cell BK113.out 2).trans rfl; have hfz24_0 := blk_frozen BK113.out 0; have hfz24_1 := blk_frozen BK113.out 1; have hfz24_2 := blk_frozen BK113.out 2) | ((with_reducible refine gate_callee (f := 60) rfl ?_); refine goesL_ (some 6) rfl rfl Try.func60 (by kernel_rfl) rfl #[.agg #[.int .i64 a0_0, .int .i64 a0_1, .int .i64 a0_2]] rfl (by (try simp only [List.map_toArray, List.map_cons, List.map_nil]); first | done | rfl | (simp only [List.length_drop, List.length_take]; rfl)) ?_; (with_reducible refine (geom_Check.calls a0_0 a0_1 a0_2 t115 _ A3.out).mono ?_); rintro e w25 ⟨rfl, hb⟩; refine ⟨_, rfl, ?_⟩; have n0_ := Aside0.mk (blk_below (g := gb113) (o := .cells #[.int .i64 a0_0, .int .i64 a0_1, .int .i64 a0_2] 23 (0, 0)) (by (with_reducible repeat (first | refine blk_drewN ?_ _ | refine blk_drew ?_ | refine blk_alloc ?_ _)); exact BK113.out) hb); have n1_ := Aside0.mk (blk_below (g := gb114) (o := .cells #[.int .i64 a1_0, .int .i64 a1_1] 37 (0, 0)) (by (with_reducible repeat (first | refine blk_drewN ?_ _ | refine blk_drew ?_ | refine blk_alloc ?_ _)); exact BK114.out) hb); have n2_ := Aside0.mk (below_step (by repeat (first | (with_reducible first | exact HB.out | apply below_alloc | apply pw_below_drewN | apply below_drew1 | refine below_set ?_ GE113.out | refine below_set ?_ GE114.out) | exact HB.out)) hb); clear BK113; clear BK114; clear HB; have BK113 := n0_; have BK114 := n1_; have HB := n2_; clear n0_ n1_ n2_; (try clear hb); (try clear hb2); (try clear hk); (try clear hi); have hcz26_0 : w25.cell? ⟨gb114, 0, none⟩ = some (.int .i64 a1_0) := (blk_cell BK114.out 0).trans rfl; have hcz26_1 : w25.cell? ⟨gb114, 1, none⟩ = some (.int .i64 a1_1) := (blk_cell BK114.out 1).trans rfl; have hfz26_0 := blk_frozen BK114.out 0; have hfz26_1 := blk_frozen BK114.out 1; have hcz27_0 : w25.cell? ⟨gb113, 0, none⟩ = some (.int .i64 a0_0) := (blk_cell BK113.out 0).trans rfl; have hcz27_1 : w25.cell? ⟨gb113, 1, none⟩ = some (.int .i64 a0_1) := (blk_cell BK113.out 1).trans rfl; have hcz27_2 : w25.cell? ⟨gb113, 2, none⟩ = some (.int .i64 a0_2) := (blk_cell BK113.out 2).trans rfl; have hfz27_0 := blk_frozen BK113.out 0; have hfz27_1 := blk_frozen BK113.out 1; have hfz27_2 := blk_frozen BK113.out 2))
          go_ret
          exact ⟨by first | rfl | (simp [errW_none, errW_some] <;> rfl) | (simp [*, errW_none, errW_some] <;> rfl), by repeat (first | (with_reducible first | exact HB.out | apply below_alloc | apply pw_below_drewN | apply below_drew1 | refine below_set ?_ GE113.out | refine below_set ?_ GE114.out) | exact HB.out)⟩
        · rw [if_neg c20] at H
          have c20b0 : decide (a1_1 < 0) = false := decide_eq_false c20
          clear c20
          by_cases c28 : a1_1 ≥ a0_1
          · rw [if_pos c28] at H
            have c28b0 : decide (a0_1 ≤ a1_1) = true := decide_eq_true c28
            clear c28
            obtain rfl := Option.some.inj H
            go_enter Try.func69, Try.ntmps69
            go_wp2_with (first | ((with_reducible refine gate_dst (N := 2) rfl ?_); refine box_event ?hg (N := 2) ?hd (cs := #[.int .i64 a0_0, .int .i64 a0_1, .int .i64 a0_2]) (t := 23) ?hr ?_; (case hd => rfl); (case hg => rfl); (case hr => first | (go_simp; done) | (go_simp; rfl)); intro gb113 hg w29 hbox hb; have n0_ := Aside0.mk (below_step (by repeat (first | (with_reducible first | exact HB.out | apply below_alloc | apply pw_below_drewN | apply below_drew1) | exact HB.out)) hb); have n1_ := Aside0.mk (hbox); have n2_ := Aside0.mk ((by rw [hg]; exact (below_size (by repeat (first | (with_reducible first | exact HB.out | apply below_alloc | apply pw_below_drewN | apply below_drew1) | exact HB.out))) : w.heap.size ≤ gb113)); have n3_ := Aside0.mk ((by rw [hg]; exact (below_size (by repeat (first | (with_reducible first | exact HB.out | apply below_alloc | apply pw_below_drewN | apply below_drew1) | exact HB.out))) : w.heap.size ≤ gb113)); clear HB; have HB := n0_; have BK113 := n1_; have GW113 := n2_; have GE113 := n3_; clear n0_ n1_ n2_ n3_; clear hb hbox hg) | ((with_reducible refine gate_dst (N := 3) rfl ?_); refine box_event ?hg (N := 3) ?hd (cs := #[.int .i64 a1_0, .int .i64 a1_1]) (t := 37) ?hr ?_; (case hd => rfl); (case hg => rfl); (case hr => first | (go_simp; done) | (go_simp; rfl)); intro gb114 hg w30 hbox hb; have n0_ := Aside0.mk (blk_below (g := gb113) (o := .cells #[.int .i64 a0_0, .int .i64 a0_1, .int .i64 a0_2] 23 (0, 0)) (by (with_reducible repeat (first | refine blk_drewN ?_ _ | refine blk_drew ?_ | refine blk_alloc ?_ _)); exact BK113.out) hb); have n1_ := Aside0.mk (below_step (by repeat (first | (with_reducible first | exact HB.out | apply below_alloc | apply pw_below_drewN | apply below_drew1 | refine below_set ?_ GE113.out) | exact HB.out)) hb); have n2_ := Aside0.mk (hbox); have n3_ := Aside0.mk ((by rw [hg]; exact (below_size (by repeat (first | (with_reducible first | exact HB.out | apply below_alloc | apply pw_below_drewN | apply below_drew1 | refine below_set ?_ GE113.out) | exact HB.out))) : w.heap.size ≤ gb114)); have n4_ := Aside0.mk ((by rw [hg]; exact (below_size (by repeat (first | (with_reducible first | exact HB.out | apply below_alloc | apply pw_below_drewN | apply below_drew1 | refine below_set ?_ GE113.out) | exact HB.out))) : w.heap.size ≤ gb114)); have n5_ := Aside0.mk ((by rw [hg]; exact Nat.ne_of_lt (blk_lt (g := gb113) (o := .cells #[.int .i64 a0_0, .int .i64 a0_1, .int .i64 a0_2] 23 (0, 0)) (by (with_reducible repeat (first | refine blk_drewN ?_ _ | refine blk_drew ?_ | refine blk_alloc ?_ _)); exact BK113.out)) : gb113 ≠ gb114)); have n6_ := Aside0.mk ((by rw [hg]; exact Nat.ne_of_gt (blk_lt (g := gb113) (o := .cells #[.int .i64 a0_0, .int .i64 a0_1, .int .i64 a0_2] 23 (0, 0)) (by (with_reducible repeat (first | refine blk_drewN ?_ _ | refine blk_drew ?_ | refine blk_alloc ?_ _)); exact BK113.out)) : gb114 ≠ gb113)); clear BK113; clear HB; have BK113 := n0_; have HB := n1_; have BK114 := n2_; have GW114 := n3_; have GE114 := n4_; have NB113_114 := n5_; have NB114_113 := n6_; clear n0_ n1_ n2_ n3_ n4_ n5_ n6_; clear hb hbox hg; have hnb31 := NB113_114.out; have hnc31 := NB114_113.out; have hcz32_0 : w30.cell? ⟨gb113, 0, none⟩ = some (.int .i64 a0_0) := (blk_cell BK113.out 0).trans rfl; have hcz32_1 : w30.cell? ⟨gb113, 1, none⟩ = some (.int .i64 a0_1) := (blk_cell BK113.out 1).trans rfl; have hcz32_2 : w30.cell? ⟨gb113, 2, none⟩ = some (.int .i64 a0_2) := (blk_cell BK113.out 2).trans rfl; have hfz32_0 := blk_frozen BK113.out 0; have hfz32_1 := blk_frozen BK113.out 1; have hfz32_2 := blk_frozen BK113.out 2) | ((with_reducible refine gate_callee (f := 60) rfl ?_); refine goesL_ (some 6) rfl rfl Try.func60 (by kernel_rfl) rfl #[.agg #[.int .i64 a0_0, .int .i64 a0_1, .int .i64 a0_2]] rfl (by (try simp only [List.map_toArray, List.map_cons, List.map_nil]); first | done | rfl | (simp only [List.length_drop, List.length_take]; rfl)) ?_; (with_reducible refine (geom_Check.calls a0_0 a0_1 a0_2 t115 _ A3.out).mono ?_); rintro e w33 ⟨rfl, hb⟩; refine ⟨_, rfl, ?_⟩; have n0_ := Aside0.mk (blk_below (g := gb113) (o := .cells #[.int .i64 a0_0, .int .i64 a0_1, .int .i64 a0_2] 23 (0, 0)) (by (with_reducible repeat (first | refine blk_drewN ?_ _ | refine blk_drew ?_ | refine blk_alloc ?_ _)); exact BK113.out) hb); have n1_ := Aside0.mk (blk_below (g := gb114) (o := .cells #[.int .i64 a1_0, .int .i64 a1_1] 37 (0, 0)) (by (with_reducible repeat (first | refine blk_drewN ?_ _ | refine blk_drew ?_ | refine blk_alloc ?_ _)); exact BK114.out) hb); have n2_ := Aside0.mk (below_step (by repeat (first | (with_reducible first | exact HB.out | apply below_alloc | apply pw_below_drewN | apply below_drew1 | refine below_set ?_ GE113.out | refine below_set ?_ GE114.out) | exact HB.out)) hb); clear BK113; clear BK114; clear HB; have BK113 := n0_; have BK114 := n1_; have HB := n2_; clear n0_ n1_ n2_; (try clear hb); (try clear hb2); (try clear hk); (try clear hi); have hcz34_0 : w33.cell? ⟨gb114, 0, none⟩ = some (.int .i64 a1_0) := (blk_cell BK114.out 0).trans rfl; have hcz34_1 : w33.cell? ⟨gb114, 1, none⟩ = some (.int .i64 a1_1) := (blk_cell BK114.out 1).trans rfl; have hfz34_0 := blk_frozen BK114.out 0; have hfz34_1 := blk_frozen BK114.out 1; have hcz35_0 : w33.cell? ⟨gb113, 0, none⟩ = some (.int .i64 a0_0) := (blk_cell BK113.out 0).trans rfl; have hcz35_1 : w33.cell? ⟨gb113, 1, none⟩ = some (.int .i64 a0_1) := (blk_cell BK113.out 1).trans rfl; have hcz35_2 : w33.cell? ⟨gb113, 2, none⟩ = some (.int .i64 a0_2) := (blk_cell BK113.out 2).trans rfl; have hfz35_0 := blk_frozen BK113.out 0; have hfz35_1 := blk_frozen BK113.out 1; have hfz35_2 := blk_frozen BK113.out 2))
            go_ret
            exact ⟨by first | rfl | (simp [errW_none, errW_some] <;> rfl) | (simp [*, errW_none, errW_some] <;> rfl), by repeat (first | (with_reducible first | exact HB.out | apply below_alloc | apply pw_below_drewN | apply below_drew1 | refine below_set ?_ GE113.out | refine below_set ?_ GE114.out) | exact HB.out)⟩
          · rw [if_neg c28] at H
            have c28b0 : decide (a0_1 ≤ a1_1) = false := decide_eq_false c28
            clear c28
            obtain rfl := Option.some.inj H
            go_enter Try.func69, Try.ntmps69
            go_wp2_with (first | ((with_reducible refine gate_dst (N := 2) rfl ?_); refine box_event ?hg (N := 2) ?hd (cs := #[.int .i64 a0_0, .int .i64 a0_1, .int .i64 a0_2]) (t := 23) ?hr ?_; (case hd => rfl); (case hg => rfl); (case hr => first | (go_simp; done) | (go_simp; rfl)); intro gb113 hg w36 hbox hb; have n0_ := Aside0.mk (below_step (by repeat (first | (with_reducible first | exact HB.out | apply below_alloc | apply pw_below_drewN | apply below_drew1) | exact HB.out)) hb); have n1_ := Aside0.mk (hbox); have n2_ := Aside0.mk ((by rw [hg]; exact (below_size (by repeat (first | (with_reducible first | exact HB.out | apply below_alloc | apply pw_below_drewN | apply below_drew1) | exact HB.out))) : w.heap.size ≤ gb113)); have n3_ := Aside0.mk ((by rw [hg]; exact (below_size (by repeat (first | (with_reducible first | exact HB.out | apply below_alloc | apply pw_below_drewN | apply below_drew1) | exact HB.out))) : w.heap.size ≤ gb113)); clear HB; have HB := n0_; have BK113 := n1_; have GW113 := n2_; have GE113 := n3_; clear n0_ n1_ n2_ n3_; clear hb hbox hg) | ((with_reducible refine gate_dst (N := 3) rfl ?_); refine box_event ?hg (N := 3) ?hd (cs := #[.int .i64 a1_0, .int .i64 a1_1]) (t := 37) ?hr ?_; (case hd => rfl); (case hg => rfl); (case hr => first | (go_simp; done) | (go_simp; rfl)); intro gb114 hg w37 hbox hb; have n0_ := Aside0.mk (blk_below (g := gb113) (o := .cells #[.int .i64 a0_0, .int .i64 a0_1, .int .i64 a0_2] 23 (0, 0)) (by (with_reducible repeat (first | refine blk_drewN ?_ _ | refine blk_drew ?_ | refine blk_alloc ?_ _)); exact BK113.out) hb); have n1_ := Aside0.mk (below_step (by repeat (first | (with_reducible first | exact HB.out | apply below_alloc | apply pw_below_drewN | apply below_drew1 | refine below_set ?_ GE113.out) | exact HB.out)) hb); have n2_ := Aside0.mk (hbox); have n3_ := Aside0.mk ((by rw [hg]; exact (below_size (by repeat (first | (with_reducible first | exact HB.out | apply below_alloc | apply pw_below_drewN | apply below_drew1 | refine below_set ?_ GE113.out) | exact HB.out))) : w.heap.size ≤ gb114)); have n4_ := Aside0.mk ((by rw [hg]; exact (below_size (by repeat (first | (with_reducible first | exact HB.out | apply below_alloc | apply pw_below_drewN | apply below_drew1 | refine below_set ?_ GE113.out) | exact HB.out))) : w.heap.size ≤ gb114)); have n5_ := Aside0.mk ((by rw [hg]; exact Nat.ne_of_lt (blk_lt (g := gb113) (o := .cells #[.int .i64 a0_0, .int .i64 a0_1, .int .i64 a0_2] 23 (0, 0)) (by (with_reducible repeat (first | refine blk_drewN ?_ _ | refine blk_drew ?_ | refine blk_alloc ?_ _)); exact BK113.out)) : gb113 ≠ gb114)); have n6_ := Aside0.mk ((by rw [hg]; exact Nat.ne_of_gt (blk_lt (g := gb113) (o := .cells #[.int .i64 a0_0, .int .i64 a0_1, .int .i64 a0_2] 23 (0, 0)) (by (with_reducible repeat (first | refine blk_drewN ?_ _ | refine blk_drew ?_ | refine blk_alloc ?_ _)); exact BK113.out)) : gb114 ≠ gb113)); clear BK113; clear HB; have BK113 := n0_; have HB := n1_; have BK114 := n2_; have GW114 := n3_; have GE114 := n4_; have NB113_114 := n5_; have NB114_113 := n6_; clear n0_ n1_ n2_ n3_ n4_ n5_ n6_; clear hb hbox hg; have hnb38 := NB113_114.out; have hnc38 := NB114_113.out; have hcz39_0 : w37.cell? ⟨gb113, 0, none⟩ = some (.int .i64 a0_0) := (blk_cell BK113.out 0).trans rfl; have hcz39_1 : w37.cell? ⟨gb113, 1, none⟩ = some (.int .i64 a0_1) := (blk_cell BK113.out 1).trans rfl; have hcz39_2 : w37.cell? ⟨gb113, 2, none⟩ = some (.int .i64 a0_2) := (blk_cell BK113.out 2).trans rfl; have hfz39_0 := blk_frozen BK113.out 0; have hfz39_1 := blk_frozen BK113.out 1; have hfz39_2 := blk_frozen BK113.out 2) | ((with_reducible refine gate_callee (f := 60) rfl ?_); refine goesL_ (some 6) rfl rfl Try.func60 (by kernel_rfl) rfl #[.agg #[.int .i64 a0_0, .int .i64 a0_1, .int .i64 a0_2]] rfl (by (try simp only [List.map_toArray, List.map_cons, List.map_nil]); first | done | rfl | (simp only [List.length_drop, List.length_take]; rfl)) ?_; (with_reducible refine (geom_Check.calls a0_0 a0_1 a0_2 t115 _ A3.out).mono ?_); rintro e w40 ⟨rfl, hb⟩; refine ⟨_, rfl, ?_⟩; have n0_ := Aside0.mk (blk_below (g := gb113) (o := .cells #[.int .i64 a0_0, .int .i64 a0_1, .int .i64 a0_2] 23 (0, 0)) (by (with_reducible repeat (first | refine blk_drewN ?_ _ | refine blk_drew ?_ | refine blk_alloc ?_ _)); exact BK113.out) hb); have n1_ := Aside0.mk (blk_below (g := gb114) (o := .cells #[.int .i64 a1_0, .int .i64 a1_1] 37 (0, 0)) (by (with_reducible repeat (first | refine blk_drewN ?_ _ | refine blk_drew ?_ | refine blk_alloc ?_ _)); exact BK114.out) hb); have n2_ := Aside0.mk (below_step (by repeat (first | (with_reducible first | exact HB.out | apply below_alloc | apply pw_below_drewN | apply below_drew1 | refine below_set ?_ GE113.out | refine below_set ?_ GE114.out) | exact HB.out)) hb); clear BK113; clear BK114; clear HB; have BK113 := n0_; have BK114 := n1_; have HB := n2_; clear n0_ n1_ n2_; (try clear hb); (try clear hb2); (try clear hk); (try clear hi); have hcz41_0 : w40.cell? ⟨gb114, 0, none⟩ = some (.int .i64 a1_0) := (blk_cell BK114.out 0).trans rfl; have hcz41_1 : w40.cell? ⟨gb114, 1, none⟩ = some (.int .i64 a1_1) := (blk_cell BK114.out 1).trans rfl; have hfz41_0 := blk_frozen BK114.out 0; have hfz41_1 := blk_frozen BK114.out 1; have hcz42_0 : w40.cell? ⟨gb113, 0, none⟩ = some (.int .i64 a0_0) := (blk_cell BK113.out 0).trans rfl; have hcz42_1 : w40.cell? ⟨gb113, 1, none⟩ = some (.int .i64 a0_1) := (blk_cell BK113.out 1).trans rfl; have hcz42_2 : w40.cell? ⟨gb113, 2, none⟩ = some (.int .i64 a0_2) := (blk_cell BK113.out 2).trans rfl; have hfz42_0 := blk_frozen BK113.out 0; have hfz42_1 := blk_frozen BK113.out 1; have hfz42_2 := blk_frozen BK113.out 2))
            go_ret
            exact ⟨by first | rfl | (simp [errW_none, errW_some] <;> rfl) | (simp [*, errW_none, errW_some] <;> rfl), by repeat (first | (with_reducible first | exact HB.out | apply below_alloc | apply pw_below_drewN | apply below_drew1 | refine below_set ?_ GE113.out | refine below_set ?_ GE114.out) | exact HB.out)⟩
  · rw [if_neg c4] at H
    have c4b0 : (t115 == 0) = false := beq_eq_false_iff_ne.mpr c4
    have c4b1 : (t115 != 0) = true := bne_iff_ne.mpr c4
    obtain rfl := Option.some.inj H
    go_enter Try.func69, Try.ntmps69
    go_wp2_with (first | ((with_reducible refine gate_dst (N := 2) rfl ?_); refine box_event ?hg (N := 2) ?hd (cs := #[.int .i64 a0_0, .int .i64 a0_1, .int .i64 a0_2]) (t := 23) ?hr ?_; (case hd => rfl); (case hg => rfl); (case hr => first | (go_simp; done) | (go_simp; rfl)); intro gb113 hg w43 hbox hb; have n0_ := Aside0.mk (below_step (by repeat (first | (with_reducible first | exact HB.out | apply below_alloc | apply pw_below_drewN | apply below_drew1) | exact HB.out)) hb); have n1_ := Aside0.mk (hbox); have n2_ := Aside0.mk ((by rw [hg]; exact (below_size (by repeat (first | (with_reducible first | exact HB.out | apply below_alloc | apply pw_below_drewN | apply below_drew1) | exact HB.out))) : w.heap.size ≤ gb113)); have n3_ := Aside0.mk ((by rw [hg]; exact (below_size (by repeat (first | (with_reducible first | exact HB.out | apply below_alloc | apply pw_below_drewN | apply below_drew1) | exact HB.out))) : w.heap.size ≤ gb113)); clear HB; have HB := n0_; have BK113 := n1_; have GW113 := n2_; have GE113 := n3_; clear n0_ n1_ n2_ n3_; clear hb hbox hg) | ((with_reducible refine gate_dst (N := 3) rfl ?_); refine box_event ?hg (N := 3) ?hd (cs := #[.int .i64 a1_0, .int .i64 a1_1]) (t := 37) ?hr ?_; (case hd => rfl); (case hg => rfl); (case hr => first | (go_simp; done) | (go_simp; rfl)); intro gb114 hg w44 hbox hb; have n0_ := Aside0.mk (blk_below (g := gb113) (o := .cells #[.int .i64 a0_0, .int .i64 a0_1, .int .i64 a0_2] 23 (0, 0)) (by (with_reducible repeat (first | refine blk_drewN ?_ _ | refine blk_drew ?_ | refine blk_alloc ?_ _)); exact BK113.out) hb); have n1_ := Aside0.mk (below_step (by repeat (first | (with_reducible first | exact HB.out | apply below_alloc | apply pw_below_drewN | apply below_drew1 | refine below_set ?_ GE113.out) | exact HB.out)) hb); have n2_ := Aside0.mk (hbox); have n3_ := Aside0.mk ((by rw [hg]; exact (below_size (by repeat (first | (with_reducible first | exact HB.out | apply below_alloc | apply pw_below_drewN | apply below_drew1 | refine below_set ?_ GE113.out) | exact HB.out))) : w.heap.size ≤ gb114)); have n4_ := Aside0.mk ((by rw [hg]; exact (below_size (by repeat (first | (with_reducible first | exact HB.out | apply below_alloc | apply pw_below_drewN | apply below_drew1 | refine below_set ?_ GE113.out) | exact HB.out))) : w.heap.size ≤ gb114)); have n5_ := Aside0.mk ((by rw [hg]; exact Nat.ne_of_lt (blk_lt (g := gb113) (o := .cells #[.int .i64 a0_0, .int .i64 a0_1, .int .i64 a0_2] 23 (0, 0)) (by (with_reducible repeat (first | refine blk_drewN ?_ _ | refine blk_drew ?_ | refine blk_alloc ?_ _)); exact BK113.out)) : gb113 ≠ gb114)); have n6_ := Aside0.mk ((by rw [hg]; exact Nat.ne_of_gt (blk_lt (g := gb113) (o := .cells #[.int .i64 a0_0, .int .i64 a0_1, .int .i64 a0_2] 23 (0, 0)) (by (with_reducible repeat (first | refine blk_drewN ?_ _ | refine blk_drew ?_ | refine blk_alloc ?_ _)); exact BK113.out)) : gb114 ≠ gb113)); clear BK113; clear HB; have BK113 := n0_; have HB := n1_; have BK114 := n2_; have GW114 := n3_; have GE114 := n4_; have NB113_114 := n5_; have NB114_113 := n6_; clear n0_ n1_ n2_ n3_ n4_ n5_ n6_; clear hb hbox hg; have hnb45 := NB113_114.out; have hnc45 := NB114_113.out; have hcz46_0 : w44.cell? ⟨gb113, 0, none⟩ = some (.int .i64 a0_0) := (blk_cell BK113.out 0).trans rfl; have hcz46_1 : w44.cell? ⟨gb113, 1, none⟩ = some (.int .i64 a0_1) := (blk_cell BK113.out 1).trans rfl; have hcz46_2 : w44.cell? ⟨gb113, 2, none⟩ = some (.int .i64 a0_2) := (blk_cell BK113.out 2).trans rfl; have hfz46_0 := blk_frozen BK113.out 0; have hfz46_1 := blk_frozen BK113.out 1; have hfz46_2 := blk_frozen BK113.out 2) | ((with_reducible refine gate_callee (f := 60) rfl ?_); refine goesL_ (some 6) rfl rfl Try.func60 (by kernel_rfl) rfl #[.agg #[.int .i64 a0_0, .int .i64 a0_1, .int .i64 a0_2]] rfl (by (try simp only [List.map_toArray, List.map_cons, List.map_nil]); first | done | rfl | (simp only [List.length_drop, List.length_take]; rfl)) ?_; (with_reducible refine (geom_Check.calls a0_0 a0_1 a0_2 t115 _ A3.out).mono ?_); rintro e w47 ⟨rfl, hb⟩; refine ⟨_, rfl, ?_⟩; have n0_ := Aside0.mk (blk_below (g := gb113) (o := .cells #[.int .i64 a0_0, .int .i64 a0_1, .int .i64 a0_2] 23 (0, 0)) (by (with_reducible repeat (first | refine blk_drewN ?_ _ | refine blk_drew ?_ | refine blk_alloc ?_ _)); exact BK113.out) hb); have n1_ := Aside0.mk (blk_below (g := gb114) (o := .cells #[.int .i64 a1_0, .int .i64 a1_1] 37 (0, 0)) (by (with_reducible repeat (first | refine blk_drewN ?_ _ | refine blk_drew ?_ | refine blk_alloc ?_ _)); exact BK114.out) hb); have n2_ := Aside0.mk (below_step (by repeat (first | (with_reducible first | exact HB.out | apply below_alloc | apply pw_below_drewN | apply below_drew1 | refine below_set ?_ GE113.out | refine below_set ?_ GE114.out) | exact HB.out)) hb); clear BK113; clear BK114; clear HB; have BK113 := n0_; have BK114 := n1_; have HB := n2_; clear n0_ n1_ n2_; (try clear hb); (try clear hb2); (try clear hk); (try clear hi)))
    go_ret
    exact ⟨by first | rfl | (simp [errW_none, errW_some] <;> rfl) | (simp [*, errW_none, errW_some] <;> rfl), by repeat (first | (with_reducible first | exact HB.out | apply below_alloc | apply pw_below_drewN | apply below_drew1 | refine below_set ?_ GE113.out | refine below_set ?_ GE114.out) | exact HB.out)⟩
end Go.Proofs.Ytnchdmidaigheaa.Hp
namespace Go.Proofs.Ytnchdmidaigheaa.ND
set_option linter.unusedVariables false
set_option linter.unusedSimpArgs false
open Go.RowKit Go.Proofs.Ytnchdmidaigheaa.Hp Go.Proofs.YtnchdmidaigheaaW.PrintWords Go.Proofs.YtnchdmidaigheaaW.PrintLast Go.Proofs.YtnchdmidaigheaaW.PrintMore
theorem place_f {D : Dv} (h : D.Ok) (b p : Int) : geom_Place.f D.B D.P D.C b p = some (if D.here b p = true then (D.idx b p : Int) else -1) := by
  have hc : geom_Check.f D.B D.P D.C = some 0 := by
    unfold geom_Check.f within
    rw [if_pos (by simp; have := h.b1; have := h.b2; have := h.p1; have := h.p2; have := h.c1; have := h.c2; omega)]
  unfold geom_Place.f
  rw [hc, Option.bind_some, if_pos rfl]
  cases hh : D.here b p with
  | true =>
    obtain ⟨⟨h1, h2⟩, h3, h4⟩ := here_iff.1 hh
    have hi := h.idx hh
    have hs := h.size
    have hl := h.pl
    have h5 : 0 ≤ b * D.P := Int.mul_nonneg h1 (by omega)
    rw [if_neg (by omega), if_neg (by omega), if_neg (by omega), if_neg (by omega), if_pos rfl]
    have e1 : wrap64 (b * D.P) = b * D.P := by unfold wrap64; omega
    rw [e1, hi.1]
    congr 1
    unfold wrap64
    omega
  | false =>
    have hn : ¬ ((0 ≤ b ∧ b < D.B) ∧ 0 ≤ p ∧ p < D.P) := fun hc => by rw [here_iff.2 hc] at hh; cases hh
    rw [show (if false = true then (D.idx b p : Int) else -1) = -1 from rfl]
    by_cases h1 : b < 0
    · rw [if_pos h1]
    · rw [if_neg h1]
      by_cases h2 : b ≥ D.B
      · rw [if_pos h2]
      · rw [if_neg h2]
        by_cases h3 : p < 0
        · rw [if_pos h3]
        · rw [if_neg h3, if_pos (by omega)]
theorem DV.newer2 {W W' : World} {ok ok' : Nat → Prop} {L : Lay} {D D0 : Dv} (h : DV W' ok' L D) (h0 : DV W ok L D0) (ho : ∀ k, ok' k → newer W ok k) : DV W' (newer W ok) L D :=
  h.mono ho (fun k hk hlt hS => hk.elim (fun hk => h0.no k hk (h0.lt k hS) hS) (fun hk => by have := h0.lt k hS; omega))
theorem newer_no {W W9 : World} {ok : Nat → Prop} {L : Lay} {D0 : Dv} (h0 : DV W ok L D0) (hs : W.heap.size ≤ W9.heap.size) : ∀ k, newer W9 ok k → ¬ L.S k := fun k hk hS => hk.elim (fun hk => h0.no k hk (h0.lt k hS) hS) (fun hk => by have := h0.lt k hS; omega)
def prog4.T4 : Bool × List (List Nat × List Nat) := (true, [([], []), ([0], [0]), ([1], [1]), ([2], [2]), ([], []), ([3, 4], [3, 4]), ([5, 5, 0, 1, 2, 3, 4, 5], [5])])
def prog4.B4 : List Nat := [0, 1, 3, 7, 0, 31, 63]
theorem prog4.tab4 : rtab .any (opsOf Try.f17 4) = prog4.T4 := by kernel_rfl
theorem prog4.bits4 : waitsOk prog4.T4.2 prog4.B4 = true := by kernel_rfl
def prog7.T7 : Bool × List (List Nat × List Nat) := (true, [([], []), ([0], [0]), ([1], [1]), ([2], [2]), ([], []), ([4], [4]), ([3, 5], [3, 5]), ([6], [6]), ([7], [7])])
def prog7.B7 : List Nat := [0, 1, 3, 7, 0, 16, 63, 127, 255]
theorem prog7.tab7 : rtab .any (opsOf Try.f17 7) = prog7.T7 := by kernel_rfl
theorem prog7.bits7 : waitsOk prog7.T7.2 prog7.B7 = true := by kernel_rfl
def prog9.T9 : Bool × List (List Nat × List Nat) := (true, [([], []), ([0], [0]), ([], []), ([2], [2]), ([3], [3]), ([4], [4]), ([], []), ([6], [6]), ([5, 7], [5, 7]), ([8], [8]), ([1, 9], [1, 9]), ([10], [10])])
def prog9.B9 : List Nat := [0, 1, 0, 4, 12, 28, 0, 64, 252, 508, 1023, 2047]
theorem prog9.tab9 : rtab .any (opsOf Try.f17 9) = prog9.T9 := by kernel_rfl
theorem prog9.bits9 : waitsOk prog9.T9.2 prog9.B9 = true := by kernel_rfl
def prog12.T12 : Bool × List (List Nat × List Nat) := (true, [([], []), ([0], [0]), ([1], [1]), ([2], [2]), ([], []), ([4], [4]), ([3, 5], [3, 5]), ([6], [6]), ([7], [7]), ([3, 5, 0, 1, 2, 3, 4, 5, 6, 7, 8], [3, 5]), ([9, 8, 0, 1, 2, 3, 4, 5, 6, 7, 8], [8, 9])])
def prog12.B12 : List Nat := [0, 1, 3, 7, 0, 16, 63, 127, 255, 511, 1023]
theorem prog12.tab12 : rtab .any (opsOf Try.f17 12) = prog12.T12 := by kernel_rfl
theorem prog12.bits12 : waitsOk prog12.T12.2 prog12.B12 = true := by kernel_rfl
set_option maxHeartbeats 2000000 in
set_option maxRecDepth 100000 in
theorem program_calls {W : World} {ok okl : Nat → Prop} {L : Lay} {D : Dv} (h : DV W ok L D) (bk pg : Int) (l : List Int) (A : Option Addr) (c : Nat) (hc : l.length ≤ c) (hl : isBytes l) (gl : Kd.F (Kd.int .u8) W okl A l.length l) (hno : ∀ k, okl k → k < W.heap.size → ¬ L.S k) :
    Calls Try.prog 17 #[.pointer (some ⟨L.g, 0, none⟩), .agg #[.int .i64 bk, .int .i64 pg], .slice A l.length c] W fun e w' => e = .returned (.int .i64 (D.prog bk pg l).1) ∧ DV w' (newer W ok) L (D.prog bk pg l).2 ∧ Turn W w' L.S := by
  have H00 := Aside0.mk h
  have HPR := Aside0.mk (rfl : D.prog bk pg l = D.prog bk pg l)
  obtain ⟨r, hr⟩ : ∃ r, r = D.prog bk pg l := ⟨_, rfl⟩
  rw [← hr]
  have HRR := Aside0.mk hr
  have hz4 := heap_alloc_new W (.cells #[.int .i64 bk, .int .i64 pg] 37)
  have hb4 := below_alloc (Below.refl W.heap.size W) (.cells #[.int .i64 bk, .int .i64 pg] 37)
  have hz5 := heap_alloc_new (W.alloc (.cells #[.int .i64 bk, .int .i64 pg] 37)) (.cells #[.slice A l.length c] 38)
  have hb5 := below_alloc hb4 (.cells #[.slice A l.length c] 38)
  have hz4' := blk_alloc hz4 (.cells #[.slice A l.length c] 38)
  have hsz : (W.alloc (.cells #[.int .i64 bk, .int .i64 pg] 37)).heap.size = W.heap.size + 1 := by simp
  rw [hsz] at hz5
  obtain ⟨g5, hg5⟩ : ∃ g, g = W.heap.size + 1 := ⟨_, rfl⟩
  obtain ⟨g4, hg4⟩ : ∃ g, g = W.heap.size := ⟨_, rfl⟩
  have HLL := Aside0.mk (And.intro hc (And.intro hl (And.intro gl hno)))
  clear hc hl gl hno hr hb4 hz4 hsz h
  go_enter Try.func17, Try.ntmps17
  go_upto_region 1 with fail
  rw [← hg5] at hz5 ⊢
  generalize ((W.alloc (.cells #[.int .i64 bk, .int .i64 pg] 37)).alloc (.cells #[.slice A l.length c] 38)) = W2 at hz4' hz5 hb5 ⊢
  rw [← hg4] at hz4' ⊢
  have HG := Aside0.mk (And.intro hg4 hg5)
  have HB2 := Aside0.mk hb5
  have HZ4 := Aside0.mk hz4'
  have HZ5 := Aside0.mk hz5
  have H2 := Aside0.mk (H00.out.below hb5)
  clear hg4 hg5 hz4' hz5 hb5
  cases hd : D.down with
  | true =>
    have HU := Aside0.mk (up_calls H2.out)
    rw [hd, if_pos rfl] at HU
    have HR1 : Aside0 (r = (9, D)) := ⟨by rw [HRR.out]; unfold Dv.prog; rw [if_pos hd]⟩
    clear hd
    go_wp2_with (go_at_call 63; refine HU.out.mono ?_; rintro e w3 ⟨rfl, hb⟩; have HB3 := Aside0.mk (below_then HB2.out HB2.out.size hb); clear hb)
    go_ret
    rw [HR1.out]
    exact ⟨rfl, (H00.out.below HB3.out).newer_ H00.out.lt, Turn.of_below HB3.out _⟩
  | false =>
    have HU := Aside0.mk (up_calls H2.out)
    rw [hd, if_neg (by decide)] at HU
    go_upto_region 4 with (go_at_call 63; refine HU.out.mono ?_; rintro e w3 ⟨rfl, hb⟩; have HB3 := Aside0.mk (below_then HB2.out HB2.out.size hb); have HB23 := Aside0.mk hb; clear hb)
    have H3 := Aside0.mk (H2.out.below HB23.out)
    have HZ4_3 := Aside0.mk (blk_below HZ4.out HB23.out)
    have HZ5_3 := Aside0.mk (blk_below HZ5.out HB23.out)
    have B0 := Aside0.mk (below_drew1 (Below.refl w3.heap.size w3))
    obtain ⟨pl, hpl⟩ : ∃ pl : Int, pl = if D.here bk pg = true then (D.idx bk pg : Int) else -1 := ⟨_, rfl⟩
    have HPL := Aside0.mk (fun w => geom_Place.calls D.B D.P D.C bk pg pl w (by rw [hpl]; exact place_f H00.out.ok bk pg))
    clear HU HZ4 HZ5 H2 HB23
    refine start_ (n := 7) (S := fun w' => True) (ds := []) #[false, false, false, false, false, false, false] (by kernel_rfl) rfl rfl trivial (fun hHeld => ?_)
    refine with_tabW prog4.tab4 prog4.bits4 (fun HT_ HW_ => ?_)
    generalize w3.drew = wq at B0 hHeld ⊢
    refine inv_at [0, 1, 2, 3, 4, 5, 6] (fun a0_ b a w' => a = putSel a0_ b [(0, 16, .pointer (some ⟨L.g, 0, none⟩)), (1, 17, .pointer (some ⟨L.g, 0, none⟩)), (2, 18, .pointer (some ⟨L.g, 0, none⟩)), (3, 19, .agg #[.int .i64 D.B, .int .i64 D.P, .int .i64 D.C]), (4, 20, .agg #[.int .i64 bk, .int .i64 pg]), (5, 21, .int .i64 pl), (6, 8, .int .i64 pl)] ∧ (Below w3.heap.size w3 w')) HT_.out HW_.out (by kernel_rfl) (by kernel_rfl) ?_ ?_ ?_
    · exact ⟨by simp only [putSel, Bool.false_eq_true, if_false], B0.out⟩
    · skip
      clear B0
      refine steps_cons ?_ ?_
      · rintro b a w' ⟨ha, Q_B0⟩ hb_ hon hoff
        refine ⟨_, rfl, fun K hK => ?_⟩
        have e0 : a.tmps[0]? = some (.pointer (some ⟨L.g, 0, none⟩)) := by rw [ha]; exact (putSel_off rfl).trans rfl
        replace ha := Aside0.mk ha
        have B0 := Aside0.mk Q_B0
        refine value_ (w1 := w') (v := .pointer (some ⟨L.g, 0, none⟩)) (by rfl) rfl ?_ ?_
        · go_simp
          (try simp only [i64_w])
          try rfl
        refine hK.out _ _ ⟨(by rw [ha.out]; exact putSel_upk 0 hb_ rfl rfl rfl), Q_B0⟩
      refine steps_cons ?_ ?_
      · rintro b a w' ⟨ha, Q_B0⟩ hb_ hon hoff
        refine ⟨_, rfl, fun K hK => ?_⟩
        have e16 : a.tmps[16]? = some (.pointer (some ⟨L.g, 0, none⟩)) := by rw [ha]; exact putSel_on (e := (0, 16, .pointer (some ⟨L.g, 0, none⟩))) 0 rfl rfl (hon 0 (by kernel_rfl)) rfl
        replace ha := Aside0.mk ha
        have B0 := Aside0.mk Q_B0
        refine value_ (w1 := w') (v := .pointer (some ⟨L.g, 0, none⟩)) (by rfl) rfl ?_ ?_
        · go_simp
          (try simp only [i64_w])
          try rfl
        refine hK.out _ _ ⟨(by rw [ha.out]; exact putSel_upk 1 hb_ rfl rfl rfl), Q_B0⟩
      refine steps_cons ?_ ?_
      · rintro b a w' ⟨ha, Q_B0⟩ hb_ hon hoff
        refine ⟨_, rfl, fun K hK => ?_⟩
        have e17 : a.tmps[17]? = some (.pointer (some ⟨L.g, 0, none⟩)) := by rw [ha]; exact putSel_on (e := (1, 17, .pointer (some ⟨L.g, 0, none⟩))) 1 rfl rfl (hon 1 (by kernel_rfl)) rfl
        replace ha := Aside0.mk ha
        have B0 := Aside0.mk Q_B0
        refine value_ (w1 := w') (v := .pointer (some ⟨L.g, 0, none⟩)) (by rfl) rfl ?_ ?_
        · go_simp
          (try simp only [i64_w])
          try rfl
        refine hK.out _ _ ⟨(by rw [ha.out]; exact putSel_upk 2 hb_ rfl rfl rfl), Q_B0⟩
      refine steps_cons ?_ ?_
      · rintro b a w' ⟨ha, Q_B0⟩ hb_ hon hoff
        refine ⟨_, rfl, fun K hK => ?_⟩
        have e18 : a.tmps[18]? = some (.pointer (some ⟨L.g, 0, none⟩)) := by rw [ha]; exact putSel_on (e := (2, 18, .pointer (some ⟨L.g, 0, none⟩))) 2 rfl rfl (hon 2 (by kernel_rfl)) rfl
        replace ha := Aside0.mk ha
        have B0 := Aside0.mk Q_B0
        have hh_ := top_cells (H3.out.below B0.out)
        have c0_ := hh_.1
        have c1_ := hh_.2.1
        have c2_ := hh_.2.2.1
        clear hh_
        refine value_ (w1 := w') (v := .agg #[.int .i64 D.B, .int .i64 D.P, .int .i64 D.C]) (by rfl) rfl ?_ ?_
        · go_simp
          (try simp only [i64_w])
          try rfl
        refine hK.out _ _ ⟨(by rw [ha.out]; exact putSel_upk 3 hb_ rfl rfl rfl), Q_B0⟩
      refine steps_cons ?_ ?_
      · rintro b a w' ⟨ha, Q_B0⟩ hb_ hon hoff
        refine ⟨_, rfl, fun K hK => ?_⟩
        have e4 : a.tmps[4]? = some (.pointer (some ⟨g4, 0, none⟩)) := by rw [ha]; exact (putSel_off rfl).trans rfl
        replace ha := Aside0.mk ha
        have B0 := Aside0.mk Q_B0
        have c0_ := blk_cell (blk_below HZ4_3.out B0.out) 0
        have c1_ := blk_cell (blk_below HZ4_3.out B0.out) 1
        refine value_ (w1 := w') (v := .agg #[.int .i64 bk, .int .i64 pg]) (by rfl) rfl ?_ ?_
        · go_simp
          (try simp only [i64_w])
          try rfl
        refine hK.out _ _ ⟨(by rw [ha.out]; exact putSel_upk 4 hb_ rfl rfl rfl), Q_B0⟩
      refine steps_cons ?_ ?_
      · rintro b a w' ⟨ha, Q_B0⟩ hb_ hon hoff
        refine ⟨_, rfl, fun K hK => ?_⟩
        have e19 : a.tmps[19]? = some (.agg #[.int .i64 D.B, .int .i64 D.P, .int .i64 D.C]) := by rw [ha]; exact putSel_on (e := (3, 19, .agg #[.int .i64 D.B, .int .i64 D.P, .int .i64 D.C])) 3 rfl rfl (hon 3 (by kernel_rfl)) rfl
        have e20 : a.tmps[20]? = some (.agg #[.int .i64 bk, .int .i64 pg]) := by rw [ha]; exact putSel_on (e := (4, 20, .agg #[.int .i64 bk, .int .i64 pg])) 4 rfl rfl (hon 4 (by kernel_rfl)) rfl
        replace ha := Aside0.mk ha
        have B0 := Aside0.mk Q_B0
        refine goes_ Try.func69 (by kernel_rfl) rfl #[.agg #[.int .i64 D.B, .int .i64 D.P, .int .i64 D.C], .agg #[.int .i64 bk, .int .i64 pg]] (by rfl) rfl rfl (by first | (simp only [List.map_toArray, List.map_cons, List.map_nil, Act.eval, Array.getD_eq_getD_getElem?, Option.getD_some, e19, e20]; done) | (simp only [List.map_toArray, List.map_cons, List.map_nil, Act.eval, Array.getD_eq_getD_getElem?, Option.getD_some, e19, e20]; rfl)) ?_
        with_reducible refine (HPL.out _).mono ?_
        rintro e w2 ⟨rfl, hb⟩
        refine ⟨_, rfl, ?_⟩
        refine hK.out _ _ ⟨(by rw [ha.out]; exact putSel_upk 5 hb_ rfl rfl rfl), below_then B0.out B0.out.size hb⟩
      refine steps_cons ?_ ?_
      · rintro b a w' ⟨ha, Q_B0⟩ hb_ hon hoff
        refine ⟨_, rfl, fun K hK => ?_⟩
        have e21 : a.tmps[21]? = some (.int .i64 pl) := by rw [ha]; exact putSel_on (e := (5, 21, .int .i64 pl)) 5 rfl rfl (hon 5 (by kernel_rfl)) rfl
        replace ha := Aside0.mk ha
        have B0 := Aside0.mk Q_B0
        refine value_ (w1 := w') (v := .int .i64 pl) (by rfl) rfl ?_ ?_
        · go_simp
          (try simp only [i64_w])
          try rfl
        refine hK.out _ _ ⟨(by rw [ha.out]; exact putSel_upk 6 hb_ rfl rfl rfl), Q_B0⟩
      exact steps_nil
    rintro b a w4 hall ⟨ha, Q_B0⟩
    clear B0
    have hb0_ := hall 0 (by kernel_rfl)
    have hb1_ := hall 1 (by kernel_rfl)
    have hb2_ := hall 2 (by kernel_rfl)
    have hb3_ := hall 3 (by kernel_rfl)
    have hb4_ := hall 4 (by kernel_rfl)
    have hb5_ := hall 5 (by kernel_rfl)
    have hb6_ := hall 6 (by kernel_rfl)
    subst ha
    simp only [putSel, hb0_, hb1_, hb2_, hb3_, hb4_, hb5_, hb6_, if_true, Act.put, List.setIfInBounds_toArray, List.set_cons_zero, List.set_cons_succ]
    have B0 := Aside0.mk Q_B0
    clear Q_B0
    clear hall hb0_ hb1_ hb2_ hb3_ hb4_ hb5_ hb6_
    have HB4 := Aside0.mk (below_then HB3.out HB3.out.size B0.out)
    have H4 := Aside0.mk (H3.out.below B0.out)
    have HZ4_4 := Aside0.mk (blk_below HZ4_3.out B0.out)
    have HZ5_4 := Aside0.mk (blk_below HZ5_3.out B0.out)
    clear HPL H3 HZ4_3 HZ5_3 B0 HB2 HB3
    cases hh : D.here bk pg with
    | false =>
      rw [hh, if_neg (by decide)] at hpl
      subst hpl
      have HR1 : Aside0 (r = (3, D)) := ⟨by rw [HRR.out]; unfold Dv.prog; rw [if_neg (by rw [hd]; decide), if_pos (.inl hh)]⟩
      clear hh hd
      go_wp2_with fail
      go_ret
      rw [HR1.out]
      exact ⟨rfl, (H00.out.below HB4.out).newer_ H00.out.lt, Turn.of_below HB4.out _⟩
    | true =>
      rw [hh, if_pos rfl] at hpl
      have hix := H00.out.ok.idx hh
      obtain ⟨i, hi⟩ : ∃ i, i = D.idx bk pg := ⟨_, rfl⟩
      rw [← hi] at hpl hix
      subst hpl
      have HI := Aside0.mk (And.intro hi hix.2)
      have HHH := Aside0.mk hh
      obtain ⟨⟨h1, h2⟩, h3, h4⟩ := here_iff.1 hh
      obtain ⟨n, rfl⟩ := Int.eq_ofNat_of_zero_le h1
      have HN := Aside0.mk (And.intro h2 (And.intro h3 h4))
      have HD0 := Aside0.mk hd
      have tpl : decide ((i : Int) < 0) = false := decide_eq_false (by omega)
      have y5 := blk_cell HZ5_4.out 0
      clear hi hix h1 h2 h3 h4 hd hh
      by_cases hlen : l.length = 256
      case neg =>
        have tl : ((l.length : Int) != 256) = true := by simp; omega
        have HR1 : Aside0 (r = (3, D)) := ⟨by rw [HRR.out]; unfold Dv.prog; rw [if_neg (by rw [HD0.out]; decide), if_pos (.inr hlen)]⟩
        clear hlen
        go_wp2_with fail
        go_ret
        rw [HR1.out]
        exact ⟨rfl, (H00.out.below HB4.out).newer_ H00.out.lt, Turn.of_below HB4.out _⟩
      case pos =>
        have tl : ((l.length : Int) != 256) = false := by rw [hlen]; rfl
        have HLN := Aside0.mk hlen
        clear hlen
        go_upto_region 7 with fail
        obtain ⟨bm, hbm⟩ : ∃ x, x = D.mark (n : Int) := ⟨_, rfl⟩
        have HBM := Aside0.mk hbm
        have HQ := Aside0.mk (And.intro (eq_true (show (0 : Int) ≤ (n : Int) by omega)) (eq_true (show (n : Int) < (((marks D).length : Nat) : Int) by rw [marks_len]; have := HN.out.1; omega)))
        have HQ2 := Aside0.mk (And.intro (eq_true (show (0 : Int) ≤ (n : Int) by omega)) (eq_true (show (n : Int) < ((D.next.length : Nat) : Int) by have := H00.out.ok.nl; have := HN.out.1; omega)))
        have B0 := Aside0.mk (below_drew1 (Below.refl w4.heap.size w4))
        clear hbm y5 tl tpl
        refine start_ (n := 9) (S := fun w' => True) (ds := []) #[false, false, false, false, false, false, false, false, false] (by kernel_rfl) rfl rfl trivial (fun hHeld => ?_)
        refine with_tabW prog7.tab7 prog7.bits7 (fun HT_ HW_ => ?_)
        generalize w4.drew = wq at B0 hHeld ⊢
        refine inv_at [0, 1, 2, 3, 4, 5, 6, 7, 8] (fun a0_ b a w' => a = putSel a0_ b [(0, 31, .pointer (some ⟨L.g, 0, none⟩)), (1, 32, .pointer (some ⟨L.g, 0, none⟩)), (2, 33, .pointer (some ⟨L.g, 3, none⟩)), (3, 34, .slice (some ⟨L.gm, 0, none⟩) (marks D).length L.cm), (4, 35, .pointer (some ⟨g4, 0, none⟩)), (5, 36, .int .i64 (n : Int)), (6, 37, .pointer (some ⟨L.gm, n, none⟩)), (7, 38, .bool bm), (8, 30, .bool bm)] ∧ (Below w4.heap.size w4 w')) HT_.out HW_.out (by kernel_rfl) (by kernel_rfl) ?_ ?_ ?_
        · exact ⟨by simp only [putSel, Bool.false_eq_true, if_false], B0.out⟩
        · skip
          clear B0
          refine steps_cons ?_ ?_
          · rintro b a w' ⟨ha, Q_B0⟩ hb_ hon hoff
            refine ⟨_, rfl, fun K hK => ?_⟩
            have e0 : a.tmps[0]? = some (.pointer (some ⟨L.g, 0, none⟩)) := by rw [ha]; exact (putSel_off rfl).trans rfl
            replace ha := Aside0.mk ha
            have B0 := Aside0.mk Q_B0
            refine value_ (w1 := w') (v := .pointer (some ⟨L.g, 0, none⟩)) (by rfl) rfl ?_ ?_
            · go_simp
              (try simp only [i64_w])
              try rfl
            refine hK.out _ _ ⟨(by rw [ha.out]; exact putSel_upk 0 hb_ rfl rfl rfl), Q_B0⟩
          refine steps_cons ?_ ?_
          · rintro b a w' ⟨ha, Q_B0⟩ hb_ hon hoff
            refine ⟨_, rfl, fun K hK => ?_⟩
            have e31 : a.tmps[31]? = some (.pointer (some ⟨L.g, 0, none⟩)) := by rw [ha]; exact putSel_on (e := (0, 31, .pointer (some ⟨L.g, 0, none⟩))) 0 rfl rfl (hon 0 (by kernel_rfl)) rfl
            replace ha := Aside0.mk ha
            have B0 := Aside0.mk Q_B0
            refine value_ (w1 := w') (v := .pointer (some ⟨L.g, 0, none⟩)) (by rfl) rfl ?_ ?_
            · go_simp
              (try simp only [i64_w])
              try rfl
            refine hK.out _ _ ⟨(by rw [ha.out]; exact putSel_upk 1 hb_ rfl rfl rfl), Q_B0⟩
          refine steps_cons ?_ ?_
          · rintro b a w' ⟨ha, Q_B0⟩ hb_ hon hoff
            refine ⟨_, rfl, fun K hK => ?_⟩
            have e32 : a.tmps[32]? = some (.pointer (some ⟨L.g, 0, none⟩)) := by rw [ha]; exact putSel_on (e := (1, 32, .pointer (some ⟨L.g, 0, none⟩))) 1 rfl rfl (hon 1 (by kernel_rfl)) rfl
            replace ha := Aside0.mk ha
            have B0 := Aside0.mk Q_B0
            refine value_ (w1 := w') (v := .pointer (some ⟨L.g, 3, none⟩)) (by rfl) rfl ?_ ?_
            · go_simp
              (try simp only [i64_w])
              try rfl
            refine hK.out _ _ ⟨(by rw [ha.out]; exact putSel_upk 2 hb_ rfl rfl rfl), Q_B0⟩
          refine steps_cons ?_ ?_
          · rintro b a w' ⟨ha, Q_B0⟩ hb_ hon hoff
            refine ⟨_, rfl, fun K hK => ?_⟩
            have e33 : a.tmps[33]? = some (.pointer (some ⟨L.g, 3, none⟩)) := by rw [ha]; exact putSel_on (e := (2, 33, .pointer (some ⟨L.g, 3, none⟩))) 2 rfl rfl (hon 2 (by kernel_rfl)) rfl
            replace ha := Aside0.mk ha
            have B0 := Aside0.mk Q_B0
            have c_ := (top_cells (H4.out.below B0.out)).2.2.2.1
            refine value_ (w1 := w') (v := .slice (some ⟨L.gm, 0, none⟩) (marks D).length L.cm) (by rfl) rfl ?_ ?_
            · go_simp
              (try simp only [i64_w])
              try rfl
            refine hK.out _ _ ⟨(by rw [ha.out]; exact putSel_upk 3 hb_ rfl rfl rfl), Q_B0⟩
          refine steps_cons ?_ ?_
          · rintro b a w' ⟨ha, Q_B0⟩ hb_ hon hoff
            refine ⟨_, rfl, fun K hK => ?_⟩
            have e4 : a.tmps[4]? = some (.pointer (some ⟨g4, 0, none⟩)) := by rw [ha]; exact (putSel_off rfl).trans rfl
            replace ha := Aside0.mk ha
            have B0 := Aside0.mk Q_B0
            refine value_ (w1 := w') (v := .pointer (some ⟨g4, 0, none⟩)) (by rfl) rfl ?_ ?_
            · go_simp
              (try simp only [i64_w])
              try rfl
            refine hK.out _ _ ⟨(by rw [ha.out]; exact putSel_upk 4 hb_ rfl rfl rfl), Q_B0⟩
          refine steps_cons ?_ ?_
          · rintro b a w' ⟨ha, Q_B0⟩ hb_ hon hoff
            refine ⟨_, rfl, fun K hK => ?_⟩
            have e35 : a.tmps[35]? = some (.pointer (some ⟨g4, 0, none⟩)) := by rw [ha]; exact putSel_on (e := (4, 35, .pointer (some ⟨g4, 0, none⟩))) 4 rfl rfl (hon 4 (by kernel_rfl)) rfl
            replace ha := Aside0.mk ha
            have B0 := Aside0.mk Q_B0
            have c_ := blk_cell (blk_below HZ4_4.out B0.out) 0
            refine value_ (w1 := w') (v := .int .i64 (n : Int)) (by rfl) rfl ?_ ?_
            · go_simp
              (try simp only [i64_w])
              try rfl
            refine hK.out _ _ ⟨(by rw [ha.out]; exact putSel_upk 5 hb_ rfl rfl rfl), Q_B0⟩
          refine steps_cons ?_ ?_
          · rintro b a w' ⟨ha, Q_B0⟩ hb_ hon hoff
            refine ⟨_, rfl, fun K hK => ?_⟩
            have e34 : a.tmps[34]? = some (.slice (some ⟨L.gm, 0, none⟩) (marks D).length L.cm) := by rw [ha]; exact putSel_on (e := (3, 34, .slice (some ⟨L.gm, 0, none⟩) (marks D).length L.cm)) 3 rfl rfl (hon 3 (by kernel_rfl)) rfl
            have e36 : a.tmps[36]? = some (.int .i64 (n : Int)) := by rw [ha]; exact putSel_on (e := (5, 36, .int .i64 (n : Int))) 5 rfl rfl (hon 5 (by kernel_rfl)) rfl
            replace ha := Aside0.mk ha
            have B0 := Aside0.mk Q_B0
            have p_ := HQ.out.1
            have q_ := HQ.out.2
            refine value_ (w1 := w') (v := .pointer (some ⟨L.gm, n, none⟩)) (by rfl) rfl ?_ ?_
            · go_simp
              (try simp only [i64_w])
              try rfl
            refine hK.out _ _ ⟨(by rw [ha.out]; exact putSel_upk 6 hb_ rfl rfl rfl), Q_B0⟩
          refine steps_cons ?_ ?_
          · rintro b a w' ⟨ha, Q_B0⟩ hb_ hon hoff
            refine ⟨_, rfl, fun K hK => ?_⟩
            have e37 : a.tmps[37]? = some (.pointer (some ⟨L.gm, n, none⟩)) := by rw [ha]; exact putSel_on (e := (6, 37, .pointer (some ⟨L.gm, n, none⟩))) 6 rfl rfl (hon 6 (by kernel_rfl)) rfl
            replace ha := Aside0.mk ha
            have B0 := Aside0.mk Q_B0
            have c_ := (H4.out.below B0.out).mb.cell (marks_at HN.out.1)
            rw [← HBM.out] at c_
            refine value_ (w1 := w') (v := .bool bm) (by rfl) rfl ?_ ?_
            · go_simp
              (try simp only [i64_w])
              try rfl
            refine hK.out _ _ ⟨(by rw [ha.out]; exact putSel_upk 7 hb_ rfl rfl rfl), Q_B0⟩
          refine steps_cons ?_ ?_
          · rintro b a w' ⟨ha, Q_B0⟩ hb_ hon hoff
            refine ⟨_, rfl, fun K hK => ?_⟩
            have e38 : a.tmps[38]? = some (.bool bm) := by rw [ha]; exact putSel_on (e := (7, 38, .bool bm)) 7 rfl rfl (hon 7 (by kernel_rfl)) rfl
            replace ha := Aside0.mk ha
            have B0 := Aside0.mk Q_B0
            refine value_ (w1 := w') (v := .bool bm) (by rfl) rfl ?_ ?_
            · go_simp
              (try simp only [i64_w])
              try rfl
            refine hK.out _ _ ⟨(by rw [ha.out]; exact putSel_upk 8 hb_ rfl rfl rfl), Q_B0⟩
          exact steps_nil
        rintro b a w7 hall ⟨ha, Q_B0⟩
        clear B0
        have hb0_ := hall 0 (by kernel_rfl)
        have hb1_ := hall 1 (by kernel_rfl)
        have hb2_ := hall 2 (by kernel_rfl)
        have hb3_ := hall 3 (by kernel_rfl)
        have hb4_ := hall 4 (by kernel_rfl)
        have hb5_ := hall 5 (by kernel_rfl)
        have hb6_ := hall 6 (by kernel_rfl)
        have hb7_ := hall 7 (by kernel_rfl)
        have hb8_ := hall 8 (by kernel_rfl)
        subst ha
        simp only [putSel, hb0_, hb1_, hb2_, hb3_, hb4_, hb5_, hb6_, hb7_, hb8_, if_true, Act.put, List.setIfInBounds_toArray, List.set_cons_zero, List.set_cons_succ]
        have B0 := Aside0.mk Q_B0
        clear Q_B0
        clear hall hb0_ hb1_ hb2_ hb3_ hb4_ hb5_ hb6_ hb7_ hb8_
        have HB7 := Aside0.mk (below_then HB4.out HB4.out.size B0.out)
        have H7 := Aside0.mk (H4.out.below B0.out)
        have HZ4_7 := Aside0.mk (blk_below HZ4_4.out B0.out)
        have HZ5_7 := Aside0.mk (blk_below HZ5_4.out B0.out)
        clear B0 H4 HZ4_4 HZ5_4 HB4
        cases bm with
        | true =>
          have HR1 : Aside0 (r = (12, D)) := ⟨by rw [HRR.out]; unfold Dv.prog; rw [if_neg (by rw [HD0.out]; decide), if_neg (by rw [HHH.out, HLN.out]; simp), if_pos HBM.out.symm]⟩
          go_wp2_with fail
          go_ret
          rw [HR1.out]
          exact ⟨rfl, (H00.out.below HB7.out).newer_ H00.out.lt, Turn.of_below HB7.out _⟩
        | false =>
          go_upto_region 9 with fail
          obtain ⟨nx, hnx⟩ : ∃ x, x = D.next.getD n 0 := ⟨_, rfl⟩
          obtain ⟨bq, hbq⟩ : ∃ x, x = (pg != nx) := ⟨_, rfl⟩
          have HNX := Aside0.mk hnx
          have HBQ := Aside0.mk hbq.symm
          have HNC : Aside0 ((D.next.map (Value.int .i64))[n]? = some (.int .i64 nx)) := ⟨by rw [hnx]; exact ints_at (by have := H00.out.ok.nl; have := HN.out.1; omega)⟩
          have B0 := Aside0.mk (below_drew1 (Below.refl w7.heap.size w7))
          clear hnx hbq
          refine start_ (n := 12) (S := fun w' => True) (ds := []) #[false, false, false, false, false, false, false, false, false, false, false, false] (by kernel_rfl) rfl rfl trivial (fun hHeld => ?_)
          refine with_tabW prog9.tab9 prog9.bits9 (fun HT_ HW_ => ?_)
          generalize w7.drew = wq at B0 hHeld ⊢
          refine inv_at [0, 1, 2, 3, 4, 5, 6, 7, 8, 9, 10, 11] (fun a0_ b a w' => a = putSel a0_ b [(0, 40, .pointer (some ⟨g4, 1, none⟩)), (1, 41, .int .i64 pg), (2, 42, .pointer (some ⟨L.g, 0, none⟩)), (3, 43, .pointer (some ⟨L.g, 0, none⟩)), (4, 44, .pointer (some ⟨L.g, 5, none⟩)), (5, 45, .slice (some ⟨L.gn, 0, none⟩) D.next.length L.cn), (6, 46, .pointer (some ⟨g4, 0, none⟩)), (7, 47, .int .i64 (n : Int)), (8, 48, .pointer (some ⟨L.gn, n, none⟩)), (9, 49, .int .i64 nx), (10, 50, .bool bq), (11, 39, .bool bq)] ∧ (Below w7.heap.size w7 w')) HT_.out HW_.out (by kernel_rfl) (by kernel_rfl) ?_ ?_ ?_
          · exact ⟨by simp only [putSel, Bool.false_eq_true, if_false], B0.out⟩
          · skip
            clear B0
            refine steps_cons ?_ ?_
            · rintro b a w' ⟨ha, Q_B0⟩ hb_ hon hoff
              refine ⟨_, rfl, fun K hK => ?_⟩
              have e4 : a.tmps[4]? = some (.pointer (some ⟨g4, 0, none⟩)) := by rw [ha]; exact (putSel_off rfl).trans rfl
              replace ha := Aside0.mk ha
              have B0 := Aside0.mk Q_B0
              refine value_ (w1 := w') (v := .pointer (some ⟨g4, 1, none⟩)) (by rfl) rfl ?_ ?_
              · go_simp
                (try simp only [i64_w])
                try rfl
              refine hK.out _ _ ⟨(by rw [ha.out]; exact putSel_upk 0 hb_ rfl rfl rfl), Q_B0⟩
            refine steps_cons ?_ ?_
            · rintro b a w' ⟨ha, Q_B0⟩ hb_ hon hoff
              refine ⟨_, rfl, fun K hK => ?_⟩
              have e40 : a.tmps[40]? = some (.pointer (some ⟨g4, 1, none⟩)) := by rw [ha]; exact putSel_on (e := (0, 40, .pointer (some ⟨g4, 1, none⟩))) 0 rfl rfl (hon 0 (by kernel_rfl)) rfl
              replace ha := Aside0.mk ha
              have B0 := Aside0.mk Q_B0
              have c_ := blk_cell (blk_below HZ4_7.out B0.out) 1
              refine value_ (w1 := w') (v := .int .i64 pg) (by rfl) rfl ?_ ?_
              · go_simp
                (try simp only [i64_w])
                try rfl
              refine hK.out _ _ ⟨(by rw [ha.out]; exact putSel_upk 1 hb_ rfl rfl rfl), Q_B0⟩
            refine steps_cons ?_ ?_
            · rintro b a w' ⟨ha, Q_B0⟩ hb_ hon hoff
              refine ⟨_, rfl, fun K hK => ?_⟩
              have e0 : a.tmps[0]? = some (.pointer (some ⟨L.g, 0, none⟩)) := by rw [ha]; exact (putSel_off rfl).trans rfl
              replace ha := Aside0.mk ha
              have B0 := Aside0.mk Q_B0
              refine value_ (w1 := w') (v := .pointer (some ⟨L.g, 0, none⟩)) (by rfl) rfl ?_ ?_
              · go_simp
                (try simp only [i64_w])
                try rfl
              refine hK.out _ _ ⟨(by rw [ha.out]; exact putSel_upk 2 hb_ rfl rfl rfl), Q_B0⟩
            refine steps_cons ?_ ?_
            · rintro b a w' ⟨ha, Q_B0⟩ hb_ hon hoff
              refine ⟨_, rfl, fun K hK => ?_⟩
              have e42 : a.tmps[42]? = some (.pointer (some ⟨L.g, 0, none⟩)) := by rw [ha]; exact putSel_on (e := (2, 42, .pointer (some ⟨L.g, 0, none⟩))) 2 rfl rfl (hon 2 (by kernel_rfl)) rfl
              replace ha := Aside0.mk ha
              have B0 := Aside0.mk Q_B0
              refine value_ (w1 := w') (v := .pointer (some ⟨L.g, 0, none⟩)) (by rfl) rfl ?_ ?_
              · go_simp
                (try simp only [i64_w])
                try rfl
              refine hK.out _ _ ⟨(by rw [ha.out]; exact putSel_upk 3 hb_ rfl rfl rfl), Q_B0⟩
            refine steps_cons ?_ ?_
            · rintro b a w' ⟨ha, Q_B0⟩ hb_ hon hoff
              refine ⟨_, rfl, fun K hK => ?_⟩
              have e43 : a.tmps[43]? = some (.pointer (some ⟨L.g, 0, none⟩)) := by rw [ha]; exact putSel_on (e := (3, 43, .pointer (some ⟨L.g, 0, none⟩))) 3 rfl rfl (hon 3 (by kernel_rfl)) rfl
              replace ha := Aside0.mk ha
              have B0 := Aside0.mk Q_B0
              refine value_ (w1 := w') (v := .pointer (some ⟨L.g, 5, none⟩)) (by rfl) rfl ?_ ?_
              · go_simp
                (try simp only [i64_w])
                try rfl
              refine hK.out _ _ ⟨(by rw [ha.out]; exact putSel_upk 4 hb_ rfl rfl rfl), Q_B0⟩
            refine steps_cons ?_ ?_
            · rintro b a w' ⟨ha, Q_B0⟩ hb_ hon hoff
              refine ⟨_, rfl, fun K hK => ?_⟩
              have e44 : a.tmps[44]? = some (.pointer (some ⟨L.g, 5, none⟩)) := by rw [ha]; exact putSel_on (e := (4, 44, .pointer (some ⟨L.g, 5, none⟩))) 4 rfl rfl (hon 4 (by kernel_rfl)) rfl
              replace ha := Aside0.mk ha
              have B0 := Aside0.mk Q_B0
              have c_ := (top_cells (H7.out.below B0.out)).2.2.2.2.2.1
              refine value_ (w1 := w') (v := .slice (some ⟨L.gn, 0, none⟩) D.next.length L.cn) (by rfl) rfl ?_ ?_
              · go_simp
                (try simp only [i64_w])
                try rfl
              refine hK.out _ _ ⟨(by rw [ha.out]; exact putSel_upk 5 hb_ rfl rfl rfl), Q_B0⟩
            refine steps_cons ?_ ?_
            · rintro b a w' ⟨ha, Q_B0⟩ hb_ hon hoff
              refine ⟨_, rfl, fun K hK => ?_⟩
              have e4 : a.tmps[4]? = some (.pointer (some ⟨g4, 0, none⟩)) := by rw [ha]; exact (putSel_off rfl).trans rfl
              replace ha := Aside0.mk ha
              have B0 := Aside0.mk Q_B0
              refine value_ (w1 := w') (v := .pointer (some ⟨g4, 0, none⟩)) (by rfl) rfl ?_ ?_
              · go_simp
                (try simp only [i64_w])
                try rfl
              refine hK.out _ _ ⟨(by rw [ha.out]; exact putSel_upk 6 hb_ rfl rfl rfl), Q_B0⟩
            refine steps_cons ?_ ?_
            · rintro b a w' ⟨ha, Q_B0⟩ hb_ hon hoff
              refine ⟨_, rfl, fun K hK => ?_⟩
              have e46 : a.tmps[46]? = some (.pointer (some ⟨g4, 0, none⟩)) := by rw [ha]; exact putSel_on (e := (6, 46, .pointer (some ⟨g4, 0, none⟩))) 6 rfl rfl (hon 6 (by kernel_rfl)) rfl
              replace ha := Aside0.mk ha
              have B0 := Aside0.mk Q_B0
              have c_ := blk_cell (blk_below HZ4_7.out B0.out) 0
              refine value_ (w1 := w') (v := .int .i64 (n : Int)) (by rfl) rfl ?_ ?_
              · go_simp
                (try simp only [i64_w])
                try rfl
              refine hK.out _ _ ⟨(by rw [ha.out]; exact putSel_upk 7 hb_ rfl rfl rfl), Q_B0⟩
            refine steps_cons ?_ ?_
            · rintro b a w' ⟨ha, Q_B0⟩ hb_ hon hoff
              refine ⟨_, rfl, fun K hK => ?_⟩
              have e45 : a.tmps[45]? = some (.slice (some ⟨L.gn, 0, none⟩) D.next.length L.cn) := by rw [ha]; exact putSel_on (e := (5, 45, .slice (some ⟨L.gn, 0, none⟩) D.next.length L.cn)) 5 rfl rfl (hon 5 (by kernel_rfl)) rfl
              have e47 : a.tmps[47]? = some (.int .i64 (n : Int)) := by rw [ha]; exact putSel_on (e := (7, 47, .int .i64 (n : Int))) 7 rfl rfl (hon 7 (by kernel_rfl)) rfl
              replace ha := Aside0.mk ha
              have B0 := Aside0.mk Q_B0
              have p_ := HQ2.out.1
              have q_ := HQ2.out.2
              refine value_ (w1 := w') (v := .pointer (some ⟨L.gn, n, none⟩)) (by rfl) rfl ?_ ?_
              · go_simp
                (try simp only [i64_w])
                try rfl
              refine hK.out _ _ ⟨(by rw [ha.out]; exact putSel_upk 8 hb_ rfl rfl rfl), Q_B0⟩
            refine steps_cons ?_ ?_
            · rintro b a w' ⟨ha, Q_B0⟩ hb_ hon hoff
              refine ⟨_, rfl, fun K hK => ?_⟩
              have e48 : a.tmps[48]? = some (.pointer (some ⟨L.gn, n, none⟩)) := by rw [ha]; exact putSel_on (e := (8, 48, .pointer (some ⟨L.gn, n, none⟩))) 8 rfl rfl (hon 8 (by kernel_rfl)) rfl
              replace ha := Aside0.mk ha
              have B0 := Aside0.mk Q_B0
              have c_ := (H7.out.below B0.out).nx.cell HNC.out
              refine value_ (w1 := w') (v := .int .i64 nx) (by rfl) rfl ?_ ?_
              · go_simp
                (try simp only [i64_w])
                try rfl
              refine hK.out _ _ ⟨(by rw [ha.out]; exact putSel_upk 9 hb_ rfl rfl rfl), Q_B0⟩
            refine steps_cons ?_ ?_
            · rintro b a w' ⟨ha, Q_B0⟩ hb_ hon hoff
              refine ⟨_, rfl, fun K hK => ?_⟩
              have e41 : a.tmps[41]? = some (.int .i64 pg) := by rw [ha]; exact putSel_on (e := (1, 41, .int .i64 pg)) 1 rfl rfl (hon 1 (by kernel_rfl)) rfl
              have e49 : a.tmps[49]? = some (.int .i64 nx) := by rw [ha]; exact putSel_on (e := (9, 49, .int .i64 nx)) 9 rfl rfl (hon 9 (by kernel_rfl)) rfl
              replace ha := Aside0.mk ha
              have B0 := Aside0.mk Q_B0
              have q_ := HBQ.out
              refine value_ (w1 := w') (v := .bool bq) (by rfl) rfl ?_ ?_
              · go_simp
                (try simp only [i64_w])
                try rfl
              refine hK.out _ _ ⟨(by rw [ha.out]; exact putSel_upk 10 hb_ rfl rfl rfl), Q_B0⟩
            refine steps_cons ?_ ?_
            · rintro b a w' ⟨ha, Q_B0⟩ hb_ hon hoff
              refine ⟨_, rfl, fun K hK => ?_⟩
              have e50 : a.tmps[50]? = some (.bool bq) := by rw [ha]; exact putSel_on (e := (10, 50, .bool bq)) 10 rfl rfl (hon 10 (by kernel_rfl)) rfl
              replace ha := Aside0.mk ha
              have B0 := Aside0.mk Q_B0
              refine value_ (w1 := w') (v := .bool bq) (by rfl) rfl ?_ ?_
              · go_simp
                (try simp only [i64_w])
                try rfl
              refine hK.out _ _ ⟨(by rw [ha.out]; exact putSel_upk 11 hb_ rfl rfl rfl), Q_B0⟩
            exact steps_nil
          rintro b a w9 hall ⟨ha, Q_B0⟩
          clear B0
          have hb0_ := hall 0 (by kernel_rfl)
          have hb1_ := hall 1 (by kernel_rfl)
          have hb2_ := hall 2 (by kernel_rfl)
          have hb3_ := hall 3 (by kernel_rfl)
          have hb4_ := hall 4 (by kernel_rfl)
          have hb5_ := hall 5 (by kernel_rfl)
          have hb6_ := hall 6 (by kernel_rfl)
          have hb7_ := hall 7 (by kernel_rfl)
          have hb8_ := hall 8 (by kernel_rfl)
          have hb9_ := hall 9 (by kernel_rfl)
          have hb10_ := hall 10 (by kernel_rfl)
          have hb11_ := hall 11 (by kernel_rfl)
          subst ha
          simp only [putSel, hb0_, hb1_, hb2_, hb3_, hb4_, hb5_, hb6_, hb7_, hb8_, hb9_, hb10_, hb11_, if_true, Act.put, List.setIfInBounds_toArray, List.set_cons_zero, List.set_cons_succ]
          have B0 := Aside0.mk Q_B0
          clear Q_B0
          clear hall hb0_ hb1_ hb2_ hb3_ hb4_ hb5_ hb6_ hb7_ hb8_ hb9_ hb10_ hb11_
          have HB9 := Aside0.mk (below_then HB7.out HB7.out.size B0.out)
          have H9 := Aside0.mk (H7.out.below B0.out)
          have HZ4_9 := Aside0.mk (blk_below HZ4_7.out B0.out)
          have HZ5_9 := Aside0.mk (blk_below HZ5_7.out B0.out)
          clear B0 H7 HZ4_7 HZ5_7 HB7
          cases bq with
          | true =>
            have HR1 : Aside0 (r = (11, D)) := ⟨by rw [HRR.out]; unfold Dv.prog; rw [if_neg (by rw [HD0.out]; decide), if_neg (by rw [HHH.out, HLN.out]; simp), if_neg (by rw [← HBM.out]; decide), if_pos (by rw [Int.toNat_natCast, ← HNX.out]; have := HBQ.out; simp at this; exact fun e => this e.symm)]⟩
            go_wp2_with fail
            go_ret
            rw [HR1.out]
            exact ⟨rfl, (H00.out.below HB9.out).newer_ H00.out.lt, Turn.of_below HB9.out _⟩
          | false =>
            obtain rfl : pg = nx := by have := HBQ.out; simpa using this
            have HR1 : Aside0 (r = (ended D.fault.1, D.progD (n : Int) pg l)) := ⟨by rw [HRR.out]; unfold Dv.prog; rw [if_neg (by rw [HD0.out]; decide), if_neg (by rw [HHH.out, HLN.out]; simp), if_neg (by rw [← HBM.out]; decide), if_neg (by rw [Int.toNat_natCast, ← HNX.out]; simp)]⟩
            have HBG := Aside0.mk (begin_calls H9.out)
            go_upto_region 12 with (go_at_call 64; refine HBG.out.mono ?_; rintro e w10 ⟨A3, c3, rfl, hc3, hF3, hD3, hT3⟩; have HE3 := Aside0.mk (And.intro hc3 (And.intro hF3 (And.intro hD3 hT3))); clear hc3 hF3 hD3 hT3)
            obtain ⟨m, hm⟩ : ∃ m, m = D.fault.2 := ⟨_, rfl⟩
            rw [← hm] at HE3 ⊢
            have HM := Aside0.mk hm
            have hz10 := heap_alloc_new w10 (.cells #[.slice A3 m.length c3] 38)
            have hb10 := below_alloc (Below.refl w10.heap.size w10) (.cells #[.slice A3 m.length c3] 38)
            have hn4 : ¬ L.S g4 := fun hS => by have := H00.out.lt g4 hS; have := HG.out.1; omega
            have hn5 : ¬ L.S g5 := fun hS => by have := H00.out.lt g5 hS; have := HG.out.2; omega
            have hn10 : ¬ L.S w10.heap.size := fun hS => by have := H00.out.lt _ hS; have := HB9.out.size; have := HE3.out.2.2.2.size; omega
            have H11 := Aside0.mk (HE3.out.2.2.1.below hb10)
            have T11 := Aside0.mk (((Turn.of_below HB9.out L.S).trans HE3.out.2.2.2 (fun k hk => .inl hk)).below hb10)
            have F11 := Aside0.mk (Kd.F_below HE3.out.2.1 hb10)
            have Z4_11 := Aside0.mk (blk_below (blk_turn HZ4_9.out HE3.out.2.2.2 hn4) hb10)
            have Z5_11 := Aside0.mk (blk_below (blk_turn HZ5_9.out HE3.out.2.2.2 hn5) hb10)
            have HC3 := Aside0.mk HE3.out.1
            generalize w10.alloc (.cells #[.slice A3 m.length c3] 38) = W11 at hz10 hb10 H11 T11 F11 Z4_11 Z5_11 ⊢
            generalize w10.heap.size = g10 at hz10 hn10 ⊢
            have Z10_11 := Aside0.mk hz10
            have HNS := Aside0.mk (And.intro hn4 (And.intro hn5 hn10))
            have HNXR := Aside0.mk (show 0 ≤ pg + 1 ∧ pg + 1 ≤ D.P by have := HN.out; omega)
            have HWP : Aside0 (IntKind.i64.wrap (pg + 1) = pg + 1) := ⟨by have := HN.out; have := H00.out.ok.p2; rw [i64_w]; unfold wrap64; omega⟩
            have B0 := Aside0.mk (below_drew1 (Below.refl W11.heap.size W11))
            clear hz10 hb10 hn4 hn5 hn10 HBG hm H9 HZ4_9 HZ5_9 HE3
            refine start_ (n := 11) (S := fun w' => True) (ds := []) #[false, false, false, false, false, false, false, false, false, false, false] (by kernel_rfl) rfl rfl trivial (fun hHeld => ?_)
            refine with_tabW prog12.tab12 prog12.bits12 (fun HT_ HW_ => ?_)
            generalize W11.drew = wq at B0 hHeld ⊢
            refine inv_at [0, 1, 2, 3, 4, 5, 6, 7, 8, 9, 10] (fun a0_ b a w' => a = putSel a0_ b [(0, 56, .pointer (some ⟨L.g, 0, none⟩)), (1, 57, .pointer (some ⟨L.g, 0, none⟩)), (2, 58, .pointer (some ⟨L.g, 5, none⟩)), (3, 59, .slice (some ⟨L.gn, 0, none⟩) D.next.length L.cn), (4, 60, .pointer (some ⟨g4, 0, none⟩)), (5, 61, .int .i64 (n : Int)), (6, 62, .pointer (some ⟨L.gn, n, none⟩)), (7, 63, .int .i64 pg), (8, 64, .int .i64 (pg + 1)), (9, 65, .pointer (some ⟨L.gn, n, none⟩))] ∧ (b 10 = false → Below W11.heap.size W11 w') ∧ (b 10 = true → DV w' ok L { D.bump with next := D.next.set n (pg + 1) } ∧ Turn W11 w' L.S)) HT_.out HW_.out (by kernel_rfl) (by kernel_rfl) ?_ ?_ ?_
            · exact ⟨by simp only [putSel, Bool.false_eq_true, if_false], fun _ => B0.out, fun h_ => absurd h_ (by decide)⟩
            · skip
              clear B0
              refine steps_cons ?_ ?_
              · rintro b a w' ⟨ha, Q_B0, Q_FIN⟩ hb_ hon hoff
                refine ⟨_, rfl, fun K hK => ?_⟩
                have e0 : a.tmps[0]? = some (.pointer (some ⟨L.g, 0, none⟩)) := by rw [ha]; exact (putSel_off rfl).trans rfl
                replace ha := Aside0.mk ha
                have B0 := Aside0.mk (Q_B0 (hoff 10 (by kernel_rfl)))
                refine value_ (w1 := w') (v := .pointer (some ⟨L.g, 0, none⟩)) (by rfl) rfl ?_ ?_
                · go_simp
                  (try simp only [i64_w])
                  try rfl
                refine hK.out _ _ ⟨(by rw [ha.out]; exact putSel_upk 0 hb_ rfl rfl rfl), Q_B0, fun h0_ => absurd ((hoff 10 (by kernel_rfl)).symm.trans h0_) (by decide)⟩
              refine steps_cons ?_ ?_
              · rintro b a w' ⟨ha, Q_B0, Q_FIN⟩ hb_ hon hoff
                refine ⟨_, rfl, fun K hK => ?_⟩
                have e56 : a.tmps[56]? = some (.pointer (some ⟨L.g, 0, none⟩)) := by rw [ha]; exact putSel_on (e := (0, 56, .pointer (some ⟨L.g, 0, none⟩))) 0 rfl rfl (hon 0 (by kernel_rfl)) rfl
                replace ha := Aside0.mk ha
                have B0 := Aside0.mk (Q_B0 (hoff 10 (by kernel_rfl)))
                refine value_ (w1 := w') (v := .pointer (some ⟨L.g, 0, none⟩)) (by rfl) rfl ?_ ?_
                · go_simp
                  (try simp only [i64_w])
                  try rfl
                refine hK.out _ _ ⟨(by rw [ha.out]; exact putSel_upk 1 hb_ rfl rfl rfl), Q_B0, fun h0_ => absurd ((hoff 10 (by kernel_rfl)).symm.trans h0_) (by decide)⟩
              refine steps_cons ?_ ?_
              · rintro b a w' ⟨ha, Q_B0, Q_FIN⟩ hb_ hon hoff
                refine ⟨_, rfl, fun K hK => ?_⟩
                have e57 : a.tmps[57]? = some (.pointer (some ⟨L.g, 0, none⟩)) := by rw [ha]; exact putSel_on (e := (1, 57, .pointer (some ⟨L.g, 0, none⟩))) 1 rfl rfl (hon 1 (by kernel_rfl)) rfl
                replace ha := Aside0.mk ha
                have B0 := Aside0.mk (Q_B0 (hoff 10 (by kernel_rfl)))
                refine value_ (w1 := w') (v := .pointer (some ⟨L.g, 5, none⟩)) (by rfl) rfl ?_ ?_
                · go_simp
                  (try simp only [i64_w])
                  try rfl
                refine hK.out _ _ ⟨(by rw [ha.out]; exact putSel_upk 2 hb_ rfl rfl rfl), Q_B0, fun h0_ => absurd ((hoff 10 (by kernel_rfl)).symm.trans h0_) (by decide)⟩
              refine steps_cons ?_ ?_
              · rintro b a w' ⟨ha, Q_B0, Q_FIN⟩ hb_ hon hoff
                refine ⟨_, rfl, fun K hK => ?_⟩
                have e58 : a.tmps[58]? = some (.pointer (some ⟨L.g, 5, none⟩)) := by rw [ha]; exact putSel_on (e := (2, 58, .pointer (some ⟨L.g, 5, none⟩))) 2 rfl rfl (hon 2 (by kernel_rfl)) rfl
                replace ha := Aside0.mk ha
                have B0 := Aside0.mk (Q_B0 (hoff 10 (by kernel_rfl)))
                have c_ := (top_cells (H11.out.below B0.out)).2.2.2.2.2.1
                refine value_ (w1 := w') (v := .slice (some ⟨L.gn, 0, none⟩) D.next.length L.cn) (by rfl) rfl ?_ ?_
                · go_simp
                  (try simp only [i64_w])
                  try rfl
                refine hK.out _ _ ⟨(by rw [ha.out]; exact putSel_upk 3 hb_ rfl rfl rfl), Q_B0, fun h0_ => absurd ((hoff 10 (by kernel_rfl)).symm.trans h0_) (by decide)⟩
              refine steps_cons ?_ ?_
              · rintro b a w' ⟨ha, Q_B0, Q_FIN⟩ hb_ hon hoff
                refine ⟨_, rfl, fun K hK => ?_⟩
                have e4 : a.tmps[4]? = some (.pointer (some ⟨g4, 0, none⟩)) := by rw [ha]; exact (putSel_off rfl).trans rfl
                replace ha := Aside0.mk ha
                have B0 := Aside0.mk (Q_B0 (hoff 10 (by kernel_rfl)))
                refine value_ (w1 := w') (v := .pointer (some ⟨g4, 0, none⟩)) (by rfl) rfl ?_ ?_
                · go_simp
                  (try simp only [i64_w])
                  try rfl
                refine hK.out _ _ ⟨(by rw [ha.out]; exact putSel_upk 4 hb_ rfl rfl rfl), Q_B0, fun h0_ => absurd ((hoff 10 (by kernel_rfl)).symm.trans h0_) (by decide)⟩
              refine steps_cons ?_ ?_
              · rintro b a w' ⟨ha, Q_B0, Q_FIN⟩ hb_ hon hoff
                refine ⟨_, rfl, fun K hK => ?_⟩
                have e60 : a.tmps[60]? = some (.pointer (some ⟨g4, 0, none⟩)) := by rw [ha]; exact putSel_on (e := (4, 60, .pointer (some ⟨g4, 0, none⟩))) 4 rfl rfl (hon 4 (by kernel_rfl)) rfl
                replace ha := Aside0.mk ha
                have B0 := Aside0.mk (Q_B0 (hoff 10 (by kernel_rfl)))
                have c_ := blk_cell (blk_below Z4_11.out B0.out) 0
                refine value_ (w1 := w') (v := .int .i64 (n : Int)) (by rfl) rfl ?_ ?_
                · go_simp
                  (try simp only [i64_w])
                  try rfl
                refine hK.out _ _ ⟨(by rw [ha.out]; exact putSel_upk 5 hb_ rfl rfl rfl), Q_B0, fun h0_ => absurd ((hoff 10 (by kernel_rfl)).symm.trans h0_) (by decide)⟩
              refine steps_cons ?_ ?_
              · rintro b a w' ⟨ha, Q_B0, Q_FIN⟩ hb_ hon hoff
                refine ⟨_, rfl, fun K hK => ?_⟩
                have e59 : a.tmps[59]? = some (.slice (some ⟨L.gn, 0, none⟩) D.next.length L.cn) := by rw [ha]; exact putSel_on (e := (3, 59, .slice (some ⟨L.gn, 0, none⟩) D.next.length L.cn)) 3 rfl rfl (hon 3 (by kernel_rfl)) rfl
                have e61 : a.tmps[61]? = some (.int .i64 (n : Int)) := by rw [ha]; exact putSel_on (e := (5, 61, .int .i64 (n : Int))) 5 rfl rfl (hon 5 (by kernel_rfl)) rfl
                replace ha := Aside0.mk ha
                have B0 := Aside0.mk (Q_B0 (hoff 10 (by kernel_rfl)))
                have p_ := HQ2.out.1
                have q_ := HQ2.out.2
                refine value_ (w1 := w') (v := .pointer (some ⟨L.gn, n, none⟩)) (by rfl) rfl ?_ ?_
                · go_simp
                  (try simp only [i64_w])
                  try rfl
                refine hK.out _ _ ⟨(by rw [ha.out]; exact putSel_upk 6 hb_ rfl rfl rfl), Q_B0, fun h0_ => absurd ((hoff 10 (by kernel_rfl)).symm.trans h0_) (by decide)⟩
              refine steps_cons ?_ ?_
              · rintro b a w' ⟨ha, Q_B0, Q_FIN⟩ hb_ hon hoff
                refine ⟨_, rfl, fun K hK => ?_⟩
                have e62 : a.tmps[62]? = some (.pointer (some ⟨L.gn, n, none⟩)) := by rw [ha]; exact putSel_on (e := (6, 62, .pointer (some ⟨L.gn, n, none⟩))) 6 rfl rfl (hon 6 (by kernel_rfl)) rfl
                replace ha := Aside0.mk ha
                have B0 := Aside0.mk (Q_B0 (hoff 10 (by kernel_rfl)))
                have c_ := (H11.out.below B0.out).nx.cell HNC.out
                refine value_ (w1 := w') (v := .int .i64 pg) (by rfl) rfl ?_ ?_
                · go_simp
                  (try simp only [i64_w])
                  try rfl
                refine hK.out _ _ ⟨(by rw [ha.out]; exact putSel_upk 7 hb_ rfl rfl rfl), Q_B0, fun h0_ => absurd ((hoff 10 (by kernel_rfl)).symm.trans h0_) (by decide)⟩
              refine steps_cons ?_ ?_
              · rintro b a w' ⟨ha, Q_B0, Q_FIN⟩ hb_ hon hoff
                refine ⟨_, rfl, fun K hK => ?_⟩
                have e63 : a.tmps[63]? = some (.int .i64 pg) := by rw [ha]; exact putSel_on (e := (7, 63, .int .i64 pg)) 7 rfl rfl (hon 7 (by kernel_rfl)) rfl
                replace ha := Aside0.mk ha
                have B0 := Aside0.mk (Q_B0 (hoff 10 (by kernel_rfl)))
                have q_ := HWP.out
                refine value_ (w1 := w') (v := .int .i64 (pg + 1)) (by rfl) rfl ?_ ?_
                · go_simp
                  (try simp only [i64_w])
                  try rfl
                refine hK.out _ _ ⟨(by rw [ha.out]; exact putSel_upk 8 hb_ rfl rfl rfl), Q_B0, fun h0_ => absurd ((hoff 10 (by kernel_rfl)).symm.trans h0_) (by decide)⟩
              refine steps_cons ?_ ?_
              · rintro b a w' ⟨ha, Q_B0, Q_FIN⟩ hb_ hon hoff
                refine ⟨_, rfl, fun K hK => ?_⟩
                have e59 : a.tmps[59]? = some (.slice (some ⟨L.gn, 0, none⟩) D.next.length L.cn) := by rw [ha]; exact putSel_on (e := (3, 59, .slice (some ⟨L.gn, 0, none⟩) D.next.length L.cn)) 3 rfl rfl (hon 3 (by kernel_rfl)) rfl
                have e61 : a.tmps[61]? = some (.int .i64 (n : Int)) := by rw [ha]; exact putSel_on (e := (5, 61, .int .i64 (n : Int))) 5 rfl rfl (hon 5 (by kernel_rfl)) rfl
                replace ha := Aside0.mk ha
                have B0 := Aside0.mk (Q_B0 (hoff 10 (by kernel_rfl)))
                have p_ := HQ2.out.1
                have q_ := HQ2.out.2
                refine value_ (w1 := w') (v := .pointer (some ⟨L.gn, n, none⟩)) (by rfl) rfl ?_ ?_
                · go_simp
                  (try simp only [i64_w])
                  try rfl
                refine hK.out _ _ ⟨(by rw [ha.out]; exact putSel_upk 9 hb_ rfl rfl rfl), Q_B0, fun h0_ => absurd ((hoff 10 (by kernel_rfl)).symm.trans h0_) (by decide)⟩
              refine steps_cons ?_ ?_
              · rintro b a w' ⟨ha, Q_B0, Q_FIN⟩ hb_ hon hoff
                refine ⟨_, rfl, fun K hK => ?_⟩
                have e65 : a.tmps[65]? = some (.pointer (some ⟨L.gn, n, none⟩)) := by rw [ha]; exact putSel_on (e := (9, 65, .pointer (some ⟨L.gn, n, none⟩))) 9 rfl rfl (hon 9 (by kernel_rfl)) rfl
                have e64 : a.tmps[64]? = some (.int .i64 (pg + 1)) := by rw [ha]; exact putSel_on (e := (8, 64, .int .i64 (pg + 1))) 8 rfl rfl (hon 8 (by kernel_rfl)) rfl
                replace ha := Aside0.mk ha
                have B0 := Aside0.mk (Q_B0 hb_)
                have c_ := (H11.out.below B0.out).nx.cell HNC.out
                have fr_ := (H11.out.below B0.out).nx.frozen n
                refine skip_ (w1 := ?_) (by rfl) rfl ?_ ?_
                rotate_left
                · go_simp
                  rfl
                refine hK.out _ _ ⟨(by rw [ha.out]; exact putSel_none (v := undef) rfl), fun h0_ => absurd ((up_self b 10).symm.trans h0_) (by decide), fun _ => ⟨(H11.out.below B0.out).set_next n (pg + 1) HNXR.out, (Turn.of_below B0.out L.S).setCell (p := ⟨L.gn, n, none⟩) (.inl (.inr (.inr (.inl rfl)))) _⟩⟩
              exact steps_nil
            rintro b a w12 hall ⟨ha, Q_B0, Q_FIN⟩
            clear B0
            have hb0_ := hall 0 (by kernel_rfl)
            have hb1_ := hall 1 (by kernel_rfl)
            have hb2_ := hall 2 (by kernel_rfl)
            have hb3_ := hall 3 (by kernel_rfl)
            have hb4_ := hall 4 (by kernel_rfl)
            have hb5_ := hall 5 (by kernel_rfl)
            have hb6_ := hall 6 (by kernel_rfl)
            have hb7_ := hall 7 (by kernel_rfl)
            have hb8_ := hall 8 (by kernel_rfl)
            have hb9_ := hall 9 (by kernel_rfl)
            have hb10_ := hall 10 (by kernel_rfl)
            subst ha
            simp only [putSel, hb0_, hb1_, hb2_, hb3_, hb4_, hb5_, hb6_, hb7_, hb8_, hb9_, hb10_, if_true, Act.put, List.setIfInBounds_toArray, List.set_cons_zero, List.set_cons_succ]
            clear Q_B0
            have FIN := Aside0.mk (Q_FIN hb10_)
            clear Q_FIN
            clear hall hb0_ hb1_ hb2_ hb3_ hb4_ hb5_ hb6_ hb7_ hb8_ hb9_ hb10_
            have T12 := Aside0.mk (T11.out.trans FIN.out.2 (fun k hk => .inl hk))
            have Z5_12 := Aside0.mk (blk_turn Z5_11.out FIN.out.2 HNS.out.2.1)
            have Z10_12 := Aside0.mk (blk_turn Z10_11.out FIN.out.2 HNS.out.2.2)
            have hnn := newer_no (W9 := w9) H00.out HB9.out.size
            have F12 := Aside0.mk (F_turn F11.out FIN.out.2 (fun k hk _ => hnn k hk))
            have GL12 := Aside0.mk (Kd.F_now (F_turn HLL.out.2.2.1 T12.out HLL.out.2.2.2))
            have hpo := page_ok H00.out.ok HI.out.2
            have hmo := fault_mask H00.out.ok
            rw [← HM.out] at hmo
            have H12 := Aside0.mk FIN.out.1
            have HCH := Aside0.mk (change_calls FIN.out.1 i HI.out.2 70 _ #[.pointer (some ⟨g5, 0, none⟩), .pointer (some ⟨g10, 0, none⟩)] Try.func70 (by kernel_rfl) rfl (progRow (D.pages.getD i []) l m) (progRow_ok hpo.1 hpo.2)
              (fun W' hW A' c' hc' hC' => prog1_calls (blk_below Z5_12.out hW) (blk_below Z10_12.out hW) ⟨HLL.out.2.1, HLL.out.1⟩ ⟨hmo.1, HC3.out⟩ hpo hc' (Kd.C_below GL12.out hW) (Kd.C_below (Kd.F_now F12.out) hW) hC' ok))
            clear FIN H11 T11 F11 Z4_11 Z5_11 Z10_11 hnn hpo hmo
            go_upto_region 14 with (go_at_call 65; refine HCH.out.mono ?_; rintro e w13 ⟨rfl, hD13, hT13⟩; have H13 := Aside0.mk hD13; have T13 := Aside0.mk (T12.out.trans hT13 (fun k hk => .inl hk)); clear hD13 hT13)
            have HEN := Aside0.mk (end_calls H13.out HD0.out D.fault.1 (fault_kind D))
            go_wp2_with (go_at_call 68; refine HEN.out.mono ?_; rintro e w14 ⟨rfl, hD14, hT14⟩; have H14 := Aside0.mk hD14; have T14 := Aside0.mk (T13.out.trans hT14 (fun k hk => .inl hk)); clear hD14 hT14)
            go_ret
            rw [HR1.out]
            have hE : D.progD (n : Int) pg l = { D.bump with next := D.next.set n (pg + 1), pages := D.pages.set i (progRow (D.pages.getD i []) l m), down := D.fault.1 == 2 } := by unfold Dv.progD; rw [← HI.out.1, ← HM.out]; rfl
            refine ⟨rfl, ?_, T14.out⟩
            show DV w14 (newer W ok) L (D.progD (n : Int) pg l)
            rw [hE]
            exact H14.out.newer2 H00.out (newer_le T12.out.size)
end Go.Proofs.Ytnchdmidaigheaa.ND
namespace Go.Proofs.Ytnchdmidaigheaa.ND
set_option linter.unusedVariables false
set_option linter.unusedSimpArgs false
open Go.RowKit Go.Proofs.Ytnchdmidaigheaa.Hp Go.Proofs.YtnchdmidaigheaaW.PrintWords Go.Proofs.YtnchdmidaigheaaW.PrintLast Go.Proofs.YtnchdmidaigheaaW.PrintMore
def read4.T4 : Bool × List (List Nat × List Nat) := (true, [([], []), ([0], [0]), ([1], [1]), ([2], [2]), ([], []), ([3, 4], [3, 4]), ([5, 5, 0, 1, 2, 3, 4, 5], [5])])
def read4.B4 : List Nat := [0, 1, 3, 7, 0, 31, 63]
theorem read4.tab4 : rtab .any (opsOf Try.f21 4) = read4.T4 := by kernel_rfl
theorem read4.bits4 : waitsOk read4.T4.2 read4.B4 = true := by kernel_rfl
def ReadsTo (W w' : World) (e : Ending) (r : List Int × Int) : Prop := ∃ A c, e = .returned (.tuple #[.slice A r.1.length c, .int .i64 r.2]) ∧ r.1.length ≤ c ∧ Kd.F (Kd.int .u8) w' (fun k => W.heap.size ≤ k) A r.1.length r.1 ∧ Below W.heap.size W w'
set_option maxHeartbeats 2000000 in
set_option maxRecDepth 100000 in
theorem read_calls {W : World} {ok : Nat → Prop} {L : Lay} {D : Dv} (h : DV W ok L D) (bk pg : Int) :
    Calls Try.prog 21 #[.pointer (some ⟨L.g, 0, none⟩), .agg #[.int .i64 bk, .int .i64 pg]] W fun e w' => ReadsTo W w' e (D.read bk pg) := by
  have H00 := Aside0.mk h
  obtain ⟨r, hr⟩ : ∃ r, r = D.read bk pg := ⟨_, rfl⟩
  rw [← hr]
  have HRR := Aside0.mk hr
  have hz4 := heap_alloc_new W (.cells #[.int .i64 bk, .int .i64 pg] 37)
  have hb4 := below_alloc (Below.refl W.heap.size W) (.cells #[.int .i64 bk, .int .i64 pg] 37)
  obtain ⟨g4, hg4⟩ : ∃ g, g = W.heap.size := ⟨_, rfl⟩
  clear hr h
  go_enter Try.func21, Try.ntmps21
  go_upto_region 1 with fail
  generalize (W.alloc (.cells #[.int .i64 bk, .int .i64 pg] 37)) = W2 at hz4 hb4 ⊢
  rw [← hg4] at hz4 ⊢
  have HG := Aside0.mk hg4
  have HB2 := Aside0.mk hb4
  have HZ4 := Aside0.mk hz4
  have H2 := Aside0.mk (H00.out.below hb4)
  clear hg4 hz4 hb4
  cases hd : D.down with
  | true =>
    have HU := Aside0.mk (up_calls H2.out)
    rw [hd, if_pos rfl] at HU
    have HR1 : Aside0 (r = ([], 9)) := ⟨by rw [HRR.out]; unfold Dv.read; rw [if_pos hd]⟩
    clear hd
    go_wp2_with (go_at_call 63; refine HU.out.mono ?_; rintro e w3 ⟨rfl, hb⟩; have HB3 := Aside0.mk (below_then HB2.out HB2.out.size hb); clear hb)
    go_ret2
    rw [HR1.out]
    exact ⟨none, 0, rfl, Nat.le_refl _, Kd.F_nil _ _ _, HB3.out⟩
  | false =>
    have HU := Aside0.mk (up_calls H2.out)
    rw [hd, if_neg (by decide)] at HU
    go_upto_region 4 with (go_at_call 63; refine HU.out.mono ?_; rintro e w3 ⟨rfl, hb⟩; have HB3 := Aside0.mk (below_then HB2.out HB2.out.size hb); have HB23 := Aside0.mk hb; clear hb)
    have H3 := Aside0.mk (H2.out.below HB23.out)
    have HZ4_3 := Aside0.mk (blk_below HZ4.out HB23.out)
    have B0 := Aside0.mk (below_drew1 (Below.refl w3.heap.size w3))
    obtain ⟨pl, hpl⟩ : ∃ pl : Int, pl = if D.here bk pg = true then (D.idx bk pg : Int) else -1 := ⟨_, rfl⟩
    have HPL := Aside0.mk (fun w => geom_Place.calls D.B D.P D.C bk pg pl w (by rw [hpl]; exact place_f H00.out.ok bk pg))
    clear HU HZ4 H2 HB23
    refine start_ (n := 7) (S := fun w' => True) (ds := []) #[false, false, false, false, false, false, false] (by kernel_rfl) rfl rfl trivial (fun hHeld => ?_)
    refine with_tabW read4.tab4 read4.bits4 (fun HT_ HW_ => ?_)
    generalize w3.drew = wq at B0 hHeld ⊢
    refine inv_at [0, 1, 2, 3, 4, 5, 6] (fun a0_ b a w' => a = putSel a0_ b [(0, 14, .pointer (some ⟨L.g, 0, none⟩)), (1, 15, .pointer (some ⟨L.g, 0, none⟩)), (2, 16, .pointer (some ⟨L.g, 0, none⟩)), (3, 17, .agg #[.int .i64 D.B, .int .i64 D.P, .int .i64 D.C]), (4, 18, .agg #[.int .i64 bk, .int .i64 pg]), (5, 19, .int .i64 pl), (6, 7, .int .i64 pl)] ∧ (Below w3.heap.size w3 w')) HT_.out HW_.out (by kernel_rfl) (by kernel_rfl) ?_ ?_ ?_
    · exact ⟨by simp only [putSel, Bool.false_eq_true, if_false], B0.out⟩
    · skip
      clear B0
      refine steps_cons ?_ ?_
      · rintro b a w' ⟨ha, Q_B0⟩ hb_ hon hoff
        refine ⟨_, rfl, fun K hK => ?_⟩
        have e0 : a.tmps[0]? = some (.pointer (some ⟨L.g, 0, none⟩)) := by rw [ha]; exact (putSel_off rfl).trans rfl
        replace ha := Aside0.mk ha
        have B0 := Aside0.mk Q_B0
        refine value_ (w1 := w') (v := .pointer (some ⟨L.g, 0, none⟩)) (by rfl) rfl ?_ ?_
        · go_simp
          (try simp only [i64_w])
          try rfl
        refine hK.out _ _ ⟨(by rw [ha.out]; exact putSel_upk 0 hb_ rfl rfl rfl), Q_B0⟩
      refine steps_cons ?_ ?_
      · rintro b a w' ⟨ha, Q_B0⟩ hb_ hon hoff
        refine ⟨_, rfl, fun K hK => ?_⟩
        have e14 : a.tmps[14]? = some (.pointer (some ⟨L.g, 0, none⟩)) := by rw [ha]; exact putSel_on (e := (0, 14, .pointer (some ⟨L.g, 0, none⟩))) 0 rfl rfl (hon 0 (by kernel_rfl)) rfl
        replace ha := Aside0.mk ha
        have B0 := Aside0.mk Q_B0
        refine value_ (w1 := w') (v := .pointer (some ⟨L.g, 0, none⟩)) (by rfl) rfl ?_ ?_
        · go_simp
          (try simp only [i64_w])
          try rfl
        refine hK.out _ _ ⟨(by rw [ha.out]; exact putSel_upk 1 hb_ rfl rfl rfl), Q_B0⟩
      refine steps_cons ?_ ?_
      · rintro b a w' ⟨ha, Q_B0⟩ hb_ hon hoff
        refine ⟨_, rfl, fun K hK => ?_⟩
        have e15 : a.tmps[15]? = some (.pointer (some ⟨L.g, 0, none⟩)) := by rw [ha]; exact putSel_on (e := (1, 15, .pointer (some ⟨L.g, 0, none⟩))) 1 rfl rfl (hon 1 (by kernel_rfl)) rfl
        replace ha := Aside0.mk ha
        have B0 := Aside0.mk Q_B0
        refine value_ (w1 := w') (v := .pointer (some ⟨L.g, 0, none⟩)) (by rfl) rfl ?_ ?_
        · go_simp
          (try simp only [i64_w])
          try rfl
        refine hK.out _ _ ⟨(by rw [ha.out]; exact putSel_upk 2 hb_ rfl rfl rfl), Q_B0⟩
      refine steps_cons ?_ ?_
      · rintro b a w' ⟨ha, Q_B0⟩ hb_ hon hoff
        refine ⟨_, rfl, fun K hK => ?_⟩
        have e16 : a.tmps[16]? = some (.pointer (some ⟨L.g, 0, none⟩)) := by rw [ha]; exact putSel_on (e := (2, 16, .pointer (some ⟨L.g, 0, none⟩))) 2 rfl rfl (hon 2 (by kernel_rfl)) rfl
        replace ha := Aside0.mk ha
        have B0 := Aside0.mk Q_B0
        have hh_ := top_cells (H3.out.below B0.out)
        have c0_ := hh_.1
        have c1_ := hh_.2.1
        have c2_ := hh_.2.2.1
        clear hh_
        refine value_ (w1 := w') (v := .agg #[.int .i64 D.B, .int .i64 D.P, .int .i64 D.C]) (by rfl) rfl ?_ ?_
        · go_simp
          (try simp only [i64_w])
          try rfl
        refine hK.out _ _ ⟨(by rw [ha.out]; exact putSel_upk 3 hb_ rfl rfl rfl), Q_B0⟩
      refine steps_cons ?_ ?_
      · rintro b a w' ⟨ha, Q_B0⟩ hb_ hon hoff
        refine ⟨_, rfl, fun K hK => ?_⟩
        have e3 : a.tmps[3]? = some (.pointer (some ⟨g4, 0, none⟩)) := by rw [ha]; exact (putSel_off rfl).trans rfl
        replace ha := Aside0.mk ha
        have B0 := Aside0.mk Q_B0
        have c0_ := blk_cell (blk_below HZ4_3.out B0.out) 0
        have c1_ := blk_cell (blk_below HZ4_3.out B0.out) 1
        refine value_ (w1 := w') (v := .agg #[.int .i64 bk, .int .i64 pg]) (by rfl) rfl ?_ ?_
        · go_simp
          (try simp only [i64_w])
          try rfl
        refine hK.out _ _ ⟨(by rw [ha.out]; exact putSel_upk 4 hb_ rfl rfl rfl), Q_B0⟩
      refine steps_cons ?_ ?_
      · rintro b a w' ⟨ha, Q_B0⟩ hb_ hon hoff
        refine ⟨_, rfl, fun K hK => ?_⟩
        have e17 : a.tmps[17]? = some (.agg #[.int .i64 D.B, .int .i64 D.P, .int .i64 D.C]) := by rw [ha]; exact putSel_on (e := (3, 17, .agg #[.int .i64 D.B, .int .i64 D.P, .int .i64 D.C])) 3 rfl rfl (hon 3 (by kernel_rfl)) rfl
        have e18 : a.tmps[18]? = some (.agg #[.int .i64 bk, .int .i64 pg]) := by rw [ha]; exact putSel_on (e := (4, 18, .agg #[.int .i64 bk, .int .i64 pg])) 4 rfl rfl (hon 4 (by kernel_rfl)) rfl
        replace ha := Aside0.mk ha
        have B0 := Aside0.mk Q_B0
        refine goes_ Try.func69 (by kernel_rfl) rfl #[.agg #[.int .i64 D.B, .int .i64 D.P, .int .i64 D.C], .agg #[.int .i64 bk, .int .i64 pg]] (by rfl) rfl rfl (by first | (simp only [List.map_toArray, List.map_cons, List.map_nil, Act.eval, Array.getD_eq_getD_getElem?, Option.getD_some, e17, e18]; done) | (simp only [List.map_toArray, List.map_cons, List.map_nil, Act.eval, Array.getD_eq_getD_getElem?, Option.getD_some, e17, e18]; rfl)) ?_
        with_reducible refine (HPL.out _).mono ?_
        rintro e w2 ⟨rfl, hb⟩
        refine ⟨_, rfl, ?_⟩
        refine hK.out _ _ ⟨(by rw [ha.out]; exact putSel_upk 5 hb_ rfl rfl rfl), below_then B0.out B0.out.size hb⟩
      refine steps_cons ?_ ?_
      · rintro b a w' ⟨ha, Q_B0⟩ hb_ hon hoff
        refine ⟨_, rfl, fun K hK => ?_⟩
        have e19 : a.tmps[19]? = some (.int .i64 pl) := by rw [ha]; exact putSel_on (e := (5, 19, .int .i64 pl)) 5 rfl rfl (hon 5 (by kernel_rfl)) rfl
        replace ha := Aside0.mk ha
        have B0 := Aside0.mk Q_B0
        refine value_ (w1 := w') (v := .int .i64 pl) (by rfl) rfl ?_ ?_
        · go_simp
          (try simp only [i64_w])
          try rfl
        refine hK.out _ _ ⟨(by rw [ha.out]; exact putSel_upk 6 hb_ rfl rfl rfl), Q_B0⟩
      exact steps_nil
    rintro b a w4 hall ⟨ha, Q_B0⟩
    clear B0
    have hb0_ := hall 0 (by kernel_rfl)
    have hb1_ := hall 1 (by kernel_rfl)
    have hb2_ := hall 2 (by kernel_rfl)
    have hb3_ := hall 3 (by kernel_rfl)
    have hb4_ := hall 4 (by kernel_rfl)
    have hb5_ := hall 5 (by kernel_rfl)
    have hb6_ := hall 6 (by kernel_rfl)
    subst ha
    simp only [putSel, hb0_, hb1_, hb2_, hb3_, hb4_, hb5_, hb6_, if_true, Act.put, List.setIfInBounds_toArray, List.set_cons_zero, List.set_cons_succ]
    have B0 := Aside0.mk Q_B0
    clear Q_B0
    clear hall hb0_ hb1_ hb2_ hb3_ hb4_ hb5_ hb6_
    have HB4 := Aside0.mk (below_then HB3.out HB3.out.size B0.out)
    have H4 := Aside0.mk (H3.out.below B0.out)
    clear HPL H3 HZ4_3 B0 HB2 HB3
    cases hh : D.here bk pg with
    | false =>
      rw [hh, if_neg (by decide)] at hpl
      subst hpl
      have HR1 : Aside0 (r = ([], 3)) := ⟨by rw [HRR.out]; unfold Dv.read; rw [if_neg (by rw [hd]; decide), if_pos hh]⟩
      clear hh hd
      go_wp2_with fail
      go_ret2
      rw [HR1.out]
      exact ⟨none, 0, rfl, Nat.le_refl _, Kd.F_nil _ _ _, HB4.out⟩
    | true =>
      rw [hh, if_pos rfl] at hpl
      have hix := H00.out.ok.idx hh
      obtain ⟨i, hi⟩ : ∃ i, i = D.idx bk pg := ⟨_, rfl⟩
      rw [← hi] at hpl hix
      subst hpl
      have HI := Aside0.mk (And.intro hi hix.2)
      have tpl : decide ((i : Int) < 0) = false := decide_eq_false (by omega)
      have HR1 : Aside0 (r = (D.pages.getD i [], 0)) := ⟨by rw [HRR.out]; unfold Dv.read; rw [if_neg (by rw [hd]; decide), if_neg (by rw [hh]; decide), hi]⟩
      have hpo := page_ok H00.out.ok hix.2
      have HPO := Aside0.mk hpo
      obtain ⟨vs, hcv, hpg⟩ := H4.out.pg
      have hil : i < vs.length := by rw [hpg.1]; exact hix.2
      obtain ⟨Ai, ci, hv, hci, hFi⟩ := hpg.2 i vs[i] (D.pages.getD i []) (List.getElem?_eq_getElem hil) (by rw [List.getD_eq_getElem?_getD, List.getElem?_eq_getElem hix.2]; rfl)
      have HV : Aside0 (vs[i]? = some (.slice Ai 256 ci)) := ⟨by rw [List.getElem?_eq_getElem hil, hv]⟩
      have HC := Aside0.mk hcv
      have HFI := Aside0.mk (And.intro hci hFi)
      have HP := Aside0.mk (And.intro (eq_true (show (0 : Int) ≤ (i : Int) by omega)) (eq_true (show (i : Int) < ((D.pages.length : Nat) : Int) by have := hix.2; omega)))
      clear hi hix hd hh hpo hcv hpg hil hv hci hFi
      go_upto_region 8 with (at_make; refine Kd.R_make (Kd.int .u8) (w0 := w4) w4.heap.size 5 rfl rfl 38 _ _ rfl 256 rfl rfl Try.underlying38 (.int .u8 0) 1 (by kernel_rfl) rfl (by decide) (by decide) 0 (ok := fun k => w4.heap.size ≤ k) (okp := fun _ => False) rfl (fun k hk => hk.elim) (Nat.le_refl _) (by decide) (by decide) (Below.refl _ _) (Nat.le_refl _) ?_; intro v1 w7 hR7 hb7 hg7 hat7; have HR7 := Aside0.mk (And.intro hR7 hb7); clear hR7 hb7 hg7 hat7)
      have H7 := Aside0.mk (H4.out.below HR7.out.2)
      have c4 := (top_cells H7.out).2.2.2.2.1
      have cv := (HC.out.below HR7.out.2).cell HV.out
      have p1 := HP.out.1
      have q1 := HP.out.2
      go_upto_region 9 with ((with_reducible show Go.wpList _ _ _ ({ dst := _, op := .call { callee := .builtin .copy, args := _, argTypes := _ }, type := _, pos := _, after := _, guard := _ } :: _) _ _); refine Kd.R_copy (0 : Int) (w0 := w4) w4.heap.size rfl _ _ 38 38 5 rfl Try.underlying38 (by kernel_rfl) v1 (List.replicate 256 0) (D.pages.getD i []) Ai 256 ci (fun k => w4.heap.size ≤ k) rfl rfl HR7.out.1 (Kd.C_below (Kd.F_now HFI.out.2) HR7.out.2) HR7.out.2 HR7.out.2.size ?_; intro w8 hR8 hb8 hg8; have HR8 := Aside0.mk (And.intro hR8 hb8); clear hR8 hb8 hg8 p1 q1 c4 cv)
      go_wp2_with fail
      go_ret2
      have hl := HPO.out.2
      have hR := HR8.out.1
      rw [List.length_replicate, show min 256 256 = 256 from rfl, List.take_of_length_le (by omega), List.drop_of_length_le (by simp), List.append_nil] at hR
      obtain ⟨A, c, rfl, hc, _⟩ := Kd.R_reads hR
      rw [HR1.out]
      exact ⟨A, c, rfl, hc, Kd.F_mono (Kd.R_F hR) (fun k hk => Nat.le_trans HB4.out.size hk), below_then HB4.out HB4.out.size HR8.out.2⟩
end Go.Proofs.Ytnchdmidaigheaa.ND
