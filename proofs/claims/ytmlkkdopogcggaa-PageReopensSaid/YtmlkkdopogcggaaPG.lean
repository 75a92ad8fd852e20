/- What pages come to, in plain numbers: lemmas for the laws of layer 15. -/
import Derived.Test.YtmlkkdopogcggaaHp33
import Derived.Test.YtmlkkdopogcggaaHp34
import Derived.Test.YtmlkkdopogcggaaHp35
import Derived.Test.YtmlkkdopogcggaaHp41
import Derived.OpenShut
namespace Go.Proofs.Ytmlkkdopogcggaa.PG
set_option linter.unusedVariables false
open Go.RowKit Go.Proofs.Ytmlkkdopogcggaa.Hp Go.Proofs.YtmlkkdopogcggaaW.PrintWords Go.Proofs.YtmlkkdopogcggaaW.PrintLast

theorem w64 {x : Int} (h : -9223372036854775808 ≤ x ∧ x ≤ 9223372036854775807) : wrap64 x = x := by unfold wrap64; omega
theorem bytes_of_wf {l : List Int} (h : ∀ x ∈ l, (Lit.int .u8 x).wf = true) : isBytes l := fun x hx => bounds_u8 (h x hx)
theorem getD_range (m : List Int) (hm : isBytes m) (i : Nat) : 0 ≤ m.getD i 0 ∧ m.getD i 0 ≤ 255 := rd_range m hm i
theorem zsum_take (b : List Int) (j : Nat) (h : j < b.length) : zsum (b.take (j + 1)) = zsum (b.take j) + zbits (b.getD j 0) := wagtailref15_Put.zsum_snoc b j h
theorem zbits_range (c : Int) : 0 ≤ zbits c ∧ zbits c ≤ 8 := by unfold zbits; omega
theorem zsum_range (b : List Int) : 0 ≤ zsum b ∧ zsum b ≤ 8 * b.length := wagtailref15_Put.zsum_range b
theorem pcount_loop (b : List Int) (hb : isBytes b) (hl : b.length ≤ 100000) (d : Nat) : ∀ (i : Nat), i + d = b.length →
    Ev (fun k => zeros_Count.l0 k (zsum (b.take i)) b (b.length : Int) (i : Int)) (zsum b) := by
  induction d with
  | zero =>
    intro i hi
    obtain rfl : i = b.length := by omega
    refine Ev.step (f := fun _ => some (zsum b)) (fun k => ?_) (Ev.now _)
    simp only [zeros_Count.l0]
    rw [if_neg (by omega), List.take_length]
  | succ d ih =>
    intro i hi
    have hr := getD_range b hb i
    have hz := zbits_range (b.getD i 0)
    have hs := zsum_range (b.take i)
    rw [List.length_take] at hs
    refine Ev.step (fun k => ?_) (ih (i + 1) (by omega))
    simp only [zeros_Count.l0]
    rw [if_pos (by omega), if_pos (by omega), if_pos (by omega)]
    have e : zeros_count.f (rd b (i : Int)) = some (zbits (b.getD i 0)) := by
      unfold zeros_count.f
      show (if 0 ≤ b.getD (i : Int).toNat 0 ∧ b.getD (i : Int).toNat 0 ≤ 255 then some (zbits (b.getD (i : Int).toNat 0)) else none) = _
      rw [Int.toNat_natCast, if_pos hr]
    rw [e]
    simp only [Option.bind_some]
    rw [w64 (by omega), w64 (by omega), zsum_take b i (by omega)]
    rfl
theorem pcount_ev (b : List Int) (hb : isBytes b) (hl : b.length ≤ 100000) : Ev (fun k => zeros_Count.f k b) (zsum b) := by
  have h := pcount_loop b hb hl b.length 0 (by omega)
  exact Ev.congr (fun k => by simp [zeros_Count.f, zsum]) h
theorem ones_loop (n : Nat) (hn : n ≤ 2000000) : ∀ d i : Nat, i + d = n → Ev (fun k => wagtailref02_Ones.l0 k (n : Int) (List.replicate i 255) (i : Int)) (List.replicate n 255) := by
  intro d
  induction d with
  | zero =>
    intro i hi
    obtain rfl : i = n := by omega
    refine Ev.step (fun k => ?_) (Ev.now _)
    simp only [wagtailref02_Ones.l0]
    rw [if_neg (by omega)]
  | succ d ih =>
    intro i hi
    have hw : wrap64 ((i : Int) + 1) = ((i + 1 : Nat) : Int) := by rw [w64 (by omega)]; omega
    refine Ev.step (fun k => ?_) (ih (i + 1) (by omega))
    simp only [wagtailref02_Ones.l0]
    rw [if_pos (by omega), if_pos (by rw [List.length_replicate]; omega), hw, List.replicate_succ']
theorem ones_ev (n : Nat) (hn : n ≤ 2000000) : Ev (fun k => wagtailref02_Ones.f k (n : Int)) (List.replicate n 255) := ones_loop n hn n 0 (by omega)
theorem pones_loop (n : Nat) (hn : n ≤ 2000000) : ∀ d i : Nat, i + d = n → Ev (fun k => zeros_Ones.l0 k (List.replicate i 255) (n : Int) (i : Int)) (List.replicate n 255) := by
  intro d
  induction d with
  | zero =>
    intro i hi
    obtain rfl : i = n := by omega
    refine Ev.step (fun k => ?_) (Ev.now _)
    simp only [zeros_Ones.l0]
    rw [if_neg (by omega)]
  | succ d ih =>
    intro i hi
    have hw : wrap64 ((i : Int) + 1) = ((i + 1 : Nat) : Int) := by rw [w64 (by omega)]; omega
    refine Ev.step (fun k => ?_) (ih (i + 1) (by omega))
    simp only [zeros_Ones.l0]
    rw [if_pos (by omega), if_pos (by rw [List.length_replicate]; omega), hw, List.replicate_succ']
theorem pones_ev (n : Nat) (hn : n ≤ 1048576) : Ev (fun k => zeros_Ones.f k (n : Int)) (List.replicate n 255) := by
  have := pones_loop n (by omega) n 0 (by omega)
  unfold zeros_Ones.f
  rw [show mn (n : Int) 1048576 = (n : Int) by unfold mn; rw [if_neg (by omega)]]
  exact this

/-! ### numbers laid and read -/
theorem put_loop (n : Int) (h0 : 0 ≤ n) (h1 : n < 18446744073709551616) : ∀ (i : Nat) (acc : List Int), i ≤ 8 → acc.length + i ≤ 100000 → Ev (fun k => be_Put.l0 k n acc ((i : Int) - 1)) (acc ++ beBytes i n) := by
  intro i
  induction i with
  | zero =>
    intro acc _ _
    refine Ev.step (f := fun _ => some (acc ++ beBytes 0 n)) (fun k => ?_) (Ev.now _)
    simp only [be_Put.l0]
    rw [if_neg (by omega)]
    simp [beBytes]
  | succ i ih =>
    intro acc hi hl
    refine Ev.step (fun k => ?_) (by
      have := ih (acc ++ [n / 256 ^ i % 256]) (by omega) (by simp; omega)
      rwa [List.append_assoc, List.singleton_append, ← beBytes_succ] at this)
    simp only [be_Put.l0]
    have e1 : ((i + 1 : Nat) : Int) - 1 = (i : Int) := by omega
    rw [e1, w64 (x := 8 * (i : Int)) (by omega), if_pos (show (i : Int) ≥ 0 by omega), if_pos (show 0 ≤ 8 * (i : Int) by omega), if_pos (show acc.length < 140737488355328 by omega), shr_byte n h0 h1 i (by omega), w64 (x := (i : Int) - 1) (by omega)]
theorem wid_4 : wid 4 = 4 := by decide
theorem be_put_ev (l : List Int) (hl : l.length ≤ 10000) (n : Int) (h0 : 0 ≤ n) (h1 : n < 18446744073709551616) : Ev (fun k => be_Put.f k l 4 n) (l ++ beBytes 4 n) := by
  refine Ev.congr (fun k => ?_) (put_loop n h0 h1 4 l (by omega) (by omega))
  unfold be_Put.f
  rw [if_pos (show ([] : List Int).length + l.length < 140737488355328 by simp; omega)]
  unfold be_width.f
  simp only [Option.bind_some, List.nil_append]
  rw [show mn (mx 4 0) 8 = 4 from by decide, show wrap64 (4 - 1) = ((4 : Nat) : Int) - 1 from by unfold wrap64; omega]
theorem seal_ev (l : List Int) (hb : isBytes l) (hl : l.length = 252) : Ev (fun k => page_Seal.f k l) (l ++ beBytes 4 (zsum l)) := by
  have hz := zsum_range l
  have e : IntKind.u64.wrap (zsum l) = zsum l := by rw [IntKind.wrap_u64]; omega
  unfold page_Seal.f
  simp only [if_pos (show (l.length : Int) = 252 by omega)]
  refine Ev.bind (pcount_ev l hb (by omega)) ?_
  rw [e]
  exact Ev.bind (be_put_ev l (by omega) (zsum l) hz.1 (by omega)) (Ev.now _)

/-! ### the page's bytes -/
def pageL (k i c b o l n : Int) (d : List Int) : List Int := pageBody k i c b o l n d ++ beBytes 4 (zsum (pageBody k i c b o l n d))
theorem head_len (k i c b o l n : Int) : (pageHead k i c b o l n).length = 24 := by simp [pageHead, beBytes_len]
theorem body_len (k i c b o l n : Int) (d : List Int) (h : d.length ≤ 228) : (pageBody k i c b o l n d).length = 252 := by
  unfold pageBody
  simp only [List.length_append, head_len, List.length_replicate]
  omega
theorem body_bytes (k i c b o l n : Int) (d : List Int) (hd : isBytes d) : isBytes (pageBody k i c b o l n d) := wagtailref15_Put.pageBody_bytes k i c b o l n d hd
theorem page_len (k i c b o l n : Int) (d : List Int) (h : d.length ≤ 228) : (pageL k i c b o l n d).length = 256 := by
  unfold pageL
  rw [List.length_append, body_len k i c b o l n d h, beBytes_len]
theorem page_bytes (k i c b o l n : Int) (d : List Int) (hd : isBytes d) : isBytes (pageL k i c b o l n d) := by
  intro x hx
  rcases List.mem_append.1 hx with h | h
  · exact body_bytes k i c b o l n d hd x h
  · exact wagtailref15_Put.beBytes_isBytes _ _ x h
theorem row_head (k i c b o l n : Int) : beRow [1, IntKind.u64.wrap k, 1, IntKind.u64.wrap i, 1, IntKind.u64.wrap c, 1, 0, 8, b, 8, o, 2, IntKind.u64.wrap l, 2, IntKind.u64.wrap n] = pageHead k i c b o l n := by
  have h1 : ∀ x : Int, beBytes 1 x = [x % 256] := fun x => by simp [beBytes]
  simp only [beRow, show wid (mn 1 8) = 1 from by decide, show wid (mn 8 8) = 8 from by decide, show wid (mn 2 8) = 2 from by decide, h1, IntKind.wrap_u64]
  unfold pageHead
  have e : ∀ x : Int, x % 18446744073709551616 % 256 = x % 256 := fun x => by omega
  simp [e]
theorem pput_ev (k i c b o l n : Int) (d : ByteArray) (hm : headMay k i c b o l n = true) (hb : 0 ≤ b) (ho : 0 ≤ o) (hd : (d.size : Int) = n) :
    Ev (fun r => page_Put.f r k i c b o l n d) (pageL k i c b o l n (bytesOf d), 0) := by
  have hrg := wagtailref15_Put.headMay_range hm
  have hdl : (bytesOf d).length = d.size := bytesOf_length d
  have hdb := wagtailref15_Put.bytes_isBytes d
  have hrow : be_Row.f [1, IntKind.u64.wrap k, 1, IntKind.u64.wrap i, 1, IntKind.u64.wrap c, 1, 0, 8, b, 8, o, 2, IntKind.u64.wrap l, 2, IntKind.u64.wrap n] = some (pageHead k i c b o l n) := by
    unfold be_Row.f
    rw [if_pos, row_head]
    refine ⟨by simp, by simp, fun j hj => ?_⟩
    simp only [IntKind.wrap_u64]
    have hj : j < 16 := by simpa using hj
    have : j = 0 ∨ j = 1 ∨ j = 2 ∨ j = 3 ∨ j = 4 ∨ j = 5 ∨ j = 6 ∨ j = 7 ∨ j = 8 ∨ j = 9 ∨ j = 10 ∨ j = 11 ∨ j = 12 ∨ j = 13 ∨ j = 14 ∨ j = 15 := by omega
    rcases this with rfl | rfl | rfl | rfl | rfl | rfl | rfl | rfl | rfl | rfl | rfl | rfl | rfl | rfl | rfl | rfl <;> simp only [List.getD_cons_zero, List.getD_cons_succ] <;> omega
  unfold page_Put.f page_Check.f
  simp only [Option.bind_some, hm, if_true]
  rw [show ((d.size : Int) != n) = false by simp [hd]]
  refine Ev.step (f := fun r => (zeros_Ones.f r ((252 - (24 + d.size) : Nat) : Int)).bind fun t => (page_Seal.f r ((pageHead k i c b o l n ++ bytesOf d) ++ t)).bind fun t2 => if (pageHead k i c b o l n ++ bytesOf d).length + t.length < 140737488355328 then some (t2, (0 : Int)) else none) (fun r => ?_) ?_
  · simp only [page_Put.j0, Bool.false_eq_true, if_false, hrow, Option.bind_some]
    rw [if_pos (by rw [head_len]; omega)]
    have e : wrap64 (252 - ((pageHead k i c b o l n ++ bytesOf d).length : Int)) = ((252 - (24 + d.size) : Nat) : Int) := by
      rw [List.length_append, head_len, hdl, w64 (by omega)]
      omega
    rw [e]
    congr 1
    funext t
    by_cases h : (pageHead k i c b o l n ++ bytesOf d).length + t.length < 140737488355328
    · simp only [if_pos h]
    · simp only [if_neg h]
      cases page_Seal.f r (pageHead k i c b o l n ++ bytesOf d ++ t) <;> rfl
  · refine Ev.bind (pones_ev _ (by omega)) ?_
    refine Ev.bind (a := pageL k i c b o l n (bytesOf d)) ?_ ?_
    · have h1 := seal_ev (pageBody k i c b o l n (bytesOf d)) (body_bytes k i c b o l n _ hdb) (body_len k i c b o l n _ (by omega))
      unfold pageL
      unfold pageBody at h1 ⊢
      rw [hdl] at h1 ⊢
      exact h1
    · rw [if_pos (by simp only [List.length_append, head_len, List.length_replicate, hdl]; omega)]
      exact Ev.now _
theorem pput_bad (k i c b o l n : Int) (d : ByteArray) (h : headMay k i c b o l n = false ∨ (d.size : Int) ≠ n) : Ev (fun r => page_Put.f r k i c b o l n d) ([], 3) := by
  have key : Ev (fun r => page_Put.j0 r d true k i c b o l n) (([], 3) : List Int × Int) := by
    refine Ev.step (f := fun _ => some (([], 3) : List Int × Int)) (fun r => ?_) (Ev.now _)
    simp only [page_Put.j0, if_true]
  unfold page_Put.f page_Check.f
  simp only [Option.bind_some]
  by_cases hm : headMay k i c b o l n = true
  · have hs : (d.size : Int) ≠ n := by rcases h with h | h; rw [hm] at h; cases h; exact h
    simp only [hm, if_true]
    rw [show ((d.size : Int) != n) = true by simpa using hs]
    exact key
  · have hm : headMay k i c b o l n = false := by simpa using hm
    simp only [hm, Bool.false_eq_true, if_false]
    exact Ev.congr (fun r => if_neg (by decide)) key

/-! ### what pages tell -/
theorem zbits_zero_nat : ∀ n : Nat, n < 256 → zbits (n : Int) = 0 → (n : Int) = 255 := by decide +kernel
theorem zbits_zero (c : Int) (h0 : 0 ≤ c) (h1 : c ≤ 255) (h : zbits c = 0) : c = 255 := by
  obtain ⟨n, rfl⟩ := Int.eq_ofNat_of_zero_le h0
  exact zbits_zero_nat n (by omega) h
theorem zsum_zero : ∀ (l : List Int), isBytes l → zsum l = 0 → l = List.replicate l.length 255
  | [], _, _ => rfl
  | a :: l, hb, h => by
    have ha := hb a (by simp)
    have h1 := zbits_range a
    have h2 := zsum_range l
    have h3 : zsum (a :: l) = zbits a + zsum l := by simp [zsum]
    have e1 := zbits_zero a ha.1 ha.2 (by omega)
    have e2 := zsum_zero l (fun x hx => hb x (by simp [hx])) (by omega)
    rw [List.length_cons, List.replicate_succ, ← e2, e1]
theorem zsum_ones (n : Nat) : zsum (List.replicate n 255) = 0 := by
  induction n with
  | zero => rfl
  | succ n ih =>
    have : zsum (List.replicate (n + 1) 255) = zbits 255 + zsum (List.replicate n 255) := by simp [zsum, List.replicate_succ]
    rw [this, ih]
    decide
theorem blank_ev (l : List Int) (hb : isBytes l) (hl : l.length ≤ 100000) : Ev (fun k => zeros_Blank.f k l) (zsum l == 0) := by
  unfold zeros_Blank.f
  exact Ev.bind (pcount_ev l hb hl) (Ev.now _)
/-- the data that a page's bytes tell -/
def datL (l : List Int) : List Int := (l.drop 24).take (beNum l 22 2).toNat
def mayL (l : List Int) : Bool := headMay (rd l 0) (rd l 1) (rd l 2) (beNum l 4 8) (beNum l 12 8) (beNum l 20 2) (beNum l 22 2)
/-- the page of the head and data that the bytes tell -/
def anew (l : List Int) : List Int := pageL (rd l 0) (rd l 1) (rd l 2) (beNum l 4 8) (beNum l 12 8) (beNum l 20 2) (beNum l 22 2) (datL l)
def rightL (l : List Int) : Bool := mayL l && decide (anew l = l)
def cls (l : List Int) : Int := if l.length = 256 then (if l = List.replicate 256 255 then 0 else if rightL l = true then 1 else 2) else 2
theorem num1 (l : List Int) (hb : isBytes l) (hl : l.length = 256) (a : Nat) (ha : a < 256) : numOf l a 1 = rd l a := by
  have h := rd_range l hb a
  unfold numOf beNum
  show (0 * 256 + byteAt l (a + (0 : Nat))) % 4294967296 = _
  rw [show ((a : Int) + ((0 : Nat) : Int)) = (a : Int) by omega]
  have e : byteAt l (a : Int) = rd l a := by
    unfold byteAt
    rw [if_neg (by omega)]
    rfl
  rw [e]
  omega
theorem num2 (l : List Int) (hb : isBytes l) (a : Int) : numOf l a 2 = beNum l a 2 := by
  have h : 0 ≤ beNum l a 2 ∧ beNum l a 2 < 65536 := bePre_range l hb a 2
  unfold numOf
  omega
theorem num_wide (l : List Int) (hb : isBytes l) (a : Int) : 0 ≤ beNum l a 8 := (bePre_range l hb a 8).1
theorem datL_bytes (l : List Int) (hb : isBytes l) : isBytes (datL l) := fun x hx => hb x (List.mem_of_mem_drop (List.mem_of_mem_take hx))
theorem dataOf_bytes (l : List Int) (hb : isBytes l) : isBytes (dataOf l) := fun x hx => hb x (List.mem_of_mem_drop (List.mem_of_mem_take hx))
theorem may_n (l : List Int) (h : mayL l = true) : 0 ≤ beNum l 22 2 ∧ beNum l 22 2 ≤ 228 := (wagtailref15_Put.headMay_range h).2.2.2.2.2.2
theorem datL_len (l : List Int) (hl : l.length = 256) (h : mayL l = true) : ((datL l).length : Int) = beNum l 22 2 := by
  have := may_n l h
  unfold datL
  rw [List.length_take, List.length_drop]
  omega
theorem dataOf_datL (l : List Int) (hb : isBytes l) (h : mayL l = true) : dataOf l = datL l := by
  have := may_n l h
  unfold dataOf datL
  rw [num2 l hb]
  congr 1
  unfold mn
  rw [if_neg (by omega)]
  omega
theorem read_val (l : List Int) (hb : isBytes l) (hl : l.length = 256) : page_read.f l = some (rd l 0, rd l 1, rd l 2, beNum l 4 8, beNum l 12 8, beNum l 20 2, beNum l 22 2, strOfNums (dataOf l)) := by
  unfold page_read.f
  rw [if_pos ⟨hb, hl⟩, num2 l hb, num2 l hb]
  have e0 := num1 l hb hl 0 (by omega)
  have e1 := num1 l hb hl 1 (by omega)
  have e2 := num1 l hb hl 2 (by omega)
  rw [show numOf l 0 1 = rd l 0 from e0, show numOf l 1 1 = rd l 1 from e1, show numOf l 2 1 = rd l 2 from e2]
theorem str_inj {a b : List Int} (ha : isBytes a) (hb : isBytes b) (h : strOfNums a = strOfNums b) : a = b := by
  rw [← wagtailref15_Put.bytesOf_str a ha, h, wagtailref15_Put.bytesOf_str b hb]
theorem toList_inj {a b : ByteArray} (h : a.toList = b.toList) : a = b := by
  rw [ByteArray.toList_eq, ByteArray.toList_eq] at h
  exact ByteArray.ext (Array.ext' h)
theorem class_ev (l : List Int) (hb : isBytes l) (hl : l.length ≤ 100000) : Ev (fun k => page_Class.f k l) (cls l) := by
  unfold page_Class.f cls
  by_cases h : l.length = 256
  · simp only [if_pos h, if_pos (show (l.length : Int) = 256 by omega)]
    refine Ev.bind (blank_ev l hb hl) ?_
    by_cases hz : l = List.replicate 256 255
    · rw [if_pos hz]
      refine Ev.congr (fun k => if_pos ?_) (Ev.now _)
      rw [hz, zsum_ones]
      rfl
    · rw [if_neg hz]
      refine Ev.congr (f := fun k => (page_read.f l).bind fun bt340 => ((page_Put.f k bt340.1 bt340.2.1 bt340.2.2.1 bt340.2.2.2.1 bt340.2.2.2.2.1 bt340.2.2.2.2.2.1 bt340.2.2.2.2.2.2.1 bt340.2.2.2.2.2.2.2).bind fun bt348 => (if bt348.2 = 0 then (if (strOfNums bt348.1).toList = (strOfNums l).toList then (some 1) else (some 2)) else (some 2)))) (fun k => if_neg ?_) ?_
      · intro h2
        have := zsum_zero l hb (by simpa using h2)
        rw [h] at this
        exact hz this
      rw [read_val l hb h]
      simp only [Option.bind_some]
      by_cases hm : mayL l = true
      · have hd := dataOf_datL l hb hm
        have hlen := datL_len l h hm
        have hp := pput_ev (rd l 0) (rd l 1) (rd l 2) (beNum l 4 8) (beNum l 12 8) (beNum l 20 2) (beNum l 22 2) (strOfNums (dataOf l)) hm (num_wide l hb 4) (num_wide l hb 12) (by rw [hd, wagtailref15_Put.str_size]; exact hlen)
        rw [wagtailref15_Put.bytesOf_str _ (dataOf_bytes l hb), hd] at hp
        rw [hd]
        refine Ev.bind hp ?_
        rw [if_pos rfl]
        unfold rightL
        rw [hm, Bool.true_and]
        by_cases he : anew l = l
        · rw [if_pos (decide_eq_true he)]
          refine Ev.congr (fun k => if_pos ?_) (Ev.now _)
          show (strOfNums (anew l)).toList = _
          rw [he]
        · rw [if_neg (show ¬ (decide (anew l = l) = true) by rw [decide_eq_false he]; decide)]
          refine Ev.congr (fun k => if_neg ?_) (Ev.now _)
          intro h2
          exact he (str_inj (page_bytes _ _ _ _ _ _ _ _ (datL_bytes l hb)) hb (toList_inj h2))
      · have hp := pput_bad (rd l 0) (rd l 1) (rd l 2) (beNum l 4 8) (beNum l 12 8) (beNum l 20 2) (beNum l 22 2) (strOfNums (dataOf l)) (.inl (by simpa [mayL] using hm))
        refine Ev.bind hp ?_
        rw [if_neg (show ¬ rightL l = true by unfold rightL; simp [hm])]
        exact Ev.congr (fun k => if_neg (by decide)) (Ev.now _)
  · rw [if_neg h]
    exact Ev.congr (fun k => if_neg (by omega)) (Ev.now _)
theorem rget_val (l : List Int) (hb : isBytes l) : wagtailref15_Get.f (strOfNums l) = if l.length = 256 ∧ rightL l = true then some (rd l 0, rd l 1, rd l 2, beNum l 4 8, beNum l 12 8, beNum l 20 2, beNum l 22 2, strOfNums (datL l), true) else wagtailref15_Get.z := by
  unfold wagtailref15_Get.f
  rw [wagtailref15_Put.str_size, wagtailref15_Put.bytesOf_str l hb]
  by_cases h : l.length = 256
  · rw [if_pos h]
    unfold wagtailref15_Get.g
    show (if mayL l = true then (if strOfNums (pageBody _ _ _ _ _ _ _ (bytesOf (strOfNums (datL l))) ++ beBytes 4 (zsum (pageBody _ _ _ _ _ _ _ (bytesOf (strOfNums (datL l)))))) = _ then _ else _) else _) = _
    rw [wagtailref15_Put.bytesOf_str _ (datL_bytes l hb)]
    show (if mayL l = true then (if strOfNums (anew l) = strOfNums l then _ else _) else _) = _
    unfold rightL
    by_cases hm : mayL l = true
    · rw [if_pos hm, hm, Bool.true_and]
      by_cases he : anew l = l
      · rw [if_pos (by rw [he]), if_pos ⟨h, decide_eq_true he⟩]
        rfl
      · rw [if_neg (fun h2 => he (str_inj (page_bytes _ _ _ _ _ _ _ _ (datL_bytes l hb)) hb h2)), if_neg (fun h2 => he (of_decide_eq_true h2.2))]
    · rw [if_neg hm, if_neg (by simp [hm])]
  · rw [if_neg h, if_neg (fun h2 => h h2.1)]
theorem rclass_ev (l : List Int) (hb : isBytes l) : Ev (fun k => wagtailref15_Class.f k (strOfNums l)) (cls l) := by
  unfold wagtailref15_Class.f
  refine Ev.bind (ones_ev 256 (by omega)) ?_
  by_cases hz : l = List.replicate 256 255
  · refine Ev.congr (f := fun _ => some (cls l)) (fun k => ?_) (Ev.now _)
    rw [if_pos (by rw [hz])]
    unfold cls
    rw [if_pos (show l.length = 256 by rw [hz, List.length_replicate]), if_pos hz]
  · refine Ev.congr (f := fun _ => some (cls l)) (fun k => ?_) (Ev.now _)
    rw [if_neg (fun h => hz (str_inj hb (fun x hx => by rw [List.eq_of_mem_replicate hx]; omega) (toList_inj h))), rget_val l hb]
    unfold cls
    by_cases h : l.length = 256
    · rw [if_pos h, if_neg hz]
      by_cases hr : rightL l = true
      · rw [if_pos ⟨h, hr⟩, if_pos hr]
        rfl
      · rw [if_neg (fun h2 => hr h2.2), if_neg hr]
        rfl
    · rw [if_neg (fun h2 => h h2.1), if_neg h]
      rfl
def getOf (l : List Int) : Int × Int × Int × Int × Int × Int × Int × ByteArray × Int :=
  if cls l = 0 then (0, 0, 0, 0, 0, 0, 0, (⟨#[]⟩ : ByteArray), 8) else if cls l = 2 then (0, 0, 0, 0, 0, 0, 0, (⟨#[]⟩ : ByteArray), 6) else (rd l 0, rd l 1, rd l 2, beNum l 4 8, beNum l 12 8, beNum l 20 2, beNum l 22 2, strOfNums (datL l), 0)
theorem get_ev (l : List Int) (hb : isBytes l) (hl : l.length ≤ 100000) : Ev (fun k => page_Get.f k l) (getOf l) := by
  unfold page_Get.f
  refine Ev.bind (class_ev l hb hl) ?_
  unfold getOf
  by_cases h0 : cls l = 0
  · simp only [h0, if_true]
    exact Ev.now _
  by_cases h2 : cls l = 2
  · simp only [if_neg h0, if_pos h2]
    exact Ev.now _
  simp only [if_neg h0, if_neg h2]
  have h : l.length = 256 := by
    unfold cls at h2
    by_cases h : l.length = 256
    · exact h
    · rw [if_neg h] at h2
      exact absurd rfl h2
  have hm : mayL l = true := by
    unfold cls at h0 h2
    rw [if_pos h] at h0 h2
    by_cases hz : l = List.replicate 256 255
    · rw [if_pos hz] at h0; exact absurd rfl h0
    · rw [if_neg hz] at h2
      by_cases hr : rightL l = true
      · unfold rightL at hr; simp at hr; exact hr.1
      · rw [if_neg hr] at h2; exact absurd rfl h2
  rw [read_val l hb h, dataOf_datL l hb hm]
  exact Ev.now _

/-! ### what was laid is told -/
theorem beBytes_at (w : Nat) (n : Int) (t : Nat) (h : t < w) : (beBytes w n).getD t 0 = n / 256 ^ (w - 1 - t) % 256 := by
  induction w generalizing t with
  | zero => omega
  | succ w ih =>
    rw [beBytes_succ]
    cases t with
    | zero => rfl
    | succ t =>
      rw [List.getD_cons_succ, ih t (by omega)]
      congr 3
      omega
theorem byteAt_mid (A B C : List Int) (t : Nat) (h : t < B.length) : byteAt (A ++ B ++ C) ((A.length : Int) + (t : Int)) = B.getD t 0 := by
  unfold byteAt
  rw [if_neg (by simp only [List.length_append]; omega)]
  rw [show ((A.length : Int) + (t : Int)).toNat = A.length + t by omega]
  rw [List.getD_eq_getElem?_getD, List.getD_eq_getElem?_getD, List.append_assoc, List.getElem?_append_right (by omega), show A.length + t - A.length = t by omega, List.getElem?_append_left h]
theorem bePre_mid (A C : List Int) (w : Nat) (n : Nat) : ∀ j, j ≤ w → bePre (A ++ beBytes w n ++ C) A.length j = ((n / 256 ^ (w - j) % 256 ^ j : Nat) : Int)
  | 0, _ => by simp [bePre, Nat.mod_one]
  | j + 1, h => by
    simp only [bePre]
    rw [bePre_mid A C w n j (by omega), byteAt_mid A (beBytes w n) C j (by rw [beBytes_len]; omega), beBytes_at w n j (by omega)]
    have e1 : ((n : Int) / 256 ^ (w - 1 - j) % 256) = ((n / 256 ^ (w - 1 - j) % 256 : Nat) : Int) := by rw [Int.natCast_emod, Int.natCast_ediv, Int.natCast_pow]; rfl
    rw [e1, show w - (j + 1) = w - 1 - j by omega]
    have e2 : n / 256 ^ (w - j) = n / 256 ^ (w - 1 - j) / 256 := by
      rw [Nat.div_div_eq_div_mul, ← Nat.pow_succ, show (w - 1 - j).succ = w - j by omega]
    rw [e2]
    generalize n / 256 ^ (w - 1 - j) = m
    have e3 : m % 256 ^ (j + 1) = m % 256 + 256 * (m / 256 % 256 ^ j) := by rw [Nat.pow_succ, Nat.mul_comm, Nat.mod_mul]
    rw [e3]
    generalize m / 256 % 256 ^ j = x
    omega
theorem beNum_mid (A C : List Int) (a : Int) (w : Nat) (n : Int) (h0 : 0 ≤ n) (h1 : n < 256 ^ w) (ha : a = A.length) : beNum (A ++ beBytes w n ++ C) a w = n := by
  obtain ⟨m, rfl⟩ := Int.eq_ofNat_of_zero_le h0
  subst ha
  unfold beNum
  rw [bePre_mid A C w m w (Nat.le_refl _), Nat.sub_self, Nat.pow_zero, Nat.div_one, Nat.mod_eq_of_lt]
  have : ((m : Nat) : Int) < ((256 ^ w : Nat) : Int) := by rw [Int.natCast_pow]; exact h1
  omega
theorem page_tells (k i c b o l n : Int) (d : List Int) (hm : headMay k i c b o l n = true) (hb : 0 ≤ b) (ho : 0 ≤ o) (hd : (d.length : Int) = n) :
    rd (pageL k i c b o l n d) 0 = k ∧ rd (pageL k i c b o l n d) 1 = i ∧ rd (pageL k i c b o l n d) 2 = c ∧ beNum (pageL k i c b o l n d) 4 8 = b ∧ beNum (pageL k i c b o l n d) 12 8 = o ∧
    beNum (pageL k i c b o l n d) 20 2 = l ∧ beNum (pageL k i c b o l n d) 22 2 = n ∧ datL (pageL k i c b o l n d) = d := by
  have hr := wagtailref15_Put.headMay_range hm
  obtain ⟨T, hT⟩ : ∃ T, T = List.replicate (252 - (24 + d.length)) (255 : Int) ++ beBytes 4 (zsum (pageBody k i c b o l n d)) := ⟨_, rfl⟩
  have e : pageL k i c b o l n d = [k, i, c, 0] ++ beBytes 8 b ++ beBytes 8 o ++ beBytes 2 l ++ beBytes 2 n ++ d ++ T := by
    rw [hT]
    unfold pageL
    conv => lhs; lhs; unfold pageBody pageHead
    rw [show k % 256 = k by omega, show i % 256 = i by omega, show c % 256 = c by omega, show l % 18446744073709551616 = l by omega, show n % 18446744073709551616 = n by omega]
    simp only [List.append_assoc]
  rw [e]
  have e7 : beNum ([k, i, c, 0] ++ beBytes 8 b ++ beBytes 8 o ++ beBytes 2 l ++ beBytes 2 n ++ d ++ T) 22 2 = n := by
    rw [List.append_assoc _ d T]
    exact beNum_mid ([k, i, c, 0] ++ beBytes 8 b ++ beBytes 8 o ++ beBytes 2 l) (d ++ T) 22 2 n (by omega) (by have : (256 : Int) ^ 2 = 65536 := rfl; omega) (by simp [beBytes_len])
  refine ⟨rfl, rfl, rfl, ?_, ?_, ?_, e7, ?_⟩
  · simp only [List.append_assoc]
    rw [← List.append_assoc]
    exact beNum_mid [k, i, c, 0] _ 4 8 b hb (by have : (256 : Int) ^ 8 = 18446744073709551616 := rfl; omega) (by simp)
  · rw [List.append_assoc _ d T, List.append_assoc _ _ (d ++ T), List.append_assoc _ (beBytes 2 l) _]
    exact beNum_mid ([k, i, c, 0] ++ beBytes 8 b) _ 12 8 o ho (by have : (256 : Int) ^ 8 = 18446744073709551616 := rfl; omega) (by simp [beBytes_len])
  · rw [List.append_assoc _ d T, List.append_assoc _ _ (d ++ T)]
    exact beNum_mid ([k, i, c, 0] ++ beBytes 8 b ++ beBytes 8 o) _ 20 2 l (by omega) (by have : (256 : Int) ^ 2 = 65536 := rfl; omega) (by simp [beBytes_len])
  · unfold datL
    rw [e7, ← hd, Int.toNat_natCast, List.append_assoc _ d T]
    rw [List.drop_left' (by simp [beBytes_len]), List.take_left]
theorem page_may (k i c b o l n : Int) (d : List Int) (hm : headMay k i c b o l n = true) (hb : 0 ≤ b) (ho : 0 ≤ o) (hd : (d.length : Int) = n) : mayL (pageL k i c b o l n d) = true ∧ anew (pageL k i c b o l n d) = pageL k i c b o l n d := by
  obtain ⟨e0, e1, e2, e3, e4, e5, e6, e7⟩ := page_tells k i c b o l n d hm hb ho hd
  constructor
  · unfold mayL
    rw [e0, e1, e2, e3, e4, e5, e6, hm]
  · conv => lhs; unfold anew
    rw [e0, e1, e2, e3, e4, e5, e6, e7]
theorem page_cls (k i c b o l n : Int) (d : List Int) (hm : headMay k i c b o l n = true) (hb : 0 ≤ b) (ho : 0 ≤ o) (hd : (d.length : Int) = n) : cls (pageL k i c b o l n d) = 1 := by
  have hr := wagtailref15_Put.headMay_range hm
  obtain ⟨h1, h2⟩ := page_may k i c b o l n d hm hb ho hd
  unfold cls
  rw [if_pos (page_len k i c b o l n d (by omega)), if_neg, if_pos]
  · unfold rightL
    rw [h1, h2]
    simp
  · intro h
    have e0 := (page_tells k i c b o l n d hm hb ho hd).1
    rw [h] at e0
    have : rd (List.replicate 256 255) 0 = 255 := rfl
    omega
theorem page_get (k i c b o l n : Int) (d : List Int) (hm : headMay k i c b o l n = true) (hb : 0 ≤ b) (ho : 0 ≤ o) (hd : (d.length : Int) = n) : getOf (pageL k i c b o l n d) = (k, i, c, b, o, l, n, strOfNums d, 0) := by
  obtain ⟨e0, e1, e2, e3, e4, e5, e6, e7⟩ := page_tells k i c b o l n d hm hb ho hd
  unfold getOf
  rw [page_cls k i c b o l n d hm hb ho hd, if_neg (by decide), if_neg (by decide), e0, e1, e2, e3, e4, e5, e6, e7]
theorem awake_ev : Ev (fun k => wagtaillaw15_awake.f k) true := by
  have hm : headMay 3 1 2 7 3 5 2 = true := by decide +kernel
  have hbd : bytesOf (⟨#[97, 98]⟩ : ByteArray) = [97, 98] := by decide
  have hp := pput_ev 3 1 2 7 3 5 2 (⟨#[97, 98]⟩ : ByteArray) hm (by decide) (by decide) rfl
  rw [hbd] at hp
  have hby : isBytes (pageL 3 1 2 7 3 5 2 [97, 98]) := page_bytes _ _ _ _ _ _ _ _ (by decide)
  have hlen : (pageL 3 1 2 7 3 5 2 [97, 98]).length = 256 := page_len _ _ _ _ _ _ _ _ (by decide)
  have hg := get_ev _ hby (by omega)
  have hc := class_ev _ hby (by omega)
  rw [page_get 3 1 2 7 3 5 2 [97, 98] hm (by decide) (by decide) rfl] at hg
  rw [page_cls 3 1 2 7 3 5 2 [97, 98] hm (by decide) (by decide) rfl] at hc
  have hstr : (strOfNums [97, 98]).toList = [97, 98] := by rw [ByteArray.toList_eq]; rfl
  have h9 := class_ev ((pageL 3 1 2 7 3 5 2 [97, 98]).take 9) (fun x hx => hby x (List.mem_of_mem_take hx)) (by rw [List.length_take]; omega)
  have h9c : cls ((pageL 3 1 2 7 3 5 2 [97, 98]).take 9) = 2 := by
    unfold cls
    rw [if_neg (by rw [List.length_take, hlen]; decide)]
  rw [h9c] at h9
  have ho := class_ev (List.replicate 256 255) (fun x hx => by rw [List.eq_of_mem_replicate hx]; omega) (by rw [List.length_replicate]; omega)
  have hoc : cls (List.replicate 256 255) = 0 := by
    unfold cls
    rw [if_pos (by rw [List.length_replicate]), if_pos rfl]
  rw [hoc] at ho
  unfold wagtaillaw15_awake.f
  refine Ev.bind hp ?_
  refine Ev.bind hg ?_
  refine Ev.congr (fun k => if_pos rfl) ?_
  refine Ev.congr (fun k => if_pos (by rw [hlen]; rfl)) ?_
  refine Ev.congr (fun k => if_pos rfl) ?_
  refine Ev.congr (fun k => if_pos hstr) ?_
  refine Ev.congr (fun k => if_pos rfl) ?_
  refine Ev.bind (ones_ev 256 (by omega)) ?_
  refine Ev.bind ho ?_
  refine Ev.congr (fun k => if_pos rfl) ?_
  refine Ev.bind hc ?_
  refine Ev.congr (fun k => if_pos rfl) ?_
  refine Ev.congr (fun k => if_pos (by rw [hlen]; decide)) ?_
  exact Ev.bind h9 (Ev.now _)
end Go.Proofs.Ytmlkkdopogcggaa.PG
