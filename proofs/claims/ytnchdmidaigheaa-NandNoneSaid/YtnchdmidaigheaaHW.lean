/- Plain functions and lemmas behind the hand contracts: bits, bytes, big-endian numbers, pages. -/
import Derived.Deep.RegionHeld3
import Derived.Test.YtnchdmidaigheaaWWords
import Derived.Test.YtnchdmidaigheaaWMore
import Derived.Laws.BitsLemmas
import Derived.Laws.Bits64
import Derived.StillTailTactics
namespace Go.Proofs.Ytnchdmidaigheaa.Hp
open Go.RowKit Go.Proofs.YtnchdmidaigheaaW.PrintWords Go.Proofs.YtnchdmidaigheaaW.PrintMore
set_option linter.unusedVariables false
set_option linter.unusedSimpArgs false
def within (n a b : Int) : Bool := decide (a ≤ n) && decide (n ≤ b)
-- how many of a byte's bits are 0
def zbits (c : Int) : Int := 8 - (c % 2 + c / 2 % 2 + c / 4 % 2 + c / 8 % 2 + c / 16 % 2 + c / 32 % 2 + c / 64 % 2 + c / 128 % 2)
def zpre (a : Int) : Nat → Int
  | 0 => 0
  | k + 1 => zpre a k + (1 - a / 2 ^ k % 2)
theorem zbit_nat : ∀ n : Nat, n < 256 → ∀ k, k < 8 → bits BinOp.and IntKind.u8 (bits BinOp.xor IntKind.u8 IntKind.u8.max (n : Int) / 2 ^ k) 1 = 1 - (n : Int) / 2 ^ k % 2 := by decide +kernel
theorem zbit (a : Int) (h0 : 0 ≤ a) (h1 : a ≤ 255) (k : Nat) (hk : k < 8) : bits BinOp.and IntKind.u8 (bits BinOp.xor IntKind.u8 IntKind.u8.max a / 2 ^ k) 1 = 1 - a / 2 ^ k % 2 := by
  obtain ⟨n, rfl⟩ := Int.eq_ofNat_of_zero_le h0
  exact zbit_nat n (by omega) k hk
theorem zpre_range (a : Int) : ∀ k : Nat, 0 ≤ zpre a k ∧ zpre a k ≤ k
  | 0 => by simp [zpre]
  | k + 1 => by
    have := zpre_range a k
    simp only [zpre]
    omega
theorem zpre_8 (a : Int) : zpre a 8 = zbits a := by
  show 0 + (1 - a / 2 ^ 0 % 2) + (1 - a / 2 ^ 1 % 2) + (1 - a / 2 ^ 2 % 2) + (1 - a / 2 ^ 3 % 2) + (1 - a / 2 ^ 4 % 2) + (1 - a / 2 ^ 5 % 2) + (1 - a / 2 ^ 6 % 2) + (1 - a / 2 ^ 7 % 2) = _
  rw [show (2 : Int) ^ 0 = 1 from rfl, show (2 : Int) ^ 1 = 2 from rfl, show (2 : Int) ^ 2 = 4 from rfl, show (2 : Int) ^ 3 = 8 from rfl, show (2 : Int) ^ 4 = 16 from rfl, show (2 : Int) ^ 5 = 32 from rfl, show (2 : Int) ^ 6 = 64 from rfl, show (2 : Int) ^ 7 = 128 from rfl, Int.ediv_one]
  unfold zbits
  omega
theorem zstep (a : Int) (h0 : 0 ≤ a) (h1 : a ≤ 255) (k : Nat) (hk : k < 8) : wrap64 (zpre a k + wrap64 (bits BinOp.and IntKind.u8 (bits BinOp.xor IntKind.u8 IntKind.u8.max a / 2 ^ k) 1)) = zpre a (k + 1) := by
  rw [zbit a h0 h1 k hk]
  have := zpre_range a k
  simp only [zpre]
  unfold wrap64
  omega
def isBytes (l : List Int) : Prop := ∀ x ∈ l, 0 ≤ x ∧ x ≤ 255
instance (l : List Int) : Decidable (isBytes l) := by unfold isBytes; exact inferInstance
def maskAt (m : List Int) (i : Nat) : Int := if m.length = 0 then 0 else m.getD (i % m.length) 0
def progByte (c x k : Int) : Int := ((c.toNat &&& (x.toNat ||| (255 - k.toNat)) : Nat) : Int)
def progRow (old b m : List Int) : List Int := (List.range old.length).map fun i => if i < b.length then progByte (old.getD i 0) (b.getD i 0) (maskAt m i) else old.getD i 0
theorem range_map_snoc (g : Nat → Int) (k : Nat) : (List.range (k + 1)).map g = (List.range k).map g ++ [g k] := by
  rw [List.range_succ, List.map_append]; rfl

theorem wrap_u8_nat (n : Nat) (h : n < 256) : IntKind.u8.wrap (n : Int) = n := by
  unfold IntKind.wrap
  simp [IntKind.signed, IntKind.bits]
  omega
theorem and8 (c k : Nat) (hc : c < 256) (hk : k < 256) : bits BinOp.and .u8 (c : Int) (k : Int) = ((c &&& k : Nat) : Int) := by
  have e : bits BinOp.and .u8 (c : Int) (k : Int) = IntKind.u8.wrap ((c % 256 &&& k % 256 : Nat) : Int) := by simp [bits]; rfl
  rw [e, Nat.mod_eq_of_lt hc, Nat.mod_eq_of_lt hk, wrap_u8_nat _ (Nat.and_lt_two_pow c (n := 8) hk)]
theorem or8 (c k : Nat) (hc : c < 256) (hk : k < 256) : bits BinOp.or .u8 (c : Int) (k : Int) = ((c ||| k : Nat) : Int) := by
  have e : bits BinOp.or .u8 (c : Int) (k : Int) = IntKind.u8.wrap ((c % 256 ||| k % 256 : Nat) : Int) := by simp [bits]; rfl
  rw [e, Nat.mod_eq_of_lt hc, Nat.mod_eq_of_lt hk, wrap_u8_nat _ (Nat.or_lt_two_pow (n := 8) hc hk)]
theorem not8_nat : ∀ k : Nat, k < 256 → bits BinOp.xor .u8 IntKind.u8.max (k : Int) = ((255 - k : Nat) : Int) := by decide +kernel
theorem prog_bits (c x k : Int) (hc : 0 ≤ c ∧ c ≤ 255) (hx : 0 ≤ x ∧ x ≤ 255) (hk : 0 ≤ k ∧ k ≤ 255) :
    bits BinOp.and .u8 c (bits BinOp.or .u8 x (bits BinOp.xor .u8 (if IntKind.u8.signed = true then -1 else IntKind.u8.max) k)) = progByte c x k := by
  obtain ⟨c, rfl⟩ := Int.eq_ofNat_of_zero_le hc.1
  obtain ⟨x, rfl⟩ := Int.eq_ofNat_of_zero_le hx.1
  obtain ⟨k, rfl⟩ := Int.eq_ofNat_of_zero_le hk.1
  rw [if_neg (by decide), not8_nat k (by omega), or8 x _ (by omega) (by omega), and8 c _ (by omega) (Nat.or_lt_two_pow (n := 8) (by omega) (by omega))]
  simp [progByte]
theorem wipe_bits (c k : Int) (hc : 0 ≤ c ∧ c ≤ 255) (hk : 0 ≤ k ∧ k ≤ 255) : bits BinOp.or .u8 c k = ((c.toNat ||| k.toNat : Nat) : Int) := by
  obtain ⟨c, rfl⟩ := Int.eq_ofNat_of_zero_le hc.1
  obtain ⟨k, rfl⟩ := Int.eq_ofNat_of_zero_le hk.1
  rw [or8 c k (by omega) (by omega)]
  simp

theorem maskAt_range (m : List Int) (hm : isBytes m) (i : Nat) : 0 ≤ maskAt m i ∧ maskAt m i ≤ 255 := by
  unfold maskAt
  split
  · omega
  · have hlt := Nat.mod_lt i (show m.length > 0 by omega)
    rw [List.getD_eq_getElem?_getD, List.getElem?_eq_getElem hlt]
    exact hm _ (List.getElem_mem hlt)
theorem rd_range (m : List Int) (hm : isBytes m) (i : Int) : 0 ≤ rd m i ∧ rd m i ≤ 255 := by
  unfold rd
  by_cases hlt : i.toNat < m.length
  · rw [List.getD_eq_getElem?_getD, List.getElem?_eq_getElem hlt]
    exact hm _ (List.getElem_mem hlt)
  · rw [List.getD_eq_getElem?_getD, List.getElem?_eq_none (by omega)]
    simp
def wipeRow (old m : List Int) : List Int := (List.range old.length).map fun i => (((old.getD i 0).toNat ||| (maskAt m i).toNat : Nat) : Int)
def refByte (l : List Int) (at_ : Int) (i : Nat) : Int := if 0 ≤ at_ ∧ at_ + i < l.length then rd l (at_ + i) else 0
def refPre (l : List Int) (at_ : Int) : Nat → Int
  | 0 => 0
  | i + 1 => refPre l at_ i * 256 + refByte l at_ i
def refNum (l : List Int) (at_ w : Int) : Int := refPre l at_ (mn (mx w 0) 8).toNat
theorem refByte_range (l : List Int) (h : isBytes l) (at_ : Int) (i : Nat) : 0 ≤ refByte l at_ i ∧ refByte l at_ i ≤ 255 := by
  unfold refByte
  split
  · exact rd_range l h _
  · omega
theorem refPre_range (l : List Int) (h : isBytes l) (at_ : Int) : ∀ i : Nat, 0 ≤ refPre l at_ i ∧ refPre l at_ i < 256 ^ i
  | 0 => by simp [refPre]
  | i + 1 => by
    have h1 := refPre_range l h at_ i
    have h2 := refByte_range l h at_ i
    simp only [refPre, Int.pow_succ]
    omega
theorem pow256_le (i : Nat) (h : i ≤ 7) : (256 : Int) ^ i ≤ 72057594037927936 := by
  have : ∀ i : Nat, i < 8 → (256 : Int) ^ i ≤ 72057594037927936 := by decide
  exact this i (by omega)
theorem refStep0 (l : List Int) (h : isBytes l) (at_ : Int) (i : Nat) (hi : i < 8) (hz : refByte l at_ i = 0) : IntKind.u64.wrap (refPre l at_ i * 256) = refPre l at_ (i + 1) := by
  have h1 := refPre_range l h at_ i
  have h2 := pow256_le i (by omega)
  rw [IntKind.wrap_u64]
  simp only [refPre, hz]
  omega
theorem refStep1 (l : List Int) (h : isBytes l) (at_ : Int) (i : Nat) (hi : i < 8) (x : Int) (hz : refByte l at_ i = x) : IntKind.u64.wrap (IntKind.u64.wrap (refPre l at_ i * 256) + IntKind.u64.wrap x) = refPre l at_ (i + 1) := by
  have h1 := refPre_range l h at_ i
  have h2 := pow256_le i (by omega)
  have h3 := refByte_range l h at_ i
  rw [IntKind.wrap_u64, IntKind.wrap_u64, IntKind.wrap_u64]
  simp only [refPre]
  rw [hz] at h3 ⊢
  omega
-- a number's last w bytes, the greatest first
def beBytes (w : Nat) (n : Int) : List Int := (List.range w).reverse.map fun i => n / 256 ^ i % 256
def wid (w : Int) : Nat := (mn (mx w 0) 8).toNat
def byteAt (l : List Int) (i : Int) : Int := if i < 0 ∨ (l.length : Int) ≤ i then 0 else l.getD i.toNat 0
def bePre (l : List Int) (at_ : Int) : Nat → Int
  | 0 => 0
  | i + 1 => bePre l at_ i * 256 + byteAt l (at_ + i)
def beNum (l : List Int) (at_ : Int) (w : Nat) : Int := bePre l at_ w
theorem byteAt_range (l : List Int) (h : isBytes l) (i : Int) : 0 ≤ byteAt l i ∧ byteAt l i ≤ 255 := by
  unfold byteAt
  split
  · omega
  · exact rd_range l h _
theorem bePre_range (l : List Int) (h : isBytes l) (at_ : Int) : ∀ i : Nat, 0 ≤ bePre l at_ i ∧ bePre l at_ i < 256 ^ i
  | 0 => by simp [bePre]
  | i + 1 => by
    have h1 := bePre_range l h at_ i
    have h2 := byteAt_range l h (at_ + i)
    simp only [bePre, Int.pow_succ]
    omega
theorem or64_byte (x y : Nat) (hx : x < 72057594037927936) (hy : y < 256) : bits BinOp.or .u64 ((x * 256 : Nat) : Int) (y : Int) = ((x * 256 + y : Nat) : Int) := by
  have e : bits BinOp.or .u64 ((x * 256 : Nat) : Int) (y : Int) = IntKind.u64.wrap (((x * 256) % 18446744073709551616 ||| y % 18446744073709551616 : Nat) : Int) := by simp [bits]; rfl
  rw [e, Nat.mod_eq_of_lt (by omega), Nat.mod_eq_of_lt (by omega)]
  have h : x * 256 ||| y = x * 256 + y := by
    have := Nat.shiftLeft_add_eq_or_of_lt (i := 8) (b := y) hy x
    rw [Nat.shiftLeft_eq] at this
    exact this.symm
  rw [h, IntKind.wrap_u64]
  omega
theorem beStep (l : List Int) (h : isBytes l) (b : Int) (j : Nat) (hj : j < 8) : bits BinOp.or .u64 (IntKind.u64.wrap (bePre l b j * 256)) (byteAt l (b + j)) = bePre l b (j + 1) := by
  have h1 := bePre_range l h b j
  have h2 := byteAt_range l h (b + j)
  have h3 := pow256_le j (by omega)
  obtain ⟨x, hx⟩ := Int.eq_ofNat_of_zero_le h1.1
  obtain ⟨y, hy⟩ := Int.eq_ofNat_of_zero_le h2.1
  simp only [bePre]
  rw [hx] at h1 ⊢
  rw [hy] at h2 ⊢
  have e : IntKind.u64.wrap ((x : Int) * 256) = ((x * 256 : Nat) : Int) := by rw [IntKind.wrap_u64]; omega
  rw [e, or64_byte x y (by omega) (by omega)]
  omega
def beAt (l : List Int) (at_ : Int) : Int := mx (if (l.length : Int) < at_ then (l.length : Int) else at_) (-8)
def beRow : List Int → List Int
  | w :: n :: r => beBytes (wid (mn w 8)) n ++ beRow r
  | _ => []
theorem shr_byte (n : Int) (h0 : 0 ≤ n) (h1 : n < 18446744073709551616) (i : Nat) (hi : i < 8) : (shr .u64 n (8 * (i : Int))) % 256 = n / 256 ^ i % 256 := by
  unfold shr
  have e : min (8 * (i : Int)).toNat IntKind.u64.bits = 8 * i := by
    have : (8 * (i : Int)).toNat = 8 * i := by omega
    rw [this]
    show min (8 * i) 64 = 8 * i
    omega
  rw [e, Int.pow_mul]
  rfl
theorem beBytes_succ (w : Nat) (n : Int) : beBytes (w + 1) n = (n / 256 ^ w % 256) :: beBytes w n := by
  unfold beBytes
  rw [List.range_succ, List.reverse_append]
  simp
theorem beBytes_len (w : Nat) (n : Int) : (beBytes w n).length = w := by simp [beBytes]
theorem wid_le (w : Int) : wid w ≤ 8 := by unfold wid mn mx; (repeat' split) <;> omega
/-- A region that draws, all but its tail quiet: the world behind the draw under a name of its own. -/
theorem region_still_tail_w {P : Program} {id : Nat} {Q : Exit → Act → World → Prop} {a : Act} {w : World} {l : List Oper} (n : Nat) (hm : P.follows .mixedOrders = true) (hB : Region.lexTailB .any l.toArray n = true)
    (h : ∀ w2 : World, w2 = w.drew → wpStill P l.toArray w2 (fun a' => wpList P l.toArray Q (l.drop n) a' w2) (l.take n) a) : (Code.region id l.toArray true).wp P Q a w := wp_region_still_tail n hm hB (h w.drew rfl)
theorem beRow_take (l : List Int) : ∀ (j : Nat), 2 * j + 1 < l.length → beRow (l.take (2 * (j + 1))) = beRow (l.take (2 * j)) ++ beBytes (wid (mn (l.getD (2 * j) 0) 8)) (l.getD (2 * j + 1) 0) := by
  suffices h : ∀ (j : Nat) (l : List Int), 2 * j + 1 < l.length → beRow (l.take (2 * (j + 1))) = beRow (l.take (2 * j)) ++ beBytes (wid (mn (l.getD (2 * j) 0) 8)) (l.getD (2 * j + 1) 0) from fun j => h j l
  intro j
  induction j with
  | zero =>
    intro l h
    match l, h with
    | a :: b :: r, _ => simp [beRow]
  | succ j ih =>
    intro l h
    match l, h with
    | a :: b :: r, h =>
      have := ih r (by simp at h; omega)
      rw [show 2 * (j + 1 + 1) = 2 * (j + 1) + 1 + 1 by omega, show 2 * (j + 1) = 2 * j + 1 + 1 by omega]
      simp only [List.take_succ_cons, beRow, List.getD_cons_succ]
      rw [show 2 * j + 1 + 1 = 2 * (j + 1) by omega, this, List.append_assoc]
theorem beRow_len (l : List Int) : (beRow l).length ≤ 8 * l.length := by
  suffices h : ∀ (n : Nat) (l : List Int), l.length ≤ n → (beRow l).length ≤ 8 * l.length from h l.length l (Nat.le_refl _)
  intro n
  induction n with
  | zero => intro l h; match l, h with | [], _ => simp [beRow]
  | succ n ih =>
    intro l h
    match l, h with
    | [], _ => simp [beRow]
    | [a], _ => simp [beRow]
    | a :: b :: r, h =>
      have h1 := ih r (by simp at h; omega)
      have h2 := wid_le (mn a 8)
      simp only [beRow, List.length_append, beBytes_len, List.length_cons]
      omega
def rowOk (l : List Int) : Prop := l.length % 2 = 0 ∧ ∀ i, i < l.length → 0 ≤ l.getD i 0 ∧ l.getD i 0 < 18446744073709551616 ∧ (i % 2 = 0 → l.getD i 0 ≤ 8)
instance (l : List Int) : Decidable (rowOk l) := by unfold rowOk; exact inferInstance
def headMay (k i c b o l n : Int) : Bool := (within k 1 5 && (within c 1 16 && within i 0 (wrap64 (c - 1)))) && (decide (b < 2147483648) && (decide (o < 2147483648) && (within l 0 65535 && within n 0 228)))
def numOf (l : List Int) (at_ : Int) (w : Nat) : Int := beNum l at_ w % 4294967296
def dataOf (l : List Int) : List Int := (l.drop 24).take (mn (24 + numOf l 22 2) 252 - 24).toNat
def pageHead (k i c b o l n : Int) : List Int := [k % 256, i % 256, c % 256, 0] ++ beBytes 8 b ++ beBytes 8 o ++ beBytes 2 (l % 18446744073709551616) ++ beBytes 2 (n % 18446744073709551616)
def pageBody (k i c b o l n : Int) (d : List Int) : List Int := (pageHead k i c b o l n ++ d) ++ List.replicate (252 - (24 + d.length)) 255
def zsum (l : List Int) : Int := (l.map zbits).sum
end Go.Proofs.Ytnchdmidaigheaa.Hp
