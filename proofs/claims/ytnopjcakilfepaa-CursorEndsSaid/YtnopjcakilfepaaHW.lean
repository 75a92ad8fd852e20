import Derived.Deep.RegionHeld3
import Derived.Test.YtnopjcakilfepaaWWords
import Derived.Test.YtnopjcakilfepaaWMore
import Derived.Laws.BitsLemmas
import Derived.Laws.Bits64
import Derived.StillTailTactics
namespace Go.Proofs.Ytnopjcakilfepaa.Hp
open Go.RowKit Go.Proofs.YtnopjcakilfepaaW.PrintWords Go.Proofs.YtnopjcakilfepaaW.PrintMore
set_option linter.unusedVariables false
set_option linter.unusedSimpArgs false
def within (n a b : Int) : Bool := decide (a ≤ n) && decide (n ≤ b)
def zbits (c : Int) : Int := 8 - (c % 2 + c / 2 % 2 + c / 4 % 2 + c / 8 % 2 + c / 16 % 2 + c / 32 % 2 + c / 64 % 2 + c / 128 % 2)
def zpre (a : Int) : Nat → Int
  | 0 => 0
  | k + 1 => zpre a k + (1 - a / 2 ^ k % 2)
def isBytes (l : List Int) : Prop := ∀ x ∈ l, 0 ≤ x ∧ x ≤ 255
instance (l : List Int) : Decidable (isBytes l) := by unfold isBytes; exact inferInstance
def maskAt (m : List Int) (i : Nat) : Int := if m.length = 0 then 0 else m.getD (i % m.length) 0
def progByte (c x k : Int) : Int := ((c.toNat &&& (x.toNat ||| (255 - k.toNat)) : Nat) : Int)
def progRow (old b m : List Int) : List Int := (List.range old.length).map fun i => if i < b.length then progByte (old.getD i 0) (b.getD i 0) (maskAt m i) else old.getD i 0
def wipeRow (old m : List Int) : List Int := (List.range old.length).map fun i => (((old.getD i 0).toNat ||| (maskAt m i).toNat : Nat) : Int)
def refByte (l : List Int) (at_ : Int) (i : Nat) : Int := if 0 ≤ at_ ∧ at_ + i < l.length then rd l (at_ + i) else 0
def refPre (l : List Int) (at_ : Int) : Nat → Int
  | 0 => 0
  | i + 1 => refPre l at_ i * 256 + refByte l at_ i
def refNum (l : List Int) (at_ w : Int) : Int := refPre l at_ (mn (mx w 0) 8).toNat
def beBytes (w : Nat) (n : Int) : List Int := (List.range w).reverse.map fun i => n / 256 ^ i % 256
def wid (w : Int) : Nat := (mn (mx w 0) 8).toNat
def byteAt (l : List Int) (i : Int) : Int := if i < 0 ∨ (l.length : Int) ≤ i then 0 else l.getD i.toNat 0
def bePre (l : List Int) (at_ : Int) : Nat → Int
  | 0 => 0
  | i + 1 => bePre l at_ i * 256 + byteAt l (at_ + i)
def beNum (l : List Int) (at_ : Int) (w : Nat) : Int := bePre l at_ w
def beAt (l : List Int) (at_ : Int) : Int := mx (if (l.length : Int) < at_ then (l.length : Int) else at_) (-8)
def beRow : List Int → List Int
  | w :: n :: r => beBytes (wid (mn w 8)) n ++ beRow r
  | _ => []
def rowOk (l : List Int) : Prop := l.length % 2 = 0 ∧ ∀ i, i < l.length → 0 ≤ l.getD i 0 ∧ l.getD i 0 < 18446744073709551616 ∧ (i % 2 = 0 → l.getD i 0 ≤ 8)
instance (l : List Int) : Decidable (rowOk l) := by unfold rowOk; exact inferInstance
def headMay (k i c b o l n : Int) : Bool := (within k 1 5 && (within c 1 16 && within i 0 (wrap64 (c - 1)))) && (decide (b < 2147483648) && (decide (o < 2147483648) && (within l 0 65535 && within n 0 228)))
def numOf (l : List Int) (at_ : Int) (w : Nat) : Int := beNum l at_ w % 4294967296
def dataOf (l : List Int) : List Int := (l.drop 24).take (mn (24 + numOf l 22 2) 252 - 24).toNat
def pageHead (k i c b o l n : Int) : List Int := [k % 256, i % 256, c % 256, 0] ++ beBytes 8 b ++ beBytes 8 o ++ beBytes 2 (l % 18446744073709551616) ++ beBytes 2 (n % 18446744073709551616)
def pageBody (k i c b o l n : Int) (d : List Int) : List Int := (pageHead k i c b o l n ++ d) ++ List.replicate (252 - (24 + d.length)) 255
def zsum (l : List Int) : Int := (l.map zbits).sum
end Go.Proofs.Ytnopjcakilfepaa.Hp
