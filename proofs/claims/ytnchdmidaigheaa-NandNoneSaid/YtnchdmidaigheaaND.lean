/- A device in plain numbers and lists: what every call of it answers, and what it is behind that. -/
import Derived.Test.YtnchdmidaigheaaHp0
namespace Go.Proofs.Ytnchdmidaigheaa.ND
set_option linter.unusedVariables false
set_option linter.unusedSimpArgs false
open Go.RowKit Go.Proofs.Ytnchdmidaigheaa.Hp Go.Proofs.YtnchdmidaigheaaW.PrintWords Go.Proofs.YtnchdmidaigheaaW.PrintLast Go.Proofs.YtnchdmidaigheaaW.PrintMore
/-- a fault: at which operation, of which kind, by which mask -/
abbrev Flt := S65
structure Dv where
  B : Int
  P : Int
  C : Int
  bad : List Int
  pages : List (List Int)
  next : List Int
  wear : List Int
  faults : List Flt
  ops : Int
  down : Bool
def Dv.there (D : Dv) (b : Int) : Bool := decide (b ≥ 0) && decide (b < D.B)
def Dv.here (D : Dv) (b p : Int) : Bool := D.there b && (decide (p ≥ 0) && decide (p < D.P))
def Dv.mark (D : Dv) (b : Int) : Bool := D.bad.any fun x => x == b
def onF (f : Flt) (n : Int) : Bool := f.f0 == n && (f.f1 == 1 || f.f1 == 2)
def Dv.fault (D : Dv) : Int × List Int := match D.faults.find? fun f => onF f D.ops with
  | some f => (f.f1, f.f2)
  | none => (0, [255])
def ended (k : Int) : Int := if k = 1 then 10 else if k = 2 then 9 else 0
def Dv.idx (D : Dv) (b p : Int) : Nat := (b * D.P + p).toNat
def Dv.nextOf (D : Dv) (b : Int) : Int := if D.there b = true then D.next.getD b.toNat 0 else 0
def Dv.wearOf (D : Dv) (b : Int) : Int := if D.there b = true then D.wear.getD b.toNat 0 else 0
def Dv.progD (D : Dv) (b p : Int) (l : List Int) : Dv := { D with pages := D.pages.set (D.idx b p) (progRow (D.pages.getD (D.idx b p) []) l D.fault.2), next := D.next.set b.toNat (p + 1), ops := wrap64 (D.ops + 1), down := D.fault.1 == 2 }
def Dv.prog (D : Dv) (b p : Int) (l : List Int) : Int × Dv :=
  if D.down = true then (9, D) else if D.here b p = false ∨ l.length ≠ 256 then (3, D) else if D.mark b = true then (12, D) else if D.next.getD b.toNat 0 ≠ p then (11, D) else (ended D.fault.1, D.progD b p l)
def wiped (D : Dv) (b : Int) (m : List Int) : List (List Int) := D.pages.mapIdx fun i x => if b * D.P ≤ (i : Int) ∧ (i : Int) < (b + 1) * D.P then wipeRow x m else x
def Dv.eraseD (D : Dv) (b : Int) : Dv := { D with pages := wiped D b D.fault.2, next := D.next.set b.toNat (if D.fault.1 = 0 then 0 else D.P), wear := D.wear.set b.toNat (wrap64 (D.wear.getD b.toNat 0 + 1)), ops := wrap64 (D.ops + 1), down := D.fault.1 == 2 }
def Dv.erase (D : Dv) (b : Int) : Int × Dv :=
  if D.down = true then (9, D) else if D.there b = false then (3, D) else if D.mark b = true then (12, D) else (ended D.fault.1, D.eraseD b)
def Dv.read (D : Dv) (b p : Int) : List Int × Int := if D.down = true then ([], 9) else if D.here b p = false then ([], 3) else (D.pages.getD (D.idx b p) [], 0)
def Dv.power (D : Dv) : Dv := { D with down := false }
/-- what is known of any device -/
structure Dv.Ok (D : Dv) : Prop where
  b1 : 8 ≤ D.B
  b2 : D.B ≤ 34
  p1 : 4 ≤ D.P
  p2 : D.P ≤ 32
  c1 : 0 ≤ D.C
  c2 : D.C ≤ 8
  pl : (D.pages.length : Int) = D.B * D.P
  pw : ∀ l ∈ D.pages, isBytes l ∧ l.length = 256
  nl : (D.next.length : Int) = D.B
  nr : ∀ n ∈ D.next, 0 ≤ n ∧ n ≤ D.P
  wl : (D.wear.length : Int) = D.B
  wr : ∀ n ∈ D.wear, -9223372036854775808 ≤ n ∧ n ≤ 9223372036854775807
  fl : D.faults.length ≤ 1000
  fm : ∀ f ∈ D.faults, isBytes f.f2 ∧ f.f2.length ≤ 1000
  bl : D.bad.length ≤ 1000
theorem there_iff {D : Dv} {b : Int} : D.there b = true ↔ 0 ≤ b ∧ b < D.B := by unfold Dv.there; simp
theorem here_iff {D : Dv} {b p : Int} : D.here b p = true ↔ (0 ≤ b ∧ b < D.B) ∧ 0 ≤ p ∧ p < D.P := by unfold Dv.here Dv.there; simp
theorem mul_lt_of {a b p P : Int} (ha : 0 ≤ a) (hb : a < b) (hp : 0 ≤ p) (hP : p < P) : 0 ≤ a * P + p ∧ a * P + p < b * P ∧ a * P + p < (a + 1) * P := by
  have h1 : 0 ≤ a * P := Int.mul_nonneg ha (by omega)
  have h2 : (a + 1) * P ≤ b * P := Int.mul_le_mul_of_nonneg_right (by omega) (by omega)
  rw [Int.add_mul, Int.one_mul] at h2
  rw [Int.add_mul, Int.one_mul]
  omega
theorem Dv.Ok.size {D : Dv} (h : D.Ok) : D.B * D.P ≤ 1088 ∧ 32 ≤ D.B * D.P := by
  have h1 : D.B * D.P ≤ 34 * D.P := Int.mul_le_mul_of_nonneg_right h.b2 (by have := h.p1; omega)
  have h2 : 8 * D.P ≤ D.B * D.P := Int.mul_le_mul_of_nonneg_right h.b1 (by have := h.p1; omega)
  have := h.p2
  have := h.p1
  omega
theorem Dv.Ok.idx {D : Dv} (h : D.Ok) {b p : Int} (hh : D.here b p = true) : (D.idx b p : Int) = b * D.P + p ∧ D.idx b p < D.pages.length := by
  obtain ⟨⟨h1, h2⟩, h3, h4⟩ := here_iff.1 hh
  have := mul_lt_of h1 h2 h3 h4
  have := h.pl
  unfold Dv.idx
  omega
theorem fault_mask {D : Dv} (h : D.Ok) : isBytes D.fault.2 ∧ D.fault.2.length ≤ 1000 := by
  unfold Dv.fault
  split
  · rename_i f hf
    exact h.fm f (List.mem_of_find?_eq_some hf)
  · exact ⟨fun x hx => by simp at hx; omega, by simp⟩
theorem fault_kind (D : Dv) : D.fault.1 = 0 ∨ D.fault.1 = 1 ∨ D.fault.1 = 2 := by
  unfold Dv.fault
  split
  · rename_i f hf
    have := List.find?_some hf
    unfold onF at this
    simp only [Bool.and_eq_true, Bool.or_eq_true, beq_iff_eq] at this
    exact .inr this.2
  · exact .inl rfl
theorem progRow_ok {l b m : List Int} (hl : isBytes l) (hn : l.length = 256) : isBytes (progRow l b m) ∧ (progRow l b m).length = 256 := by
  unfold progRow
  refine ⟨fun x hx => ?_, by rw [List.length_map, List.length_range, hn]⟩
  obtain ⟨i, hi, rfl⟩ := List.mem_map.1 hx
  have hr : 0 ≤ l.getD i 0 ∧ l.getD i 0 ≤ 255 := rd_range l hl i
  split
  · unfold progByte
    have : (l.getD i 0).toNat &&& ((b.getD i 0).toNat ||| (255 - (maskAt m i).toNat)) ≤ (l.getD i 0).toNat := Nat.and_le_left
    omega
  · exact hr
theorem wipeRow_ok {l m : List Int} (hl : isBytes l) (hm : isBytes m) (hn : l.length = 256) : isBytes (wipeRow l m) ∧ (wipeRow l m).length = 256 := by
  unfold wipeRow
  refine ⟨fun x hx => ?_, by rw [List.length_map, List.length_range, hn]⟩
  obtain ⟨i, hi, rfl⟩ := List.mem_map.1 hx
  have hr : 0 ≤ l.getD i 0 ∧ l.getD i 0 ≤ 255 := rd_range l hl i
  have hk := maskAt_range m hm i
  have : (l.getD i 0).toNat ||| (maskAt m i).toNat < 2 ^ 8 := Nat.or_lt_two_pow (by omega) (by omega)
  omega
theorem page_ok {D : Dv} (h : D.Ok) {i : Nat} (hi : i < D.pages.length) : isBytes (D.pages.getD i []) ∧ (D.pages.getD i []).length = 256 := by
  rw [List.getD_eq_getElem?_getD, List.getElem?_eq_getElem hi]
  exact h.pw _ (List.getElem_mem hi)
/-- small numbers stay -/
theorem wrap_id {x : Int} (h0 : -1000000 ≤ x) (h1 : x ≤ 1000000) : IntKind.i64.wrap x = x ∧ wrap64 x = x := by
  have e : wrap64 x = x := by unfold wrap64; omega
  exact ⟨by rw [i64_w]; exact e, e⟩
theorem wrap_range (x : Int) : -9223372036854775808 ≤ wrap64 x ∧ wrap64 x ≤ 9223372036854775807 := by unfold wrap64; omega
theorem progD_ok {D : Dv} (h : D.Ok) {b p : Int} (hh : D.here b p = true) (l : List Int) : (D.progD b p l).Ok := by
  obtain ⟨⟨h1, h2⟩, h3, h4⟩ := here_iff.1 hh
  have hi := h.idx hh
  have hp := page_ok h hi.2
  exact { h with
    pl := by show ((D.pages.set _ _).length : Int) = _; rw [List.length_set]; exact h.pl
    pw := fun x hx => by
      rcases List.mem_or_eq_of_mem_set hx with h | h
      · exact ‹D.Ok›.pw x h
      · rw [h]; exact progRow_ok hp.1 hp.2
    nl := by show ((D.next.set _ _).length : Int) = _; rw [List.length_set]; exact h.nl
    nr := fun x hx => by
      rcases List.mem_or_eq_of_mem_set hx with h | h
      · exact ‹D.Ok›.nr x h
      · rw [h]; show 0 ≤ p + 1 ∧ p + 1 ≤ D.P; omega }
theorem eraseD_ok {D : Dv} (h : D.Ok) (b : Int) : (D.eraseD b).Ok := by
  have hm := fault_mask h
  exact { h with
    pl := by show ((D.pages.mapIdx _).length : Int) = _; rw [List.length_mapIdx]; exact h.pl
    pw := fun x hx => by
      obtain ⟨i, hi, rfl⟩ := List.mem_mapIdx.1 hx
      have := h.pw _ (List.getElem_mem hi)
      show isBytes (ite _ _ _) ∧ (ite _ _ _ : List Int).length = 256
      split
      · exact wipeRow_ok this.1 hm.1 this.2
      · exact this
    nl := by show ((D.next.set _ _).length : Int) = _; rw [List.length_set]; exact h.nl
    nr := fun x hx => by
      rcases List.mem_or_eq_of_mem_set hx with h | h
      · exact ‹D.Ok›.nr x h
      · rw [h]; have := ‹D.Ok›.p1; show 0 ≤ (ite _ _ _ : Int) ∧ (ite _ _ _ : Int) ≤ D.P; split <;> omega
    wl := by show ((D.wear.set _ _).length : Int) = _; rw [List.length_set]; exact h.wl
    wr := fun x hx => by
      rcases List.mem_or_eq_of_mem_set hx with h | h
      · exact ‹D.Ok›.wr x h
      · rw [h]; exact wrap_range _ }
theorem prog_ok {D : Dv} (h : D.Ok) (b p : Int) (l : List Int) : (D.prog b p l).2.Ok := by
  unfold Dv.prog
  split
  · exact h
  split
  · exact h
  rename_i hh
  split
  · exact h
  split
  · exact h
  · exact progD_ok h (by cases hc : D.here b p with | true => rfl | false => exact absurd (.inl hc) hh) l
theorem erase_ok {D : Dv} (h : D.Ok) (b : Int) : (D.erase b).2.Ok := by
  unfold Dv.erase
  split
  · exact h
  split
  · exact h
  split
  · exact h
  · exact eraseD_ok h b
theorem power_ok {D : Dv} (h : D.Ok) : D.power.Ok := { h with }
/-- a new device -/
def newDv (B P C : Int) (bad : List Int) (fs : List Flt) : Dv := ⟨B, P, C, bad, List.replicate (B * P).toNat (List.replicate 256 255), List.replicate B.toNat 0, List.replicate B.toNat 0, fs, 0, false⟩
def rightG (B P C : Int) : Bool := within B 8 34 && (within P 4 32 && within C 0 8)
theorem newDv_ok {B P C : Int} (hg : rightG B P C = true) {bad : List Int} {fs : List Flt} (h1 : bad.length ≤ 1000) (h2 : fs.length ≤ 1000) (h3 : ∀ f ∈ fs, isBytes f.f2 ∧ f.f2.length ≤ 1000) : (newDv B P C bad fs).Ok := by
  unfold rightG within at hg
  simp only [Bool.and_eq_true, decide_eq_true_eq] at hg
  obtain ⟨⟨hb1, hb2⟩, ⟨hp1, hp2⟩, hc1, hc2⟩ := hg
  have hn : 0 ≤ B * P := Int.mul_nonneg (by omega) (by omega)
  exact {
    b1 := hb1, b2 := hb2, p1 := hp1, p2 := hp2, c1 := hc1, c2 := hc2
    pl := by show ((List.replicate (B * P).toNat _).length : Int) = B * P; rw [List.length_replicate]; omega
    pw := fun x hx => by
      obtain ⟨_, rfl⟩ := List.mem_replicate.1 hx
      exact ⟨fun y hy => by obtain ⟨_, rfl⟩ := List.mem_replicate.1 hy; omega, List.length_replicate⟩
    nl := by show ((List.replicate B.toNat _).length : Int) = B; rw [List.length_replicate]; omega
    nr := fun x hx => by obtain ⟨_, rfl⟩ := List.mem_replicate.1 hx; show (0 : Int) ≤ 0 ∧ 0 ≤ P; omega
    wl := by show ((List.replicate B.toNat _).length : Int) = B; rw [List.length_replicate]; omega
    wr := fun x hx => by obtain ⟨_, rfl⟩ := List.mem_replicate.1 hx; omega
    fl := h2, fm := h3, bl := h1 }
end Go.Proofs.Ytnchdmidaigheaa.ND
