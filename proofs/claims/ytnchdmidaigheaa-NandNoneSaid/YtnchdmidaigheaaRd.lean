/- Reading an argument as a kind's value: whatever reads as data of a type is what the kind tells. Plain lemmas of this workplace. -/
import Derived.Test.YtnchdmidaigheaaWWords
import Derived.Test.YtnchdmidaigheaaWMore
import Derived.Test.YtnchdmidaigheaaWFoot
import Derived.Test.YtnchdmidaigheaaWShare
import Derived.ChangeSame
import Derived.Deep.Slices
import Derived.Carry
import Derived.OpenShut
import Derived.Laws.BytesArg
import Derived.Laws.BytesString
namespace Go.Proofs.YtnchdmidaigheaaW.PrintWords
open Go.RowKit Go.ChangeShapes Go.WideShapes
set_option linter.unusedVariables false
set_option linter.unusedSimpArgs false
/-- Whatever reads at type t is a value of the kind d, of which G holds. -/
structure Tk {α : Type} (P : Program) (d : Kd α) (t : TypeId) (G : α → Prop) : Prop where
  go : ∀ {H : Type} {enc : TypeId × Value → H} {W : World} {fuel : Nat} {cs : List Value} {x : DataW H × List MemPlace}, DataW.trod enc P W 0 (fun _ => true) true fuel t cs = some x → ∃ y : α, d.K W y cs ∧ G y
theorem Tk.int {P : Program} {t : TypeId} {k : IntKind} (ht : P.underlying t = some (.int k)) : Tk P (Kd.int k) t (fun n => (Lit.int k n).wf = true) := by
  constructor
  intro H enc W fuel cs x h
  obtain ⟨n, rfl, _, hw⟩ := DataW.trod_int ht h
  exact ⟨n, rfl, hw⟩
theorem Tk.bool {P : Program} {t : TypeId} (ht : P.underlying t = some .bool) : Tk P Kd.bool t (fun _ => True) := by
  constructor
  intro H enc W fuel cs x h
  obtain ⟨b, rfl, _⟩ := DataW.trod_bool ht h
  exact ⟨b, rfl, trivial⟩
theorem Tk.string {P : Program} {t : TypeId} (ht : P.underlying t = some .string) : Tk P Kd.string t (fun s => s.size ≤ 9223372036854775807) := by
  constructor
  intro H enc W fuel cs x h
  obtain ⟨s, rfl, _, hs⟩ := DataW.trod_string ht h
  exact ⟨s, rfl, hs⟩
theorem cells_len {w : World} {b : Nat} {a : Addr} {n : Nat} {cs : List Value} (h : w.cells? b a n = some cs) : cs.length = n ∧ ∀ i u, cs[i]? = some u → w.cell? (a.add i) = some u := by
  obtain ⟨_, hl, hc⟩ := World.cells?_some h
  refine ⟨hl, fun i u hu => ?_⟩
  have hi : i < n := by have := (List.getElem?_eq_some_iff.1 hu).1; omega
  rw [hc i hi, hu]
/-- A list out of what is known index by index. -/
theorem list_of {α : Type} (R : Nat → α → Prop) : ∀ n : Nat, (∀ i, i < n → ∃ y, R i y) → ∃ l : List α, l.length = n ∧ ∀ i y, l[i]? = some y → R i y
  | 0, _ => ⟨[], rfl, fun i y h => by simp at h⟩
  | n + 1, h => by
    obtain ⟨l, hl, hr⟩ := list_of R n (fun i hi => h i (by omega))
    obtain ⟨y, hy⟩ := h n (by omega)
    refine ⟨l ++ [y], by simp [hl], fun i z hz => ?_⟩
    rcases Nat.lt_or_ge i l.length with hi | hi
    · rw [List.getElem?_append_left hi] at hz
      exact hr i z hz
    · have hi' : i = l.length := by
        have := (List.getElem?_eq_some_iff.1 hz).1
        simp at this
        omega
      subst hi'
      have : y = z := by simpa using hz
      subst this
      rw [hl]
      exact hy
theorem Tk.slice {α : Type} {P : Program} {d : Kd α} {t e : TypeId} {G : α → Prop} (hd : Tk P d e G) (ht : P.underlying t = some (.slice e)) (hc : P.cellsOf e = d.sz) : Tk P (Kd.slice e d) t (fun l => l.length ≤ 9223372036854775807 ∧ ∀ x ∈ l, G x) := by
  constructor
  intro H enc W fuel cs x h
  rcases Go.Deep.open_slice ht h with ⟨rfl, _⟩ | ⟨a, len, cap, m, n, D, Pl, rfl, _, hl, hm, hmm, _, hel⟩
  · refine ⟨[], ⟨none, 0, rfl, Nat.le_refl _, ⟨rfl, by simp, fun h => absurd h (by simp)⟩⟩, by simp⟩
  · have hlm : len ≤ m := by rw [hmm]; simpa using hl
    obtain ⟨l, hll, hR⟩ := list_of (fun i (y : α) => G y ∧ ∃ cs', W.cells? 0 (a.add (i * P.cellsOf e)) (P.cellsOf e) = some cs' ∧ d.K W y cs') len (fun i hi => by
      obtain ⟨cs', h1, h2⟩ := hel i (by omega)
      obtain ⟨y, hy, hG⟩ := hd.go h2
      exact ⟨y, hG, cs', h1, hy⟩)
    have hlen : l.length ≤ 9223372036854775807 := by simp only [maxLen] at hm; omega
    subst hll
    refine ⟨l, ⟨some a, cap, rfl, hl, rfl, hlen, fun _ => ⟨a, rfl, fun j p hj => ?_⟩⟩, hlen, fun y hy => ?_⟩
    · obtain ⟨_, cs', h1, h2⟩ := hR j p hj
      obtain ⟨h3, h4⟩ := cells_len h1
      refine ⟨cs', by rw [h3, hc], h2, fun i u hu => ?_⟩
      have := h4 i u hu
      rwa [Addr.add_add, hc] at this
    · obtain ⟨i, hi, rfl⟩ := List.getElem_of_mem hy
      exact (hR i _ (List.getElem?_eq_getElem hi)).1
/-- The fields from one on. -/
structure Tks {α : Type} (P : Program) (d : Kd α) (fs : List Field) (off : Nat) (G : α → Prop) : Prop where
  go : ∀ {H : Type} {enc : TypeId × Value → H} {W : World} {n : Nat} {cs : List Value} {xs : List (DataW H × List MemPlace)}, cs.length = off + d.sz →
    fs.mapM (fun f => DataW.trod enc P W 0 (fun _ => true) true n f.type ((cs.drop f.offset).take (P.cellsOf f.type))) = some xs → ∃ y : α, d.K W y (cs.drop off) ∧ G y
theorem Tks.last {α : Type} {P : Program} {d : Kd α} {f : Field} {off : Nat} {G : α → Prop} (hd : Tk P d f.type G) (ho : f.offset = off) (hc : P.cellsOf f.type = d.sz) : Tks P d [f] off G := by
  constructor
  intro H enc W n cs xs hl h
  simp only [List.mapM_cons, List.mapM_nil, Option.pure_def, Option.bind_eq_bind] at h
  obtain ⟨y0, h0, _⟩ := Option.bind_eq_some_iff.1 h
  rw [ho, hc, List.take_of_length_le (by rw [List.length_drop]; omega)] at h0
  exact hd.go h0
theorem Tks.cons {α β : Type} {P : Program} {a : Kd α} {b : Kd β} {f : Field} {r : List Field} {off : Nat} {G : α → Prop} {G2 : β → Prop} (hd : Tk P a f.type G) (ho : f.offset = off) (hc : P.cellsOf f.type = a.sz) (hr : Tks P b r (off + a.sz) G2) :
    Tks P (Kd.pair a b) (f :: r) off (fun p => G p.1 ∧ G2 p.2) := by
  constructor
  intro H enc W n cs xs hl h
  have hsz : (Kd.pair a b).sz = a.sz + b.sz := rfl
  rw [hsz] at hl
  simp only [List.mapM_cons, Option.pure_def, Option.bind_eq_bind] at h
  obtain ⟨y0, h0, h⟩ := Option.bind_eq_some_iff.1 h
  obtain ⟨ys, h1, _⟩ := Option.bind_eq_some_iff.1 h
  rw [ho, hc] at h0
  obtain ⟨u, hu, gu⟩ := hd.go h0
  obtain ⟨v, hv, gv⟩ := hr.go (by omega) h1
  refine ⟨(u, v), ⟨(cs.drop off).take a.sz, cs.drop (off + a.sz), ?_, hu, hv⟩, gu, gv⟩
  rw [← List.drop_drop, List.take_append_drop]
theorem Tk.struct {α : Type} {P : Program} {d : Kd α} {t : TypeId} {fs : Array Field} {G : α → Prop} (ht : P.underlying t = some (.struct fs)) (hc : P.cellsOf t = d.sz) (h : Tks P d fs.toList 0 G) : Tk P d t G := by
  constructor
  intro H enc W fuel cs x hx
  cases fuel with
  | zero => simp [DataW.trod] at hx
  | succ n =>
    unfold DataW.trod at hx
    rw [ht] at hx
    have hx' : (if cs.length = P.cellsOf t then (fs.toList.mapM fun f => DataW.trod enc P W 0 (fun _ => true) true n f.type ((cs.drop f.offset).take (P.cellsOf f.type))).map fun xs => (DataW.agg (xs.map (·.1)), xs.flatMap (·.2)) else none) = some x := by
      split at hx <;> first | exact hx | simp_all
    by_cases hl : cs.length = P.cellsOf t
    · rw [if_pos hl] at hx'
      obtain ⟨xs, h1, _⟩ := Option.map_eq_some_iff.1 hx'
      obtain ⟨y, hy, gy⟩ := h.go (by rw [hl, hc, Nat.zero_add]) h1
      exact ⟨y, hy, gy⟩
    · rw [if_neg hl] at hx'
      cases hx'
theorem Tk.iso {α β : Type} {P : Program} {d : Kd α} {t : TypeId} {G : α → Prop} (h : Tk P d t G) (f : β → α) (g : α → β) (hfg : ∀ a, f (g a) = a) : Tk P (Kd.iso d f) t (fun b => G (f b)) := by
  constructor
  intro H enc W fuel cs x hx
  obtain ⟨y, hy, gy⟩ := h.go hx
  refine ⟨g y, ?_, by show G (f (g y)); rw [hfg]; exact gy⟩
  show d.K W (f (g y)) cs
  rw [hfg]
  exact hy
theorem Tk.imp {α : Type} {P : Program} {d : Kd α} {t : TypeId} {G G' : α → Prop} (h : Tk P d t G) (hG : ∀ a, G a → G' a) : Tk P d t G' := by
  constructor
  intro H enc W fuel cs x hx
  obtain ⟨y, hy, gy⟩ := h.go hx
  exact ⟨y, hy, hG y gy⟩
/-- A row that is read leads to what it leads to, wherever the memory is the same. -/
theorem F_all {α : Type} {d : Kd α} {W : World} {A : Option Addr} {xs : List α} (hd : Kd.Heap d) (h : d.C W A xs.length xs) : Kd.F d W (fun _ => True) A xs.length xs := by
  exact fun W' hW => hd.C (fun k hk => hW k trivial hk) h
/-- string(b) of a slice of bytes that is only read. -/
theorem c_string {P : Program} {W : World} {src dst e : TypeId} {A : Option Addr} {n c : Nat} {xs : List Int} (hs : P.underlying src = some (.slice e)) (he : P.underlying e = some (.int .u8)) (hd : P.underlying dst = some .string)
    (h : (Kd.int .u8).C W A n xs) : (convert src dst (.slice A n c)).run P W = .ok (.string (strOfNums xs)) W := by
  have hr := Kd.reads_of_C (d := (0 : Int)) h
  have hlen : xs.length = n := hr.1
  cases A with
  | none =>
    have h0 : n = 0 := by
      rcases Nat.eq_zero_or_pos n with h0 | h0
      · exact h0
      · obtain ⟨ad, he, _⟩ := hr.2.2 h0
        cases he
    subst h0
    obtain rfl := List.eq_nil_of_length_eq_zero hlen
    exact run_convert_bytes_nil W src e hs he 0 c dst hd
  | some a =>
    have hcell : ∀ i, i < n → W.cell? (a.add i) = some (.int .u8 (xs.getD i 0)) := by
      intro i hi
      obtain ⟨ad, he, hc⟩ := hr.2.2 (by omega)
      obtain rfl := Option.some.inj he
      exact hc i hi
    have hl : (loadCells a n).run P W = .ok (xs.map (Value.int .u8)).toArray W := by
      have := run_loadCells_list (P := P) W a (xs.map (Value.int .u8)) (fun j v hj => by
        have hjl : j < xs.length := by
          rcases Nat.lt_or_ge j xs.length with h | h
          · exact h
          · simp [List.getElem?_eq_none (show (xs.map (Value.int .u8)).length ≤ j by simpa using h)] at hj
        rw [hcell j (by omega)]
        simp [List.getElem?_eq_getElem hjl] at hj
        subst hj
        simp [List.getD, List.getElem?_eq_getElem hjl])
      simpa [hlen] using this
    rw [run_convert_bytes_string W src dst e _ n c hs he hd, run_bytesToString W _ n c xs hl, foldl_push_bytes]
    simp [strOfNums, ByteArray.empty, ByteArray.emptyWithCapacity]
    rfl
theorem v_string {P : Program} {W : World} {src dst e e' base : Nat} {ok : Nat → Prop} {A : Option Addr} {n c : Nat} {xs : List Int} (hs : P.underlying src = some (.slice e)) (he : P.underlying e = some (.int .u8)) (hd : P.underlying dst = some .string)
    (h : Kd.V (Kd.int .u8) e' W base ok (.slice A n c) xs) : (convert src dst (.slice A n c)).run P W = .ok (.string (strOfNums xs)) W := by
  obtain ⟨h1, h2, h3⟩ := Kd.V_reads' h
  rw [h1]
  exact c_string hs he hd h3
end Go.Proofs.YtnchdmidaigheaaW.PrintWords
