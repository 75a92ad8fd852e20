import Derived.Test.YtnopjcakilfepaaWWords
import Derived.Test.YtnopjcakilfepaaWMore
import Derived.Test.YtnopjcakilfepaaWFoot
import Derived.Test.YtnopjcakilfepaaWShare
import Derived.ChangeSame
import Derived.Deep.Slices
import Derived.Carry
import Derived.OpenShut
import Derived.Laws.BytesArg
import Derived.Laws.BytesString
namespace Go.Proofs.YtnopjcakilfepaaW.PrintWords
open Go.RowKit Go.ChangeShapes Go.WideShapes
set_option linter.unusedVariables false
set_option linter.unusedSimpArgs false
structure Tk {α : Type} (P : Program) (d : Kd α) (t : TypeId) (G : α → Prop) : Prop where
  go : ∀ {H : Type} {enc : TypeId × Value → H} {W : World} {fuel : Nat} {cs : List Value} {x : DataW H × List MemPlace}, DataW.trod enc P W 0 (fun _ => true) true fuel t cs = some x → ∃ y : α, d.K W y cs ∧ G y
theorem Tk.int {P : Program} {t : TypeId} {k : IntKind} (ht : P.underlying t = some (.int k)) : Tk P (Kd.int k) t (fun n => (Lit.int k n).wf = true) := by
  constructor
  intro H enc W fuel cs x h
  obtain ⟨n, rfl, _, hw⟩ := DataW.trod_int ht h
  exact ⟨n, rfl, hw⟩
theorem Tk.bool {P : Program} {t : TypeId} (ht : P.underlying t = some .bool) : Tk P Kd.bool t (fun _ => True) := by
  constructor
  intro H enc W fuel cs x h
  obtain ⟨b, rfl, _⟩ := DataW.trod_bool ht h
  exact ⟨b, rfl, trivial⟩
theorem Tk.string {P : Program} {t : TypeId} (ht : P.underlying t = some .string) : Tk P Kd.string t (fun s => s.size ≤ 9223372036854775807) := by
  constructor
  intro H enc W fuel cs x h
  obtain ⟨s, rfl, _, hs⟩ := DataW.trod_string ht h
  exact ⟨s, rfl, hs⟩
theorem cells_len {w : World} {b : Nat} {a : Addr} {n : Nat} {cs : List Value} (h : w.cells? b a n = some cs) : cs.length = n ∧ ∀ i u, cs[i]? = some u → w.cell? (a.add i) = some u := by
  obtain ⟨_, hl, hc⟩ := World.cells?_some h
  refine ⟨hl, fun i u hu => ?_⟩
  have hi : i < n := by have := (List.getElem?_eq_some_iff.1 hu).1; omega
  rw [hc i hi, hu]
theorem list_of {α : Type} (R : Nat → α → Prop) : ∀ n : Nat, (∀ i, i < n → ∃ y, R i y) → ∃ l : List α, l.length = n ∧ ∀ i y, l[i]? = some y → R i y
  | 0, _ => ⟨[], rfl, fun i y h => by simp at h⟩
  | n + 1, h => by
    obtain ⟨l, hl, hr⟩ := list_of R n (fun i hi => h i (by omega))
    obtain ⟨y, hy⟩ := h n (by omega)
    refine ⟨l ++ [y], by simp [hl], fun i z hz => ?_⟩
    rcases Nat.lt_or_ge i l.length with hi | hi
    · rw [List.getElem?_append_left hi] at hz
      exact hr i z hz
    · have hi' : i = l.length := by
        have := (List.getElem?_eq_some_iff.1 hz).1
        simp at this
        omega
      subst hi'
      have : y = z := by simpa using hz
      subst this
      rw [hl]
      exact hy
theorem Tk.slice {α : Type} {P : Program} {d : Kd α} {t e : TypeId} {G : α → Prop} (hd : Tk P d e G) (ht : P.underlying t = some (.slice e)) (hc : P.cellsOf e = d.sz) : Tk P (Kd.slice e d) t (fun l => l.length ≤ 9223372036854775807 ∧ ∀ x ∈ l, G x) := by
  constructor
  intro H enc W fuel cs x h
  rcases Go.Deep.open_slice ht h with ⟨rfl, _⟩ | ⟨a, len, cap, m, n, D, Pl, rfl, _, hl, hm, hmm, _, hel⟩
  · refine ⟨[], ⟨none, 0, rfl, Nat.le_refl _, ⟨rfl, by simp, fun h => absurd h (by simp)⟩⟩, by simp⟩
  · have hlm : len ≤ m := by rw [hmm]; simpa using hl
    obtain ⟨l, hll, hR⟩ := list_of (fun i (y : α) => G y ∧ ∃ cs', W.cells? 0 (a.add (i * P.cellsOf e)) (P.cellsOf e) = some cs' ∧ d.K W y cs') len (fun i hi => by
      obtain ⟨cs', h1, h2⟩ := hel i (by omega)
      obtain ⟨y, hy, hG⟩ := hd.go h2
      exact ⟨y, hG, cs', h1, hy⟩)
    have hlen : l.length ≤ 9223372036854775807 := by simp only [maxLen] at hm; omega
    subst hll
    refine ⟨l, ⟨some a, cap, rfl, hl, rfl, hlen, fun _ => ⟨a, rfl, fun j p hj => ?_⟩⟩, hlen, fun y hy => ?_⟩
    · obtain ⟨_, cs', h1, h2⟩ := hR j p hj
      obtain ⟨h3, h4⟩ := cells_len h1
      refine ⟨cs', by rw [h3, hc], h2, fun i u hu => ?_⟩
      have := h4 i u hu
      rwa [Addr.add_add, hc] at this
    · obtain ⟨i, hi, rfl⟩ := List.getElem_of_mem hy
      exact (hR i _ (List.getElem?_eq_getElem hi)).1
structure Tks {α : Type} (P : Program) (d : Kd α) (fs : List Field) (off : Nat) (G : α → Prop) : Prop where
  go : ∀ {H : Type} {enc : TypeId × Value → H} {W : World} {n : Nat} {cs : List Value} {xs : List (DataW H × List MemPlace)}, cs.length = off + d.sz →
    fs.mapM (fun f => DataW.trod enc P W 0 (fun _ => true) true n f.type ((cs.drop f.offset).take (P.cellsOf f.type))) = some xs → ∃ y : α, d.K W y (cs.drop off) ∧ G y
theorem Tks.last {α : Type} {P : Program} {d : Kd α} {f : Field} {off : Nat} {G : α → Prop} (hd : Tk P d f.type G) (ho : f.offset = off) (hc : P.cellsOf f.type = d.sz) : Tks P d [f] off G := by
  constructor
  intro H enc W n cs xs hl h
  simp only [List.mapM_cons, List.mapM_nil, Option.pure_def, Option.bind_eq_bind] at h
  obtain ⟨y0, h0, _⟩ := Option.bind_eq_some_iff.1 h
  rw [ho, hc, List.take_of_length_le (by rw [List.length_drop]; omega)] at h0
  exact hd.go h0
theorem Tks.cons {α β : Type} {P : Program} {a : Kd α} {b : Kd β} {f : Field} {r : List Field} {off : Nat} {G : α → Prop} {G2 : β → Prop} (hd : Tk P a f.type G) (ho : f.offset = off) (hc : P.cellsOf f.type = a.sz) (hr : Tks P b r (off + a.sz) G2) :
    Tks P (Kd.pair a b) (f :: r) off (fun p => G p.1 ∧ G2 p.2) := by
  constructor
  intro H enc W n cs xs hl h
  have hsz : (Kd.pair a b).sz = a.sz + b.sz := rfl
  rw [hsz] at hl
  simp only [List.mapM_cons, Option.pure_def, Option.bind_eq_bind] at h
  obtain ⟨y0, h0, h⟩ := Option.bind_eq_some_iff.1 h
  obtain ⟨ys, h1, _⟩ := Option.bind_eq_some_iff.1 h
  rw [ho, hc] at h0
  obtain ⟨u, hu, gu⟩ := hd.go h0
  obtain ⟨v, hv, gv⟩ := hr.go (by omega) h1
  refine ⟨(u, v), ⟨(cs.drop off).take a.sz, cs.drop (off + a.sz), ?_, hu, hv⟩, gu, gv⟩
  rw [← List.drop_drop, List.take_append_drop]
theorem Tk.struct {α : Type} {P : Program} {d : Kd α} {t : TypeId} {fs : Array Field} {G : α → Prop} (ht : P.underlying t = some (.struct fs)) (hc : P.cellsOf t = d.sz) (h : Tks P d fs.toList 0 G) : Tk P d t G := by
  constructor
  intro H enc W fuel cs x hx
  cases fuel with
  | zero => simp [DataW.trod] at hx
  | succ n =>
    unfold DataW.trod at hx
    rw [ht] at hx
    have hx' : (if cs.length = P.cellsOf t then (fs.toList.mapM fun f => DataW.trod enc P W 0 (fun _ => true) true n f.type ((cs.drop f.offset).take (P.cellsOf f.type))).map fun xs => (DataW.agg (xs.map (·.1)), xs.flatMap (·.2)) else none) = some x := by
      split at hx <;> first | exact hx | simp_all
    by_cases hl : cs.length = P.cellsOf t
    · rw [if_pos hl] at hx'
      obtain ⟨xs, h1, _⟩ := Option.map_eq_some_iff.1 hx'
      obtain ⟨y, hy, gy⟩ := h.go (by rw [hl, hc, Nat.zero_add]) h1
      exact ⟨y, hy, gy⟩
    · rw [if_neg hl] at hx'
      cases hx'
theorem Tk.iso {α β : Type} {P : Program} {d : Kd α} {t : TypeId} {G : α → Prop} (h : Tk P d t G) (f : β → α) (g : α → β) (hfg : ∀ a, f (g a) = a) : Tk P (Kd.iso d f) t (fun b => G (f b)) := by
  constructor
  intro H enc W fuel cs x hx
  obtain ⟨y, hy, gy⟩ := h.go hx
  refine ⟨g y, ?_, by show G (f (g y)); rw [hfg]; exact gy⟩
  show d.K W (f (g y)) cs
  rw [hfg]
  exact hy
theorem Tk.imp {α : Type} {P : Program} {d : Kd α} {t : TypeId} {G G' : α → Prop} (h : Tk P d t G) (hG : ∀ a, G a → G' a) : Tk P d t G' := by
  constructor
  intro H enc W fuel cs x hx
  obtain ⟨y, hy, gy⟩ := h.go hx
  exact ⟨y, hy, hG y gy⟩
end Go.Proofs.YtnopjcakilfepaaW.PrintWords
