/- slices.Clone at records; the clone's records put in a row; whatever is read there. -/
import Derived.Test.YtndhjjlicfoiaaaS6
import Derived.Test.YtndhjjlicfoiaaaRd
import Derived.WalkSpells
namespace Go.Proofs.Ytndhjjlicfoiaaa.QS
set_option linter.unusedVariables false
set_option linter.unusedSimpArgs false
open Go.RowKit Go.Proofs.Ytndhjjlicfoiaaa.SS Go.Proofs.Ytndhjjlicfoiaaa.Hp Go.Proofs.YtndhjjlicfoiaaaW.PrintWords Go.Proofs.YtndhjjlicfoiaaaW.PrintLast Go.Proofs.YtndhjjlicfoiaaaW.PrintMore
set_option maxHeartbeats 4000000 in
set_option maxRecDepth 100000 in
/-- slices.Clone of records -/
theorem clone_calls (A : Option Addr) (cp n : Nat) (cs : List Value) (w : World) (hn : n ≤ 100000) (hl : cs.length = n * 8) (h1 : ∀ u ∈ cs, u.oneCell' = true) (hA : A = none → n = 0)
    (hc : ∀ ad, A = some ad → ∀ j u, cs[j]? = some u → w.cell? (ad.add j) = some u) :
    Calls Try.prog 22 #[.slice A n cp] w fun e w' => ∃ v, e = .returned v ∧ w'.ownsRow w.heap.size 38 8 v n cs ∧ Below w.heap.size w w' := by
  cases A with
  | none =>
    obtain rfl := hA rfl
    have e1 := fun W : World => Lib.run_eql_slice_nil (P := Try.prog) W 22 38 none 0 cp 0 0 Try.underlying22
    obtain rfl : cs = [] := List.eq_nil_of_length_eq_zero (by omega)
    go_enter Try.func22, Try.ntmps22
    go_wp2_with fail
    go_ret
    exact ⟨_, rfl, World.ownsRow_nil _ _ _ _, Below.refl _ _⟩
  | some ad =>
    have e1 := fun W : World => Lib.run_eql_slice_nil (P := Try.prog) W 22 38 (some ad) n cp 0 0 Try.underlying22
    have HC := Aside0.mk (hc ad rfl)
    have HH := Aside0.mk (And.intro hn (And.intro hl h1))
    clear hA hc hn hl h1
    go_enter Try.func22, Try.ntmps22
    obtain ⟨i0, hi0, hz⟩ := Option.map_eq_some_iff.1 info38
    simp only [Prod.mk.injEq] at hz
    obtain ⟨hz0, hz1, hz2⟩ := hz
    have HI := Aside0.mk (And.intro hi0 (And.intro hz0 (And.intro hz1 hz2)))
    clear hi0 hz0 hz1 hz2
    go_wp2_with (at_builtin; refine wpList_append_own_at _ rfl _ _ 22 rfl w.heap.size 38 i0 _ 8 80 Try.underlying22 HI.out.1 HI.out.2.1 HI.out.2.2.1 HI.out.2.2.2 rfl (by decide) _ 0 [] rfl (World.ownsRow_made w #[] 0 (Nat.le_refl _) (Nat.zero_le _) rfl) ad n cp cs rfl HH.out.2.1 (fun j u hj => pw_cell_below (below_alloc (Below.refl _ _) _) (HC.out j u hj)) HH.out.2.2 (by have := HH.out.1; unfold maxLen; omega) (by have := HH.out.1; omega) (by simp) ?_; intro v w1 ho hg hnil hat; replace ho := Aside0.mk ho; replace hg := Aside0.mk hg; clear hnil hat)
    go_ret
    refine ⟨v, rfl, by simpa using ho.out, ?_⟩
    exact pw_below_grown (below_alloc (Below.refl w.heap.size w) _) _ (by simp) hg.out (fun k hk => by have e : w.heap.size = k := Option.some.inj hk; omega)
/-- A row of the call's own holds records. -/
theorem rowB_of_own {W : World} {base : Nat} {v : Value} {n : Nat} {cs : List Value} {d : List Rec} (h : W.ownsRow base 38 8 v n cs) (hn : 0 < n) (hd : ∀ j x, d[j]? = some x → ∀ i, i < 8 → cs[j * 8 + i]? = x.enc[i]?) :
    ∃ g cp, v = .slice (some ⟨g, 0, none⟩) n cp ∧ base ≤ g ∧ n ≤ cp ∧ RowB W g d := by
  obtain ⟨hl, h | ⟨g, cap, cur, rfl, hg, hh, h1, h2, h3, h4⟩⟩ := h
  · omega
  · refine ⟨g, cap, rfl, hg, h1, cur, hh, fun j x hx i hi => ?_⟩
    rw [← hd j x hx i hi, ← h4]
    have hs := hd j x hx i hi
    have hlt : j * 8 + i < cs.length := by
      rcases Nat.lt_or_ge (j * 8 + i) cs.length with h | h
      · exact h
      · rw [List.getElem?_eq_none h] at hs
        have : (Rec.enc x).length = 8 := rfl
        rw [List.getElem?_eq_getElem (by omega)] at hs
        cases hs
    rw [List.getElem?_take, if_pos (by omega)]
    simp
/-- a record that is read, and where its pages lie -/
abbrev Rp := S38 × (Option Addr × Nat)
def recOf (p : Rp) : Rec := ⟨p.1.f0, p.1.f1, p.1.f2, p.1.f3, p.1.f4, p.1.f5, p.1.f6, p.2.1, p.1.f7.length, p.2.2⟩
def Rp.good (W : World) (p : Rp) : Prop := p.1.f7.length ≤ p.2.2 ∧ (Kd.int .i64).C W p.2.1 p.1.f7.length p.1.f7
theorem Rp.good_below {W W' : World} {p : Rp} (h : p.good W) (hb : Below W.heap.size W W') : p.good W' := ⟨h.1, Kd.C_below h.2 hb⟩
theorem enc_one (x : Rec) : ∀ u ∈ x.enc, u.oneCell' = true := by
  intro u hu
  simp only [Rec.enc, List.mem_cons, List.not_mem_nil, or_false] at hu
  rcases hu with rfl | rfl | rfl | rfl | rfl | rfl | rfl | rfl <;> rfl
theorem encs_at (ps : List Rec) (j : Nat) (x : Rec) (h : ps[j]? = some x) (i : Nat) (hi : i < 8) : (ps.flatMap Rec.enc)[j * 8 + i]? = x.enc[i]? := by
  induction ps generalizing j with
  | nil => simp at h
  | cons a r ih =>
    rw [List.flatMap_cons]
    have ha : (Rec.enc a).length = 8 := rfl
    cases j with
    | zero =>
      obtain rfl : a = x := by simpa using h
      rw [List.getElem?_append_left (by omega)]
      simp
    | succ j =>
      rw [List.getElem?_append_right (by omega), ha, show (j + 1) * 8 + i - 8 = j * 8 + i by omega]
      exact ih j (by simpa using h)
theorem encs_len (ps : List Rec) : (ps.flatMap Rec.enc).length = ps.length * 8 := by
  induction ps with
  | nil => rfl
  | cons a r ih => rw [List.flatMap_cons, List.length_append, ih, List.length_cons]; show 8 + _ = _; omega
/-- Records that are read: each with the place of its pages. -/
theorem split_row {w : World} {A : Option Addr} {l : List S38} (h : Kd.C k38 w A l.length l) :
    ∃ ps : List Rp, ps.map (·.1) = l ∧ (∀ p ∈ ps, p.good w) ∧ (A = none → l.length = 0) ∧ ∀ ad, A = some ad → ∀ j u, ((ps.map recOf).flatMap Rec.enc)[j]? = some u → w.cell? (ad.add j) = some u := by
  rcases Nat.eq_zero_or_pos l.length with h0 | h0
  · obtain rfl := List.eq_nil_of_length_eq_zero h0
    exact ⟨[], rfl, by simp, fun _ => rfl, fun ad _ j u hu => by simp at hu⟩
  · obtain ⟨ad, hA, hc⟩ := h.2.2 h0
    obtain ⟨ps, hl, hR⟩ := list_of (fun j (p : Rp) => l[j]? = some p.1 ∧ p.good w ∧ ∀ i u, (recOf p).enc[i]? = some u → w.cell? (ad.add (j * 8 + i)) = some u) l.length (fun j hj => by
      obtain ⟨c, hs, hK, hcell⟩ := hc j l[j] (List.getElem?_eq_getElem hj)
      obtain ⟨A7, c7, rfl, l7, g7⟩ := k38_open hK
      exact ⟨(l[j], A7, c7), List.getElem?_eq_getElem hj, ⟨l7, g7⟩, hcell⟩)
    have hm : ps.map (·.1) = l := by
      apply List.ext_getElem?
      intro j
      rw [List.getElem?_map]
      rcases Nat.lt_or_ge j l.length with hj | hj
      · rw [List.getElem?_eq_getElem (show j < ps.length by omega)]
        exact ((hR j _ (List.getElem?_eq_getElem (by omega))).1).symm
      · rw [List.getElem?_eq_none (by omega), List.getElem?_eq_none hj]
        rfl
    refine ⟨ps, hm, fun p hp => ?_, ⟨fun h => (by rw [hA] at h; cases h), fun ad' had j u hu => ?_⟩⟩
    · obtain ⟨j, hj, rfl⟩ := List.getElem_of_mem hp
      exact (hR j _ (List.getElem?_eq_getElem hj)).2.1
    · obtain rfl : ad = ad' := by rw [hA] at had; exact Option.some.inj had
      have hj : j < l.length * 8 := by
        have := (List.getElem?_eq_some_iff.1 hu).1
        rw [encs_len, List.length_map, hl] at this
        exact this
      have hq : j / 8 < ps.length := by omega
      have hjj : j / 8 * 8 + j % 8 = j := by omega
      have e : (ps.map recOf)[j / 8]? = some (recOf ps[j / 8]) := by rw [List.getElem?_map, List.getElem?_eq_getElem hq]; rfl
      have := encs_at (ps.map recOf) (j / 8) _ e (j % 8) (by omega)
      rw [hjj] at this
      rw [this] at hu
      have := (hR (j / 8) _ (List.getElem?_eq_getElem hq)).2.2 (j % 8) u hu
      rwa [hjj] at this
/-- Records in a row of the call's own, from one on, read as records. -/
theorem reads_row {W : World} {g : Nat} {ps : List Rp} (h : RowB W g (ps.map recOf)) (hg : ∀ p ∈ ps, p.good W) (hn : ps.length ≤ 100000) (j : Nat) (hj : j ≤ ps.length) (A : Option Addr) (hA : j < ps.length → A = some ⟨g, j * 8, none⟩) :
    Kd.C k38 W A ((ps.drop j).map (·.1)).length ((ps.drop j).map (·.1)) := by
  refine ⟨rfl, by rw [List.length_map, List.length_drop]; omega, fun h0 => ⟨⟨g, j * 8, none⟩, hA (by rw [List.length_map, List.length_drop] at h0; omega), fun i x hx => ?_⟩⟩
  rw [List.getElem?_map, List.getElem?_drop] at hx
  obtain ⟨p, hp, rfl⟩ := Option.map_eq_some_iff.1 hx
  have hgp := hg p (List.mem_of_getElem? hp)
  refine ⟨(recOf p).enc, rfl, k38_mk W p.1 hgp.1 hgp.2, fun k u hu => ?_⟩
  have hk : k < 8 := (List.getElem?_eq_some_iff.1 hu).1
  obtain ⟨cs, hz, hcs⟩ := h
  have e := hcs (j + i) (recOf p) (by rw [List.getElem?_map, hp]; rfl) k hk
  have ea : (⟨g, j * 8, none⟩ : Addr).add (i * 8 + k) = ⟨g, (j + i) * 8 + k, none⟩ := by
    unfold Addr.add
    split
    · rename_i h_
      obtain ⟨rfl, rfl⟩ : i = 0 ∧ k = 0 := by omega
      rfl
    · show (⟨g, j * 8 + (i * 8 + k), none⟩ : Addr) = _
      rw [show j * 8 + (i * 8 + k) = (j + i) * 8 + k by omega]
  rw [show (k38.sz : Nat) = 8 from rfl, ea, blk_cell hz, e, hu]
end Go.Proofs.Ytndhjjlicfoiaaa.QS
