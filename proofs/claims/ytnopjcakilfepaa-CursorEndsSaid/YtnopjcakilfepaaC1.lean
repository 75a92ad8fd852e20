import Derived.Test.YtnopjcakilfepaaS6
import Derived.Test.YtnopjcakilfepaaRd
import Derived.WalkSpells
namespace Go.Proofs.Ytnopjcakilfepaa.QS
set_option linter.unusedVariables false
set_option linter.unusedSimpArgs false
open Go.RowKit Go.Proofs.Ytnopjcakilfepaa.SS Go.Proofs.Ytnopjcakilfepaa.Hp Go.Proofs.YtnopjcakilfepaaW.PrintWords Go.Proofs.YtnopjcakilfepaaW.PrintLast Go.Proofs.YtnopjcakilfepaaW.PrintMore
abbrev R0 := S29
theorem inf_int : (Try.prog.info? 3).map (fun i => (i.zero, i.size, i.bytes)) = some (some (.int .i64 0), 1, 8) := by kernel_rfl
set_option maxHeartbeats 4000000 in
set_option maxRecDepth 100000 in
theorem iclone_calls (A : Option Addr) (cp : Nat) (xs : List Int) (w : World) (hn : xs.length ≤ 100000) (hC : Kd.C (Kd.int .i64) w A xs.length xs) :
    Calls Try.prog 68 #[.slice A xs.length cp] w fun e w' => ∃ v, e = .returned v ∧ Kd.R (Kd.int .i64) 3 w' w.heap.size (fun k => w.heap.size ≤ k) v xs ∧ Below w.heap.size w w' := by
  have hre := Kd.reads_of_C (d := (0 : Int)) hC
  cases A with
  | none =>
    have h0 : xs.length = 0 := by
      rcases Nat.eq_zero_or_pos xs.length with h | h
      · exact h
      · obtain ⟨ad, he, _⟩ := hre.2.2 h
        cases he
    obtain rfl := List.eq_nil_of_length_eq_zero h0
    have e1 := fun W : World => Lib.run_eql_slice_nil (P := Try.prog) W 27 3 none 0 cp 0 0 Try.underlying27
    clear hC hre h0 hn
    go_enter Try.func68, Try.ntmps68
    go_wp2_with fail
    go_ret
    exact ⟨_, rfl, Kd.R_nil _ _ _ _ _, Below.refl _ _⟩
  | some ad =>
    have e1 := fun W : World => Lib.run_eql_slice_nil (P := Try.prog) W 27 3 (some ad) xs.length cp 0 0 Try.underlying27
    have HC : Aside0 (∀ j u, (nums .i64 xs)[j]? = some u → w.cell? (ad.add j) = some u) := ⟨fun j u hu => by
      unfold nums at hu
      rw [List.getElem?_map] at hu
      obtain ⟨x, hx, rfl⟩ := Option.map_eq_some_iff.1 hu
      have hj := (List.getElem?_eq_some_iff.1 hx).1
      obtain ⟨ad', he, hc⟩ := hre.2.2 (by omega)
      obtain rfl := Option.some.inj he
      rw [hc j hj, List.getD_eq_getElem?_getD, hx]
      rfl⟩
    have HH := Aside0.mk hn
    clear hC hn hre
    obtain ⟨i0, hi0, hz⟩ := Option.map_eq_some_iff.1 inf_int
    simp only [Prod.mk.injEq] at hz
    obtain ⟨hz0, hz1, hz2⟩ := hz
    have HI := Aside0.mk (And.intro hi0 (And.intro hz0 (And.intro hz1 hz2)))
    clear hi0 hz0 hz1 hz2
    go_enter Try.func68, Try.ntmps68
    go_wp2_with (at_builtin; refine wpList_append_own_at _ rfl _ _ 27 rfl w.heap.size 3 i0 _ 1 8 Try.underlying27 HI.out.1 HI.out.2.1 HI.out.2.2.1 HI.out.2.2.2 rfl (by decide) _ 0 [] rfl (World.ownsRow_made w #[] 0 (Nat.le_refl _) (Nat.zero_le _) rfl) ad xs.length cp (nums .i64 xs) rfl (by rw [nums_length, Nat.mul_one]) (fun j u hj => pw_cell_below (below_alloc (Below.refl _ _) _) (HC.out j u hj)) (by intro u hu; obtain ⟨x, _, rfl⟩ := List.mem_map.1 hu; rfl) (by have := HH.out; unfold maxLen; omega) (by have := HH.out; omega) (by simp) ?_; intro v w1 ho hg hnil hat; replace ho := Aside0.mk ho; replace hg := Aside0.mk hg; clear hnil hat)
    go_ret
    have hb := pw_below_grown (below_alloc (Below.refl w.heap.size w) _) _ (by simp) hg.out (fun k hk => by have e : w.heap.size = k := Option.some.inj hk; omega)
    have ho1 := ho.out
    rw [Nat.zero_add, List.nil_append] at ho1
    exact ⟨v, rfl, Kd.R_of_own (enc := Value.int .i64) ho1 (fun k hk => own_base ho1 k hk), hb⟩
abbrev Rp := R0 × (Option Addr × Nat)
def recOf (p : Rp) : Rec := ⟨p.1.f0, p.1.f1, p.1.f2, p.1.f3, p.1.f4, p.1.f5, p.1.f6, p.2.1, p.1.f7.length, p.2.2⟩
def Rp.made (W : World) (base : Nat) (ok : Nat → Prop) (p : Rp) : Prop := (Kd.int .i64).R 3 W base ok (.slice p.2.1 p.1.f7.length p.2.2) p.1.f7
theorem enc_one (x : Rec) : ∀ u ∈ x.enc, u.oneCell' = true := by
  intro u hu
  simp only [Rec.enc, List.mem_cons, List.not_mem_nil, or_false] at hu
  rcases hu with rfl | rfl | rfl | rfl | rfl | rfl | rfl | rfl <;> rfl
theorem encs_at (ps : List Rec) (j : Nat) (x : Rec) (h : ps[j]? = some x) (i : Nat) (hi : i < 8) : (ps.flatMap Rec.enc)[j * 8 + i]? = x.enc[i]? := by
  induction ps generalizing j with
  | nil => simp at h
  | cons a r ih =>
    rw [List.flatMap_cons]
    have ha : (Rec.enc a).length = 8 := rfl
    cases j with
    | zero =>
      obtain rfl : a = x := by simpa using h
      rw [List.getElem?_append_left (by omega)]
      simp
    | succ j =>
      rw [List.getElem?_append_right (by omega), ha, show (j + 1) * 8 + i - 8 = j * 8 + i by omega]
      exact ih j (by simpa using h)
theorem encs_len (ps : List Rec) : (ps.flatMap Rec.enc).length = ps.length * 8 := by
  induction ps with
  | nil => rfl
  | cons a r ih => rw [List.flatMap_cons, List.length_append, ih, List.length_cons]; show 8 + _ = _; omega
theorem rows_of_R {W : World} {base : Nat} {ok : Nat → Prop} {v : Value} {l : List R0} (h : Kd.R k29 29 W base ok v l) :
    ∃ ps : List Rp, ps.map (·.1) = l ∧ W.ownsRow base 29 8 v ps.length ((ps.map recOf).flatMap Rec.enc) ∧ ∀ p ∈ ps, p.made W base (fun k => ok k ∧ some k ≠ v.ownBlock) := by
  obtain ⟨h0, inner, ho, hr⟩ := h
  obtain ⟨ps, hl, hR⟩ := list_of (fun j (p : Rp) => l[j]? = some p.1 ∧ p.made W base (fun k => ok k ∧ some k ≠ v.ownBlock) ∧ (inner.drop (j * 8)).take 8 = (recOf p).enc) l.length (fun j hj => by
    obtain ⟨v7, hc, h7⟩ := k29_openM (hr.2 j l[j] (List.getElem?_eq_getElem hj))
    obtain ⟨A7, c7, rfl⟩ := Kd.R_slice h7
    exact ⟨(l[j], A7, c7), List.getElem?_eq_getElem hj, h7, hc⟩)
  have hm : ps.map (·.1) = l := by
    apply List.ext_getElem?
    intro j
    rw [List.getElem?_map]
    rcases Nat.lt_or_ge j l.length with hj | hj
    · rw [List.getElem?_eq_getElem (show j < ps.length by omega)]
      exact ((hR j _ (List.getElem?_eq_getElem (by omega))).1).symm
    · rw [List.getElem?_eq_none (by omega), List.getElem?_eq_none hj]
      rfl
  have hin : inner.length = l.length * 8 := hr.1
  have he : inner = (ps.map recOf).flatMap Rec.enc := by
    apply List.ext_getElem?
    intro j
    rcases Nat.lt_or_ge j (l.length * 8) with hj | hj
    · have hq : j / 8 < ps.length := by omega
      have hjj : j / 8 * 8 + j % 8 = j := by omega
      have e1 : (ps.map recOf)[j / 8]? = some (recOf ps[j / 8]) := by rw [List.getElem?_map, List.getElem?_eq_getElem hq]; rfl
      have e2 := encs_at (ps.map recOf) (j / 8) _ e1 (j % 8) (by omega)
      rw [hjj] at e2
      rw [e2, ← (hR (j / 8) _ (List.getElem?_eq_getElem hq)).2.2, List.getElem?_take, if_pos (by omega), List.getElem?_drop, hjj]
    · rw [List.getElem?_eq_none (by omega), List.getElem?_eq_none (by rw [encs_len, List.length_map]; omega)]
  refine ⟨ps, hm, ?_, fun p hp => ?_⟩
  · rw [← he, hl]
    exact ho
  · obtain ⟨j, hj, rfl⟩ := List.getElem_of_mem hp
    exact (hR j _ (List.getElem?_eq_getElem hj)).2.1
theorem R_of_rows {W : World} {base : Nat} {ok : Nat → Prop} {v : Value} {ps : List Rp} (h0 : ∀ k, v.ownBlock = some k → ok k) (ho : W.ownsRow base 29 8 v ps.length ((ps.map recOf).flatMap Rec.enc)) (hg : ∀ p ∈ ps, p.made W base (fun k => ok k ∧ some k ≠ v.ownBlock)) :
    Kd.R k29 29 W base ok v (ps.map (·.1)) := by
  refine ⟨h0, (ps.map recOf).flatMap Rec.enc, by rw [List.length_map]; exact ho, by rw [encs_len, List.length_map, List.length_map]; rfl, fun j x hx => ?_⟩
  rw [List.getElem?_map] at hx
  obtain ⟨p, hp, rfl⟩ := Option.map_eq_some_iff.1 hx
  have e : (((ps.map recOf).flatMap Rec.enc).drop (j * 8)).take 8 = (recOf p).enc := by
    apply List.ext_getElem?
    intro i
    rw [List.getElem?_take]
    split
    · rename_i hi
      rw [List.getElem?_drop]
      exact encs_at (ps.map recOf) j (recOf p) (by rw [List.getElem?_map, hp]; rfl) i hi
    · rename_i hi
      rw [List.getElem?_eq_none (by show 8 ≤ i; omega)]
  show k29.M W base _ p.1 ((((ps.map recOf).flatMap Rec.enc).drop (j * 8)).take 8)
  rw [e]
  exact k29_mkM W base _ p.1 (hg p (List.mem_of_getElem? hp))
theorem ssort_map {α β : Type} (f : α → β) {lt : α → α → Bool} {lt' : β → β → Bool} (h : ∀ x y, lt' (f x) (f y) = lt x y) (l : List α) : ssort lt' (l.map f) = (ssort lt l).map f := by
  have hp : ∀ (x : α) (s : List α), put lt' (f x) (s.map f) = (put lt x s).map f := by
    intro x s
    induction s with
    | nil => rfl
    | cons y r ih =>
      simp only [List.map_cons, put, h]
      split
      · rfl
      · rw [ih]; rfl
  unfold ssort
  suffices hs : ∀ (s : List α), (l.map f).foldl (fun s x => put lt' x s) (s.map f) = (l.foldl (fun s x => put lt x s) s).map f from hs []
  induction l with
  | nil => intro s; rfl
  | cons a r ih => intro s; simp only [List.map_cons, List.foldl_cons]; rw [hp]; exact ih _
theorem sort_R (lt : Rec → Rec → Bool) (ltS : R0 → R0 → Bool) (hlt : ∀ x y : Rp, lt (recOf x) (recOf y) = ltS x.1 y.1) (hord : Ord lt) (hcmp : Cmp lt) {W : World} {base : Nat} {ok : Nat → Prop} {v : Value} {l : List R0} (hn : l.length ≤ 100000) (h : Kd.R k29 29 W base ok v l) :
    Calls Try.prog 63 #[v, .func (.func 64) #[] #[]] W fun e w' => e = .returned (.tuple #[]) ∧ Kd.R k29 29 w' base ok v (ssort ltS l) ∧ W.grownBy w' v.ownBlock := by
  obtain ⟨ps, rfl, ho, hg⟩ := rows_of_R h
  have h0 := h.1
  rw [List.length_map] at hn
  have e1 : ssort lt (ps.map recOf) = (ssort (fun x y : Rp => ltS x.1 y.1) ps).map recOf := ssort_map recOf hlt ps
  have e2 : ssort ltS (ps.map (·.1)) = (ssort (fun x y : Rp => ltS x.1 y.1) ps).map (·.1) := ssort_map (·.1) (fun _ _ => rfl) ps
  have hmem : ∀ p ∈ ssort (fun x y : Rp => ltS x.1 y.1) ps, p ∈ ps := fun p hp => by
    have ho : Ord (fun x y : Rp => ltS x.1 y.1) := by
      refine ⟨fun x y h => ?_, fun x y z h1 h2 => ?_⟩
      · rw [← hlt] at h ⊢; exact hord.1 _ _ h
      · rw [← hlt] at h1 h2 ⊢; exact hord.2 _ _ _ h1 h2
    exact ((ssort_stable ho ps).2.1 p).1 hp
  obtain ⟨hl, ⟨rfl, hz⟩ | ⟨g, cap, cur, rfl, hgb, hh, h1, h2, h3, h4⟩⟩ := ho
  · obtain rfl := List.eq_nil_of_length_eq_zero hz
    refine (sort_nil _ 0 W).mono ?_
    rintro e w' ⟨rfl, hb⟩
    exact ⟨rfl, Kd.R_below h hb, grown_of_below hb _⟩
  · refine (sort_calls lt hord hcmp g W g (Nat.le_refl _) cap ps.length (ps.map recOf) (by simp) hn W (Kp.refl _ _) ⟨cur, hh, fun j x hx i hi => ?_⟩).mono ?_
    · have hj := (List.getElem?_eq_some_iff.1 hx).1
      have e := encs_at (ps.map recOf) j x hx i hi
      rw [← e, ← h4, List.getElem?_take, if_pos (by rw [List.length_map] at hj; omega)]
      simp
    · rintro e w' ⟨rfl, hk, cs, hz, hcs⟩
      rw [e1] at hcs
      obtain ⟨cs', hz', hsz⟩ := hk.same _ _ _ hh
      obtain rfl : cs = cs' := by rw [hz] at hz'; injection hz' with hz'; injection hz' with hz' _ _
      have hgr : W.grownBy w' (some g) := ⟨hk.os, hk.tape, hk.output, hk.size, fun k hk1 hk2 => hk.block k hk1 (fun h => hk2 (by rw [h]))⟩
      refine ⟨rfl, ?_, hgr⟩
      rw [e2]
      have hlen : (ssort (fun x y : Rp => ltS x.1 y.1) ps).length = ps.length := ssort_length _
      rw [show (Value.slice (some ⟨g, 0, none⟩) ps.length cap) = .slice (some ⟨g, 0, none⟩) (ssort (fun x y : Rp => ltS x.1 y.1) ps).length cap by rw [hlen]]
      refine R_of_rows h0 ⟨by rw [encs_len, List.length_map], .inr ⟨g, cap, cs, rfl, hgb, hz, by omega, h2, by rw [hsz]; exact h3, ?_⟩⟩ (fun p hp => ?_)
      · apply List.ext_getElem?
        intro j
        rw [List.getElem?_take]
        split
        · rename_i hj
          have hq : j / 8 < (ssort (fun x y : Rp => ltS x.1 y.1) ps).length := by omega
          have hjj : j / 8 * 8 + j % 8 = j := by omega
          have e3 : ((ssort (fun x y : Rp => ltS x.1 y.1) ps).map recOf)[j / 8]? = some (recOf (ssort (fun x y : Rp => ltS x.1 y.1) ps)[j / 8]) := by rw [List.getElem?_map, List.getElem?_eq_getElem hq]; rfl
          have e4 := encs_at _ (j / 8) _ e3 (j % 8) (by omega)
          have e5 := hcs (j / 8) _ e3 (j % 8) (by omega)
          rw [hjj] at e4 e5
          rw [e4, ← e5]
          simp
        · rename_i hj
          rw [List.getElem?_eq_none (by rw [encs_len, List.length_map]; omega)]
      · exact Kd.R_grown (hg p (hmem p hp)) hgr (fun k hk => hk.2)
end Go.Proofs.Ytnopjcakilfepaa.QS
