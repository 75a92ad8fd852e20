import Derived.Test.YtnopjcakilfepaaC16
import Derived.Test.YtnopjcakilfepaaC9
import Derived.Test.YtnopjcakilfepaaHp13
import Derived.Test.YtnopjcakilfepaaHp13
import Derived.Test.YtnopjcakilfepaaHp13
import Derived.Test.YtnopjcakilfepaaHp13
namespace Go.Proofs.Ytnopjcakilfepaa.QS
set_option linter.unusedVariables false
set_option linter.unusedSimpArgs false
open Go.RowKit Go.Proofs.Ytnopjcakilfepaa.SS Go.Proofs.Ytnopjcakilfepaa.Hp Go.Proofs.YtnopjcakilfepaaW.PrintWords Go.Proofs.YtnopjcakilfepaaW.PrintLast Go.Proofs.YtnopjcakilfepaaW.PrintMore
def mk33 (i : Nat) (p n : Int) (b : Bool) : R0 := ⟨(i : Int), 0, p, n, 0, b, 0, []⟩
def Good (all : List R0) : Prop := ∀ i x, all[i]? = some x → ∃ p n b, x = mk33 i p n b ∧ 1 ≤ n ∧ n ≤ 1500
theorem fr_eq {n : Int} (h1 : 1 ≤ n) (h2 : n ≤ 1500) : fr n = (n - 1) / 100 + 1 := by
  unfold fr
  rw [if_neg (by omega)]
  have e : wrap64 (n - 1) = n - 1 := by unfold wrap64; omega
  rw [e, Int.tdiv_eq_ediv_of_nonneg (by omega)]
  have e2 : wrap64 ((n - 1) / 100) = (n - 1) / 100 := by unfold wrap64; omega
  rw [e2]
  unfold wrap64; omega
theorem fr_range {n : Int} (h1 : 1 ≤ n) (h2 : n ≤ 1500) : 1 ≤ fr n ∧ fr n ≤ 15 := by rw [fr_eq h1 h2]; omega
theorem foldF : ∀ (o : List R0) (s : Int), (∀ x ∈ o, 0 ≤ fr x.f3 ∧ fr x.f3 ≤ 15) → 0 ≤ s → s + 15 * (o.length : Int) ≤ 4611686018427387904 → o.foldl (fun n x => IntKind.i64.wrap (n + fr x.f3)) s = s + (o.map fun x => fr x.f3).sum
  | [], s, _, _, _ => by simp
  | x :: r, s, h, h0, hb => by
    have hx := h x (by simp)
    rw [List.length_cons] at hb
    have e : IntKind.i64.wrap (s + fr x.f3) = s + fr x.f3 := by rw [i64_w]; unfold wrap64; omega
    rw [List.foldl_cons, e, foldF r (s + fr x.f3) (fun y hy => h y (by simp [hy])) (by omega) (by omega), List.map_cons, List.sum_cons]
    omega
theorem sumF_eq {o : List R0} (h : ∀ x ∈ o, 0 ≤ fr x.f3 ∧ fr x.f3 ≤ 15) (hl : o.length ≤ 1000) : sumF o = (o.map fun x => fr x.f3).sum := by
  unfold sumF
  rw [foldF o 0 h (by omega) (by omega)]
  omega
theorem put_sum (g : R0 → Int) (lt : R0 → R0 → Bool) (x : R0) : ∀ o : List R0, ((put lt x o).map g).sum = g x + (o.map g).sum
  | [] => by simp [put]
  | y :: r => by
    unfold put
    by_cases h : lt x y = true
    · rw [if_pos h]; simp
    · rw [if_neg h, List.map_cons, List.sum_cons, put_sum g lt x r, List.map_cons, List.sum_cons]; omega
theorem ssort_sum (g : R0 → Int) (lt : R0 → R0 → Bool) (l : List R0) : ((ssort lt l).map g).sum = (l.map g).sum := by
  have hf : ∀ (l s : List R0), ((l.foldl (fun s x => put lt x s) s).map g).sum = (s.map g).sum + (l.map g).sum := by
    intro l
    induction l with
    | nil => intro s; simp
    | cons y r ih => intro s; rw [List.foldl_cons, ih, put_sum, List.map_cons, List.sum_cons]; omega
  have := hf l []
  unfold ssort
  rw [this]
  simp
def tot : List R0 → Int
  | [] => 0
  | x :: r => (if x.f5 = true then 0 else fr x.f3) + tot r
theorem waits_sum : ∀ l : List R0, ((waits l).map fun x => fr x.f3).sum = tot l
  | [] => rfl
  | x :: r => by
    have ih := waits_sum r
    unfold waits at ih ⊢
    unfold tot
    by_cases h : x.f5 = true
    · rw [List.filter_cons_of_neg (by simp [h]), if_pos h, ih]; omega
    · rw [List.filter_cons_of_pos (by simp [h]), if_neg h, List.map_cons, List.sum_cons, ih]
theorem Good.mem {all : List R0} (hg : Good all) {x : R0} (hx : x ∈ all) : ∃ i p n b, all[i]? = some x ∧ x = mk33 i p n b ∧ 1 ≤ n ∧ n ≤ 1500 := by
  obtain ⟨i, hi⟩ := List.getElem?_of_mem hx
  obtain ⟨p, n, b, h1, h2, h3⟩ := hg i x hi
  exact ⟨i, p, n, b, hi, h1, h2, h3⟩
theorem order_mem {l : List R0} {x : R0} : x ∈ orderOf l ↔ x ∈ l ∧ x.f5 = false := by
  unfold orderOf
  rw [(ssort_stable ltS_ord (waits l)).2.1]
  unfold waits
  rw [List.mem_filter]
  simp
theorem order_sum {all : List R0} (hg : Good all) (hl : all.length ≤ 1000) : sumF (orderOf all) = tot all := by
  rw [sumF_eq (fun x hx => by
    obtain ⟨i, p, n, b, _, rfl, h1, h2⟩ := hg.mem (order_mem.1 hx).1
    have := fr_range h1 h2
    exact ⟨by show 0 ≤ fr n; omega, by show fr n ≤ 15; omega⟩) (by have := order_len all; omega)]
  unfold orderOf
  rw [ssort_sum, waits_sum]
def CurOk (all : List R0) (on : Bool) (id I : Int) : Prop := (on = false ∧ id = 0 ∧ I = 0) ∨ (on = true ∧ ∃ (k : Nat) (p n : Int), id = (k : Int) ∧ all[k]? = some (mk33 k p n false) ∧ 0 < I ∧ I < fr n)
theorem mine_off (id I : Int) (l : List R0) : mineOf false id I l = none := by
  unfold mineOf
  rw [List.find?_eq_none]
  intro x _
  simp [mineB]
theorem mine_on {all more : List R0} (hg : Good all) {k : Nat} {p n I : Int} (hk : all[k]? = some (mk33 k p n false)) (h0 : 0 ≤ I) (h1 : I < fr n) : mineOf true (k : Int) I (all ++ more) = some (mk33 k p n false) := by
  have hlt : k < all.length := (List.getElem?_eq_some_iff.1 hk).1
  refine find_at' (i := k) (by rw [List.getElem?_append_left hlt]; exact hk) (fun y hy => ?_) ?_
  · rw [List.take_append_of_le_length (Nat.le_of_lt hlt)] at hy
    obtain ⟨j, hj⟩ := List.getElem?_of_mem hy
    rw [List.getElem?_take] at hj
    by_cases hjk : j < k
    · rw [if_pos hjk] at hj
      obtain ⟨p', n', b', rfl, _, _⟩ := hg j y hj
      have : ((j : Int) == (k : Int)) = false := by simp; omega
      simp [mineB, mk33, this]
    · rw [if_neg hjk] at hj; cases hj
  · have h0' : decide (I ≥ 0) = true := decide_eq_true h0
    have h1' : decide (I < fr n) = true := decide_eq_true h1
    simp [mineB, mk33, h0, h1]
theorem left_eq {all : List R0} (hg : Good all) (hl : all.length ≤ 1000) {on : Bool} {id I : Int} (hc : CurOk all on id I) (htot : tot all ≤ 20000) (h0 : 0 ≤ tot all) : leftOf on id I all = tot all - I := by
  unfold leftOf
  rcases hc with ⟨rfl, rfl, rfl⟩ | ⟨rfl, k, p, n, rfl, hk, hI, hI2⟩
  · rw [mine_off, if_neg (by simp), order_sum hg hl]; omega
  · have hm := mine_on (more := []) hg hk (Int.le_of_lt hI) hI2
    rw [List.append_nil] at hm
    obtain ⟨p', n', b', he, h1, h2⟩ := hg k _ hk
    have hn : n = n' := by simp [mk33] at he; exact he.2.1
    have := fr_range h1 h2
    rw [hm, if_pos (by rfl), order_sum hg hl, i64_w]
    unfold wrap64
    rw [hn] at hI2
    omega
theorem tot_range : ∀ {all : List R0}, (∀ x ∈ all, 0 ≤ fr x.f3 ∧ fr x.f3 ≤ 15) → 0 ≤ tot all ∧ tot all ≤ 15 * (all.length : Int)
  | [], _ => by simp [tot]
  | x :: r, h => by
    have hx := h x (by simp)
    have ih := tot_range (all := r) (fun y hy => h y (by simp [hy]))
    unfold tot
    rw [List.length_cons]
    split <;> omega
theorem Good.frs {all : List R0} (hg : Good all) : ∀ x ∈ all, 0 ≤ fr x.f3 ∧ fr x.f3 ≤ 15 := fun x hx => by
  obtain ⟨i, p, n, b, _, rfl, h1, h2⟩ := hg.mem hx
  have := fr_range h1 h2
  exact ⟨by show 0 ≤ fr n; omega, by show fr n ≤ 15; omega⟩
theorem tot_ge : ∀ {all : List R0} {k : Nat} {x : R0}, (∀ x ∈ all, 0 ≤ fr x.f3 ∧ fr x.f3 ≤ 15) → all[k]? = some x → x.f5 = false → fr x.f3 ≤ tot all
  | [], k, x, _, h, _ => by simp at h
  | y :: r, 0, x, hf, h, hx => by
    obtain rfl : y = x := by simpa using h
    have := (tot_range (all := r) (fun z hz => hf z (by simp [hz]))).1
    unfold tot
    rw [hx]
    simp
    omega
  | y :: r, k + 1, x, hf, h, hx => by
    have ih := tot_ge (all := r) (k := k) (fun z hz => hf z (by simp [hz])) (by simpa using h) hx
    have := hf y (by simp)
    unfold tot
    split <;> omega
theorem tot_set : ∀ {all : List R0} {k : Nat} {x y : R0}, all[k]? = some x → x.f5 = false → y.f5 = true → tot (all.set k y) = tot all - fr x.f3
  | [], k, x, y, h, _, _ => by simp at h
  | z :: r, 0, x, y, h, hx, hy => by
    obtain rfl : z = x := by simpa using h
    rw [List.set_cons_zero]
    unfold tot
    rw [hx, hy]
    simp
    omega
  | z :: r, k + 1, x, y, h, hx, hy => by
    have ih := tot_set (all := r) (k := k) (y := y) (by simpa using h) hx hy
    rw [List.set_cons_succ]
    unfold tot
    rw [ih]
    omega
theorem Good.set {all : List R0} (hg : Good all) {k : Nat} {p n : Int} {b : Bool} (hk : all[k]? = some (mk33 k p n b)) (b' : Bool) : Good (all.set k (mk33 k p n b')) := fun i x hx => by
  rw [List.getElem?_set] at hx
  by_cases h : k = i
  · subst h
    rw [if_pos rfl, if_pos (List.getElem?_eq_some_iff.1 hk).1] at hx
    obtain ⟨p', n', b'', he, h1, h2⟩ := hg k _ hk
    have hn : n = n' := by simp [mk33] at he; exact he.2.1
    exact ⟨p, n, b', (Option.some.inj hx).symm, by omega, by omega⟩
  · rw [if_neg h] at hx; exact hg i x hx
theorem order_none {all : List R0} (hg : Good all) (h : tot all = 0) : orderOf all = [] := by
  cases ho : orderOf all with
  | nil => rfl
  | cons x r =>
    have hx := order_mem.1 (show x ∈ orderOf all by rw [ho]; simp)
    obtain ⟨i, p, n, b, hi, rfl, h1, h2⟩ := hg.mem hx.1
    have := tot_ge hg.frs hi hx.2
    have h3 := fr_range h1 h2
    have : fr (mk33 i p n b).f3 = fr n := rfl
    omega
theorem CurOk.tot {all : List R0} (hg : Good all) {on : Bool} {id I : Int} (hc : CurOk all on id I) : 0 ≤ I ∧ I ≤ tot all ∧ (I = QS.tot all → on = false ∧ id = 0 ∧ I = 0) := by
  have h0 := (tot_range hg.frs).1
  rcases hc with ⟨rfl, rfl, rfl⟩ | ⟨rfl, k, p, n, rfl, hk, hI, hI2⟩
  · exact ⟨Int.le_refl _, h0, fun _ => ⟨rfl, rfl, rfl⟩⟩
  · have := tot_ge hg.frs hk rfl
    have e : fr (mk33 k p n false).f3 = fr n := rfl
    exact ⟨by omega, by omega, fun h => by omega⟩
def StepAt (all : List R0) (on : Bool) (id I : Int) : Prop :=
  ∃ (k : Nat) (p n : Int), all[k]? = some (mk33 k p n false) ∧ 1 ≤ n ∧ n ≤ 1500 ∧ 0 ≤ I ∧ I < fr n ∧ nextOf on false id I all = (mk33 k p n false, I, true) ∧ (on = true → id = (k : Int)) ∧
    ((I + 1 = fr n ∧ stepOf on false id I all = (false, false, 0, 0, true)) ∨ (I + 1 < fr n ∧ stepOf on false id I all = (true, false, (k : Int), I + 1, false)))
theorem step_law {all : List R0} (hg : Good all) {on : Bool} {id I : Int} (hc : CurOk all on id I) (hpos : 0 < tot all - I) : StepAt all on id I := by
  have main : ∀ (k : Nat) (p n : Int), all[k]? = some (mk33 k p n false) → 1 ≤ n → n ≤ 1500 → 0 ≤ I → I < fr n → nextOf on false id I all = (mk33 k p n false, I, true) → (on = true → id = (k : Int)) → StepAt all on id I := fun k p n hk h1 h2 h3 h4 h5 h6 => by
    refine ⟨k, p, n, hk, h1, h2, h3, h4, h5, h6, ?_⟩
    have hr := fr_range h1 h2
    have e : IntKind.i64.wrap (I + 1) = I + 1 := by rw [i64_w]; unfold wrap64; omega
    unfold stepOf
    rw [h5]
    simp only [e, Bool.true_eq_false, if_false]
    by_cases h : I + 1 = fr n
    · exact .inl ⟨h, by rw [if_pos (show I + 1 ≥ fr (mk33 k p n false).f3 from by show I + 1 ≥ fr n; omega)]⟩
    · exact .inr ⟨by omega, by rw [if_neg (show ¬ I + 1 ≥ fr (mk33 k p n false).f3 from by show ¬ I + 1 ≥ fr n; omega)]; rfl⟩
  rcases hc with ⟨rfl, rfl, rfl⟩ | ⟨rfl, k, p, n, rfl, hk, hI, hI2⟩
  · cases ho : orderOf all with
    | nil =>
      have hw : waits all = [] := by
        have : (orderOf all).length = (waits all).length := by unfold orderOf; exact ssort_length _
        rw [ho] at this
        exact List.eq_nil_of_length_eq_zero this.symm
      have := waits_sum all
      rw [hw] at this
      simp at this
      omega
    | cons x r =>
      have hx := order_mem.1 (show x ∈ orderOf all by rw [ho]; simp)
      obtain ⟨i, p, n, b, hi, rfl, h1, h2⟩ := hg.mem hx.1
      obtain rfl : b = false := hx.2
      have hr := fr_range h1 h2
      refine main i p n hi h1 h2 (Int.le_refl _) (by omega) ?_ (fun h => by cases h)
      unfold nextOf
      rw [mine_off, ho]
      rfl
  · obtain ⟨p', n', b', he, h1, h2⟩ := hg k _ hk
    have hn : n = n' := by simp [mk33] at he; exact he.2.1
    have hm := mine_on (more := []) hg hk (Int.le_of_lt hI) hI2
    rw [List.append_nil] at hm
    refine main k p n hk (by omega) (by omega) (Int.le_of_lt hI) hI2 ?_ (fun _ => rfl)
    unfold nextOf
    rw [hm]
    rfl
theorem next_on {all more : List R0} (hg : Good all) {k : Nat} {p n I : Int} (hk : all[k]? = some (mk33 k p n false)) (h0 : 0 ≤ I) (h1 : I < fr n) : nextOf true false (k : Int) I (all ++ more) = (mk33 k p n false, I, true) := by
  unfold nextOf
  rw [mine_on hg hk h0 h1]
  rfl
theorem next_end {all : List R0} (hg : Good all) (h : tot all = 0) : (nextOf false false 0 0 all).2.2 = false := by
  unfold nextOf
  rw [mine_off, order_none hg h]
  rfl
end Go.Proofs.Ytnopjcakilfepaa.QS
namespace Go.Proofs.Ytnopjcakilfepaa.QS
set_option linter.unusedVariables false
set_option linter.unusedSimpArgs false
open Go.RowKit Go.Proofs.Ytnopjcakilfepaa.SS Go.Proofs.Ytnopjcakilfepaa.Hp Go.Proofs.YtnopjcakilfepaaW.PrintWords Go.Proofs.YtnopjcakilfepaaW.PrintLast Go.Proofs.YtnopjcakilfepaaW.PrintMore
theorem rd33 (l : List R0) (i : Nat) (h : i < l.length) : rd_T29 l (i : Int) = l[i] := by
  unfold rd_T29
  rw [Int.toNat_natCast, List.getD_eq_getElem?_getD, List.getElem?_eq_getElem h]
  rfl
def light33B (l : List R0) : Bool := (l.all fun x => decide (x.f7.length ≤ 60) && decide (x.f3 ≤ 100000)) && decide (l.length ≤ 40)
theorem ev_light33 (l : List R0) (hm : l.length ≤ 9223372036854775807) : ∀ (d i : Nat), i + d = l.length → Ev (fun k => wagtaillaw33_light.l0 k l (i : Int)) (((l.drop i).all fun x => decide (x.f7.length ≤ 60) && decide (x.f3 ≤ 100000)) && decide (l.length ≤ 40))
  | 0, i, hd => by
    refine Ev.step (f := fun k => some (decide ((l.length : Int) ≤ 40))) (fun k => ?_) ?_
    · simp only [wagtaillaw33_light.l0]
      rw [if_neg (by omega)]
    · rw [List.drop_of_length_le (by omega), List.all_nil, Bool.true_and, show decide (l.length ≤ 40) = decide ((l.length : Int) ≤ 40) by congr 1; apply propext; omega]
      exact Ev.now _
  | d + 1, i, hd => by
    have hi : i < l.length := by omega
    have e2 : wrap64 ((i : Int) + 1) = ((i + 1 : Nat) : Int) := by unfold wrap64; omega
    refine Ev.step (f := fun k => if ((l[i].f7).length : Int) > 60 then some false else if l[i].f3 > 100000 then some false else wagtaillaw33_light.l0 k l ((i + 1 : Nat) : Int)) (fun k => ?_) ?_
    · simp only [wagtaillaw33_light.l0]
      rw [if_pos (by omega), if_pos (by omega), rd33 l i hi, e2]
    · rw [List.drop_eq_getElem_cons hi]
      by_cases hx : ((l[i].f7).length : Int) > 60
      · refine Ev.congr (fun k => if_pos hx) ?_
        rw [List.all_cons, decide_eq_false (show ¬ (l[i].f7).length ≤ 60 by omega), Bool.false_and, Bool.false_and, Bool.false_and]
        exact Ev.now _
      · refine Ev.congr (fun k => if_neg hx) ?_
        by_cases hy : l[i].f3 > 100000
        · refine Ev.congr (fun k => if_pos hy) ?_
          rw [List.all_cons, decide_eq_false (show ¬ l[i].f3 ≤ 100000 by omega), Bool.and_false, Bool.false_and, Bool.false_and]
          exact Ev.now _
        · refine Ev.congr (fun k => if_neg hy) ?_
          rw [List.all_cons, decide_eq_true (show (l[i].f7).length ≤ 60 by omega), decide_eq_true (show l[i].f3 ≤ 100000 by omega), Bool.true_and, Bool.true_and]
          exact ev_light33 l hm d (i + 1) (by omega)
theorem light33_calls (l : List R0) (A : Option Addr) (cp : Nat) (hcp : l.length ≤ cp) (W : World) (hC : Kd.C k29 W A l.length l) (hm : l.length ≤ 9223372036854775807) :
    Calls Try.prog 42 #[.slice A l.length cp] W fun e w' => e = .returned (.bool (light33B l)) ∧ Below W.heap.size W w' := by
  obtain ⟨K, hK⟩ := ev_light33 l hm l.length 0 (by omega)
  refine (wagtaillaw33_light.calls K A cp l _ W hC hcp (hK K (Nat.le_refl _))).mono ?_
  rintro e w' ⟨rfl, ⟨n, rfl⟩⟩
  exact ⟨rfl, pw_below_drewN (Below.refl _ _) n⟩
theorem light33_L {l : List R0} (h : light33B l = true) : l.length ≤ 40 := by
  unfold light33B at h
  simp only [Bool.and_eq_true, decide_eq_true_eq] at h
  exact h.2
def low33 (n : Int) : Int := if n < 1500 then n else 1500
def len33 (n : Int) : Int := if low33 n > 1 then low33 n else 1
theorem len33_range (n : Int) : 1 ≤ len33 n ∧ len33 n ≤ 1500 := by unfold len33 low33; split <;> split <;> (try split) <;> omega
theorem low33_calls (n : Int) (W : World) : Calls Try.prog 44 #[.int .i64 n, .int .i64 1500] W fun e w' => e = .returned (.int .i64 (low33 n)) ∧ Below W.heap.size W w' := by
  refine (wagtailref01_Low.calls n 1500 (low33 n) W (by unfold wagtailref01_Low.f low33; split <;> rfl)).mono ?_
  rintro e w' ⟨rfl, h⟩
  exact ⟨rfl, h.below⟩
theorem high33_calls (n : Int) (W : World) : Calls Try.prog 43 #[.int .i64 (low33 n), .int .i64 1] W fun e w' => e = .returned (.int .i64 (len33 n)) ∧ Below W.heap.size W w' := by
  refine (wagtailref01_High.calls (low33 n) 1 (len33 n) W (by unfold wagtailref01_High.f len33; split <;> rfl)).mono ?_
  rintro e w' ⟨rfl, h⟩
  exact ⟨rfl, h.below⟩
def allOf (l : List R0) : List R0 := l.mapIdx fun i x => mk33 i x.f2 (len33 x.f3) x.f5
theorem allOf_len (l : List R0) : (allOf l).length = l.length := by unfold allOf; exact List.length_mapIdx
theorem allOf_at {l : List R0} {i : Nat} {x : R0} (h : l[i]? = some x) : (allOf l)[i]? = some (mk33 i x.f2 (len33 x.f3) x.f5) := by unfold allOf; rw [List.getElem?_mapIdx, h]; rfl
theorem allOf_good (l : List R0) : Good (allOf l) := fun i x hx => by
  unfold allOf at hx
  rw [List.getElem?_mapIdx] at hx
  obtain ⟨y, _, rfl⟩ := Option.map_eq_some_iff.1 hx
  exact ⟨_, _, _, rfl, (len33_range _).1, (len33_range _).2⟩
def rowP (o : List R0) : List Rp := o.map fun x => (x, none, 0)
def encP (o : List R0) : List Value := ((rowP o).map recOf).flatMap Rec.enc
theorem encP_succ {o : List R0} {i : Nat} {x : R0} (h : o[i]? = some x) : encP (o.take (i + 1)) = encP (o.take i) ++ (recOf (x, none, 0)).enc := by
  unfold encP rowP
  rw [List.take_add_one, h, List.map_append, List.map_append, List.flatMap_append]
  simp
end Go.Proofs.Ytnopjcakilfepaa.QS
namespace Go.Proofs.Ytnopjcakilfepaa.QS
set_option linter.unusedVariables false
set_option linter.unusedSimpArgs false
open Go.RowKit Go.Proofs.Ytnopjcakilfepaa.SS Go.Proofs.Ytnopjcakilfepaa.Hp Go.Proofs.YtnopjcakilfepaaW.PrintWords Go.Proofs.YtnopjcakilfepaaW.PrintLast Go.Proofs.YtnopjcakilfepaaW.PrintMore
theorem ev_frames27 {n : Int} (h1 : 1 ≤ n) (h2 : n ≤ 1500) : ∀ (d : Nat) (x : Int), 0 ≤ x → x + (d : Int) = fr n → Ev (fun k => wagtailref27_Frames.l0 k n x) (fr n)
  | 0, x, h0, hd => by
    have hf := fr_eq h1 h2
    have e : wrap64 (100 * x) = 100 * x := by unfold wrap64; omega
    refine Ev.step (f := fun k => some x) (fun k => ?_) ?_
    · simp only [wagtailref27_Frames.l0]
      rw [e, if_neg (by omega)]
    · rw [show fr n = x by omega]; exact Ev.now _
  | d + 1, x, h0, hd => by
    have hf := fr_eq h1 h2
    have e : wrap64 (100 * x) = 100 * x := by unfold wrap64; omega
    have e2 : wrap64 (x + 1) = x + 1 := by unfold wrap64; omega
    refine Ev.step (f := fun k => wagtailref27_Frames.l0 k n (x + 1)) (fun k => ?_) ?_
    · simp only [wagtailref27_Frames.l0]
      rw [e, if_pos (by omega), if_pos (by omega), e2]
    · exact ev_frames27 h1 h2 d (x + 1) (by omega) (by omega)
theorem frames27_calls {n : Int} (h1 : 1 ≤ n) (h2 : n ≤ 1500) (W : World) : Calls Try.prog 25 #[.int .i64 n] W fun e w' => e = .returned (.int .i64 (fr n)) ∧ Below W.heap.size W w' := by
  have hr := fr_range h1 h2
  obtain ⟨K, hK⟩ := ev_frames27 h1 h2 (fr n).toNat 0 (Int.le_refl _) (by omega)
  refine (wagtailref27_Frames.calls K n _ W (hK K (Nat.le_refl _))).mono ?_
  rintro e w' ⟨rfl, h⟩
  exact ⟨rfl, h.below⟩
theorem Good.light {all : List R0} (hg : Good all) (hl : all.length ≤ 1000) : lightL all := ⟨hl, fun x hx => by
  obtain ⟨i, p, n, b, _, rfl, _, _⟩ := hg.mem hx
  exact Nat.zero_le _⟩
theorem encP_len (o : List R0) : (encP o).length = o.length * 8 := by unfold encP rowP; rw [encs_len]; simp
theorem encP_at {o : List R0} {i : Nat} {x : R0} (h : o[i]? = some x) {j : Nat} (hj : j < 8) : (encP o)[i * 8 + j]? = (recOf (x, none, 0)).enc[j]? :=
  encs_at ((rowP o).map recOf) i _ (by unfold rowP; rw [List.getElem?_map, List.getElem?_map, h]; rfl) j hj
theorem encP_set {o : List R0} {k : Nat} (hk : k < o.length) (y : R0) :
    ((((((((encP o).set (k * 8) (.int .u64 y.f0)).set (k * 8 + 1) (.int .u64 y.f1)).set (k * 8 + 2) (.int .i64 y.f2)).set (k * 8 + 3) (.int .i64 y.f3)).set (k * 8 + 4) (.int .u64 y.f4)).set (k * 8 + 5) (.bool y.f5)).set (k * 8 + 6) (.int .i64 y.f6)).set (k * 8 + 7) (.slice none y.f7.length 0) = encP (o.set k y) := by
  have hlen := encP_len o
  apply List.ext_getElem?
  intro q
  by_cases hq : q < o.length * 8
  · have hqj : q = q / 8 * 8 + q % 8 := by omega
    have hj : q % 8 < 8 := by omega
    have hi : q / 8 < o.length := by omega
    generalize q / 8 = i at hqj hi
    generalize q % 8 = j at hqj hj
    subst hqj
    by_cases hik : i = k
    · subst hik
      rw [encP_at (x := y) (by rw [List.getElem?_set_self hi]) hj]
      rcases (by omega : j = 0 ∨ j = 1 ∨ j = 2 ∨ j = 3 ∨ j = 4 ∨ j = 5 ∨ j = 6 ∨ j = 7) with h | h | h | h | h | h | h | h <;> subst h <;> simp [List.getElem?_set, hlen] <;> first | rfl | (intro hh; omega) | (rw [if_pos (by omega)]; rfl)
    · rw [encP_at (o := o.set k y) (x := o[i]) (by rw [List.getElem?_set_ne (by omega), List.getElem?_eq_getElem hi]) hj]
      rw [List.getElem?_set_ne (by omega), List.getElem?_set_ne (by omega), List.getElem?_set_ne (by omega), List.getElem?_set_ne (by omega), List.getElem?_set_ne (by omega), List.getElem?_set_ne (by omega), List.getElem?_set_ne (by omega), List.getElem?_set_ne (by omega)]
      exact encP_at (List.getElem?_eq_getElem hi) hj
  · rw [List.getElem?_eq_none (by simp [hlen]; omega), List.getElem?_eq_none (by rw [encP_len, List.length_set]; omega)]
theorem row_put8 {W : World} {base g n cap : Nat} {o : List R0} (ho : W.ownsRow base 29 8 (.slice (some ⟨g, 0, none⟩) n cap) n (encP o)) {k : Nat} (hk : k < o.length) (y : R0) :
    ((((((((W.setCell ⟨g, k * 8, none⟩ (.int .u64 y.f0)).setCell ⟨g, k * 8 + 1, none⟩ (.int .u64 y.f1)).setCell ⟨g, k * 8 + 2, none⟩ (.int .i64 y.f2)).setCell ⟨g, k * 8 + 3, none⟩ (.int .i64 y.f3)).setCell ⟨g, k * 8 + 4, none⟩ (.int .u64 y.f4)).setCell ⟨g, k * 8 + 5, none⟩ (.bool y.f5)).setCell ⟨g, k * 8 + 6, none⟩ (.int .i64 y.f6)).setCell ⟨g, k * 8 + 7, none⟩ (.slice none y.f7.length 0)).ownsRow base 29 8 (.slice (some ⟨g, 0, none⟩) n cap) n (encP (o.set k y)) ∧ W.grownBy ((((((((W.setCell ⟨g, k * 8, none⟩ (.int .u64 y.f0)).setCell ⟨g, k * 8 + 1, none⟩ (.int .u64 y.f1)).setCell ⟨g, k * 8 + 2, none⟩ (.int .i64 y.f2)).setCell ⟨g, k * 8 + 3, none⟩ (.int .i64 y.f3)).setCell ⟨g, k * 8 + 4, none⟩ (.int .u64 y.f4)).setCell ⟨g, k * 8 + 5, none⟩ (.bool y.f5)).setCell ⟨g, k * 8 + 6, none⟩ (.int .i64 y.f6)).setCell ⟨g, k * 8 + 7, none⟩ (.slice none y.f7.length 0)) (some g) := by
  have h0 := World.ownsRow.stored ho (k * 8) (.int .u64 y.f0)
  have h1 := World.ownsRow.stored h0.1 (k * 8 + 1) (.int .u64 y.f1)
  have h2 := World.ownsRow.stored h1.1 (k * 8 + 2) (.int .i64 y.f2)
  have h3 := World.ownsRow.stored h2.1 (k * 8 + 3) (.int .i64 y.f3)
  have h4 := World.ownsRow.stored h3.1 (k * 8 + 4) (.int .u64 y.f4)
  have h5 := World.ownsRow.stored h4.1 (k * 8 + 5) (.bool y.f5)
  have h6 := World.ownsRow.stored h5.1 (k * 8 + 6) (.int .i64 y.f6)
  have h7 := World.ownsRow.stored h6.1 (k * 8 + 7) (.slice none y.f7.length 0)
  refine ⟨by rw [← encP_set hk y]; exact h7.1, ?_⟩
  exact ((((((h0.2.trans h1.2).trans h2.2).trans h3.2).trans h4.2).trans h5.2).trans h6.2).trans h7.2
theorem encP_C {all : List R0} (hg : Good all) (hl : all.length ≤ 1000) {W : World} {base : Nat} {v : Value} (ho : W.ownsRow base 29 8 v all.length (encP all)) : ∃ A c, v = .slice A all.length c ∧ all.length ≤ c ∧ Kd.C k29 W A all.length all := by
  have hm : (rowP all).map (·.1) = all := by unfold rowP; rw [List.map_map]; exact List.map_id _
  have hlen : (rowP all).length = all.length := by unfold rowP; rw [List.length_map]
  have ho' : W.ownsRow base 29 8 v (rowP all).length (((rowP all).map recOf).flatMap Rec.enc) := by rw [hlen]; exact ho
  obtain ⟨A, c, h1, h2, h3⟩ := own_C ho' (fun p hp => by
    unfold rowP at hp
    obtain ⟨x, hx, rfl⟩ := List.mem_map.1 hp
    obtain ⟨i, p', n, b, _, rfl, _, _⟩ := hg.mem hx
    exact ⟨Nat.le_refl _, Kd.C_nil _ _⟩) (by omega)
  rw [hm] at h3
  rw [hlen] at h1 h2
  exact ⟨A, c, h1, h2, h3⟩
theorem app_wp {P : Program} {ops : Array Oper} {rest : List Oper} {o : Oper} {a : Act} {w w' : World} {Q : Exit → Act → World → Prop} (hgd : o.guard = none) (s x : Operand) (t : TypeId)
    (ho : o.op = .call { callee := .builtin .append, args := #[s, x], argTypes := #[t, t] }) {v xv v' : Value} (hs : a.eval s = v) (hx : a.eval x = xv)
    (hr : (Builtin.append_ #[t, t] o.type #[v, xv]).run P w = .ok v' w') (h : wpList P ops Q rest (a.put o.dst v') w') : wpList P ops Q (o :: rest) a w := by
  refine wpList_plain hgd fun K hK => ?_
  unfold Oper.wp execOp
  simp only [ho, resolve, invoke, builtin, Sem.run_bind, Sem.run_pure, Result.andThen_ok, List.map_toArray, List.map_cons, List.map_nil, hs, hx, hr]
  exact hK _ _ h
end Go.Proofs.Ytnopjcakilfepaa.QS
namespace Go.Proofs.Ytnopjcakilfepaa.QS
set_option linter.unusedVariables false
set_option linter.unusedSimpArgs false
open Go.RowKit Go.Proofs.Ytnopjcakilfepaa.SS Go.Proofs.Ytnopjcakilfepaa.Hp Go.Proofs.YtnopjcakilfepaaW.PrintWords Go.Proofs.YtnopjcakilfepaaW.PrintLast Go.Proofs.YtnopjcakilfepaaW.PrintMore
theorem encP_append (a b : List R0) : encP (a ++ b) = encP a ++ encP b := by unfold encP rowP; rw [List.map_append, List.map_append, List.flatMap_append]
def extra33 : R0 := ⟨1000, 0, 9, 1, 0, false, 0, []⟩
theorem all_app {W0 : World} {base0 : Nat} {all : List R0} {A : Option Addr} {c : Nat} (ho : W0.ownsRow base0 29 8 (.slice A all.length c) all.length (encP all)) (hl : all.length ≤ 1000) (base : Nat) (W : World) (hW : Below W0.heap.size W0 W) (hb : base ≤ W.heap.size) (g : Nat) (hg : W.ownsRow base 29 8 (.slice (some ⟨g, 0, none⟩) 0 0) 0 []) :
    ∃ v' w', (Builtin.append_ #[22, 22] 22 #[.slice (some ⟨g, 0, none⟩) 0 0, .slice A all.length c]).run Try.prog W = .ok v' w' ∧ w'.ownsRow base 29 8 v' all.length (encP all) ∧ Below W.heap.size W w' ∧ (v'.ownBlock = some g ∨ v'.ownBlock = some W.heap.size) := by
  refine app_empty base 22 g hg A all.length c (encP all) (encP_len all) ?_ ?_ ?_ (by omega) hb
  · intro hA
    rcases Nat.eq_zero_or_pos all.length with h | h
    · exact h
    · obtain ⟨g', cap, hv, _, _⟩ := ho.form h
      injection hv with h1
      rw [hA] at h1
      cases h1
  · intro ad had j u hu
    have hj := (List.getElem?_eq_some_iff.1 hu).1
    rw [encP_len] at hj
    obtain ⟨g', cap, hv, _, _⟩ := ho.form (by omega)
    injection hv with h1
    rw [had] at h1
    injection h1 with h1
    subst h1
    exact pw_cell_below hW (ho.cells (g := g') (by rw [had]; rfl) j u hu)
  · intro u hu
    unfold encP at hu
    obtain ⟨x, _, hx⟩ := List.mem_flatMap.1 hu
    exact enc_one x u hx
theorem snoc_app {W : World} {base : Nat} {all : List R0} {v : Value} {gx : Nat} (ho : W.ownsRow base 29 8 v all.length (encP all)) (hz : W.heap[gx]? = some (.cells #[.int .u64 1000, .int .u64 0, .int .i64 9, .int .i64 1, .int .u64 0, .bool false, .int .i64 0, .slice none 0 0] 29 (0, 0))) (hl : all.length ≤ 1000) (hb : base ≤ W.heap.size) :
    ∃ v' w', (Builtin.append_ #[22, 22] 22 #[v, .slice (some ⟨gx, 0, none⟩) 1 1]).run Try.prog W = .ok v' w' ∧ w'.ownsRow base 29 8 v' (all.length + 1) (encP (all ++ [extra33])) ∧ W.grownBy w' v.ownBlock := by
  obtain ⟨v', w', h1, h2, h3, _⟩ := app_own base 22 v all.length _ ho ⟨gx, 0, none⟩ 1 1 (recOf (extra33, none, 0)).enc rfl (fun j u hu => by rw [add_plain, blk_cell hz, ← hu]; show ((recOf (extra33, none, 0)).enc.toArray)[j]? = _; rw [List.getElem?_toArray]) (enc_one _) (by omega) hb
  exact ⟨v', w', h1, by rw [encP_append]; simpa [encP, rowP] using h2, h3⟩
theorem encP_C0 {all : List R0} (hg : ∀ x ∈ all, x.f7 = []) (hl : all.length ≤ 1001) {W : World} {base n : Nat} (hn : n = all.length) {v : Value} (ho : W.ownsRow base 29 8 v n (encP all)) : ∃ A c, v = .slice A all.length c ∧ all.length ≤ c ∧ Kd.C k29 W A all.length all := by
  subst hn
  have hm : (rowP all).map (·.1) = all := by unfold rowP; rw [List.map_map]; exact List.map_id _
  have hlen : (rowP all).length = all.length := by unfold rowP; rw [List.length_map]
  have ho' : W.ownsRow base 29 8 v (rowP all).length (((rowP all).map recOf).flatMap Rec.enc) := by rw [hlen]; exact ho
  obtain ⟨A, c, h1, h2, h3⟩ := own_C ho' (fun p hp => by
    unfold rowP at hp
    obtain ⟨x, hx, rfl⟩ := List.mem_map.1 hp
    obtain ⟨y0, y1, y2, y3, y4, y5, y6, y7⟩ := x
    obtain rfl := hg _ hx
    exact ⟨Nat.le_refl _, Kd.C_nil _ _⟩) (by omega)
  rw [hm] at h3
  rw [hlen] at h1 h2
  exact ⟨A, c, h1, h2, h3⟩
theorem extra_next {all : List R0} (hg : Good all) (hl : all.length ≤ 900) {k : Nat} {p q I : Int} (hk : all[k]? = some (mk33 k p q false)) (h0 : 0 ≤ I) (h1 : I < fr q) {rn : R0} (hrn : rn = mk33 k p q false) (W : World) {base : Nat} (A : Option Addr) (c : Nat) (ho : W.ownsRow base 29 8 (.slice A (all.length + 1) c) (all.length + 1) (encP (all ++ [extra33]))) :
    Calls Try.prog 46 #[.agg #[.bool true, .bool false, .int .u64 (k : Int), .int .i64 I], .slice A (all.length + 1) c] W fun e w' => ∃ (A7 : Option Addr) (c7 : Nat), e = .returned (.tuple #[.agg #[.int .u64 rn.f0, .int .u64 rn.f1, .int .i64 rn.f2, .int .i64 rn.f3, .int .u64 rn.f4, .bool rn.f5, .int .i64 rn.f6, .slice A7 rn.f7.length c7], .int .i64 I, .bool true]) ∧ Below W.heap.size W w' := by
  have hlen : (all ++ [extra33]).length = all.length + 1 := by rw [List.length_append]; rfl
  have hf : ∀ x ∈ all ++ [extra33], x.f7 = [] := fun x hx => by
    rcases List.mem_append.1 hx with h | h
    · obtain ⟨i, p', n, b, _, rfl, _, _⟩ := hg.mem h
      rfl
    · rw [List.mem_singleton.1 h]; rfl
  obtain ⟨A', c', hv, hc', hC⟩ := encP_C0 hf (by rw [hlen]; omega) hlen.symm ho
  injection hv with e1 _ e3
  subst e1
  subst e3
  have := cnext_calls (all ++ [extra33]) ⟨by rw [hlen]; omega, fun x hx => by rw [hf x hx]; exact Nat.zero_le _⟩ true false (k : Int) I A c W hC
  rw [hlen] at this
  refine this.mono ?_
  rintro e w' ⟨A7, c7, x, i, b, hno, he, _, _, hb⟩
  rw [next_on hg hk h0 h1] at hno
  injection hno with e1 hno
  injection hno with e2 e3
  subst e1 e2 e3
  exact ⟨A7, c7, by rw [he, hrn], hb⟩
theorem put4 {g N : Nat} {w0 W : World} {y0 y1 y2 y3 : Value} (a b : Bool) (c d : Int) (hz : W.heap[g]? = some (.cells #[y0, y1, y2, y3] 65 (0, 0))) (hN : N ≤ g) (hb2 : Below N w0 W) :
    Below N w0 ((((W.setCell ⟨g, 0, none⟩ (.bool a)).setCell ⟨g, 1, none⟩ (.bool b)).setCell ⟨g, 2, none⟩ (.int .u64 c)).setCell ⟨g, 3, none⟩ (.int .i64 d)) ∧
    ((((W.setCell ⟨g, 0, none⟩ (.bool a)).setCell ⟨g, 1, none⟩ (.bool b)).setCell ⟨g, 2, none⟩ (.int .u64 c)).setCell ⟨g, 3, none⟩ (.int .i64 d)).heap[g]? = some (.cells #[.bool a, .bool b, .int .u64 c, .int .i64 d] 65 (0, 0)) := by
  have h0 := blk_put hz 0 (.bool a) (cs' := #[.bool a, y1, y2, y3]) rfl
  have h1 := blk_put h0 1 (.bool b) (cs' := #[.bool a, .bool b, y2, y3]) rfl
  have h2 := blk_put h1 2 (.int .u64 c) (cs' := #[.bool a, .bool b, .int .u64 c, y3]) rfl
  have h3 := blk_put h2 3 (.int .i64 d) (cs' := #[.bool a, .bool b, .int .u64 c, .int .i64 d]) rfl
  exact ⟨(((hb2.setCell (p := ⟨g, 0, none⟩) hN _).setCell (p := ⟨g, 1, none⟩) hN _).setCell (p := ⟨g, 2, none⟩) hN _).setCell (p := ⟨g, 3, none⟩) hN _, h3⟩
theorem encP_cell {W : World} {base g n cap : Nat} {o : List R0} (ho : W.ownsRow base 29 8 (.slice (some ⟨g, 0, none⟩) n cap) n (encP o)) {k : Nat} {x : R0} (hk : o[k]? = some x) (j : Nat) {u : Value} (hu : (recOf (x, none, 0)).enc[j]? = some u) : W.cell? ⟨g, k * 8 + j, none⟩ = some u := by
  have hj : j < 8 := (List.getElem?_eq_some_iff.1 hu).1
  have := ho.cells (g := g) rfl (k * 8 + j) u (by rw [encP_at hk hj]; exact hu)
  rwa [add_plain] at this
end Go.Proofs.Ytnopjcakilfepaa.QS
