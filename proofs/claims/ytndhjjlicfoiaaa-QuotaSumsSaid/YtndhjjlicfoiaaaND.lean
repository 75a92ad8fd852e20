/- quota.Needed: the walk by hand, and its plain meaning. -/
import Derived.Test.YtndhjjlicfoiaaaN1
import Derived.Test.YtndhjjlicfoiaaaCA
import Derived.Test.YtndhjjlicfoiaaaQU
import Derived.Test.YtndhjjlicfoiaaaHp3
namespace Go.Proofs.Ytndhjjlicfoiaaa.QS
set_option linter.unusedVariables false
set_option linter.unusedSimpArgs false
open Go.RowKit Go.Proofs.Ytndhjjlicfoiaaa.SS Go.Proofs.Ytndhjjlicfoiaaa.QU Go.Proofs.Ytndhjjlicfoiaaa.Hp Go.Proofs.YtndhjjlicfoiaaaW.PrintWords Go.Proofs.YtndhjjlicfoiaaaW.PrintLast Go.Proofs.YtndhjjlicfoiaaaW.PrintMore
/-- what any records use -/
def useAll (l : List S38) : Int := useOf l 0 + useOf l 1 + useOf l 2
def leftE (l : List S38) (b : Int) : Int := if b ≤ useAll l then 0 else wrap64 (b - useAll l)
def mayE (l : List S38) (n b : Int) : Int := if n < 1 ∨ n > 3192 then 3 else if cst n > leftE l b then 13 else 0
def ltS (x y : S38) : Bool := decide (x.f2 < y.f2 ∨ x.f2 = y.f2 ∧ (x.f4 < y.f4 ∨ x.f4 = y.f4 ∧ x.f0 < y.f0))
/-- one behind the other, till there is room -/
def goN (n b : Int) : List S38 → List Int → List Int
  | [], _ => []
  | x :: r, out => if mayE r n b = 0 then out ++ [x.f0] else goN n b r (out ++ [x.f0])
def neededOf (l : List S38) (n b : Int) : List Int := if mayE l n b = 13 then goN n b (ssort ltS l) [] else []
theorem left_val (l : List S38) (hl : lightL l) (b : Int) : quota_Left.f l b = some (leftE l b) := by
  unfold quota_Left.f quota_Sum.f leftE useAll
  rw [if_pos (show l.length ≤ 1000 ∧ ∀ x ∈ l, -9223372036854775808 ≤ x.f3 ∧ x.f3 ≤ 100000 from hl), Option.bind_some]
  split <;> rfl
theorem may_val (l : List S38) (hl : lightL l) (n b : Int) : quota_May.f 1 l n b = some (mayE l n b) := by
  unfold quota_May.f mayE
  by_cases h1 : n < 1
  · rw [if_pos h1, if_pos (.inl h1)]
    simp [quota_May.j0]
  · rw [if_neg h1]
    by_cases h2 : n > 3192
    · rw [if_pos (.inr h2)]
      simp [quota_May.j0, h2]
    · rw [if_neg (show ¬ (n < 1 ∨ n > 3192) by omega)]
      show (if decide (n > 3192) = true then some 3 else ((geom_Cost.f n).bind fun t106 => ((quota_Left.f l b).bind fun t107 => (if t106 > t107 then (some 13) else (some 0))))) = _
      rw [if_neg (show ¬ (decide (n > 3192) = true) by simpa using h2), cost_val n (by omega) (by omega), left_val l hl b, Option.bind_some, Option.bind_some]
      split <;> rfl
theorem may_calls (l : List S38) (hl : lightL l) (A : Option Addr) (cp : Nat) (hcp : l.length ≤ cp) (n b : Int) (W : World) (hC : Kd.C k38 W A l.length l) :
    Calls Try.prog 12 #[.slice A l.length cp, .int .i64 n, .int .i64 b] W fun e w' => e = .returned (.int .i64 (mayE l n b)) ∧ Below W.heap.size W w' :=
  quota_May.calls 1 A cp l n b _ W hC hcp (may_val l hl n b)
theorem ssort_map {α β : Type} (f : α → β) {lt : α → α → Bool} {lt' : β → β → Bool} (h : ∀ x y, lt' (f x) (f y) = lt x y) (l : List α) : ssort lt' (l.map f) = (ssort lt l).map f := by
  have hp : ∀ (x : α) (s : List α), put lt' (f x) (s.map f) = (put lt x s).map f := by
    intro x s
    induction s with
    | nil => rfl
    | cons y r ih =>
      simp only [List.map_cons, put, h]
      split
      · rfl
      · rw [ih]; rfl
  unfold ssort
  suffices hs : ∀ (s : List α), (l.map f).foldl (fun s x => put lt' x s) (s.map f) = (l.foldl (fun s x => put lt x s) s).map f from hs []
  induction l with
  | nil => intro s; rfl
  | cons a r ih => intro s; simp only [List.map_cons, List.foldl_cons]; rw [hp]; exact ih _
theorem lightL_sub {l l' : List S38} (h : lightL l) (hs : ∀ x ∈ l', x ∈ l) (hn : l'.length ≤ l.length) : lightL l' := ⟨by have := h.1; omega, fun x hx => h.2 x (hs x hx)⟩
theorem closure_calls (l : List S38) (hl : lightL l) (A : Option Addr) (cp : Nat) (hcp : l.length ≤ cp) (n b : Int) (W : World) (hC : Kd.C k38 W A l.length l) (b4 b5 b7 : Nat)
    (h4 : W.heap[b4]? = some (.cells #[.int .i64 n] 3 (0, 0))) (h5 : W.heap[b5]? = some (.cells #[.int .i64 b] 3 (0, 0))) (h7 : W.heap[b7]? = some (.cells #[.slice A l.length cp] 22 (0, 0))) :
    Calls Try.prog 25 #[.pointer (some ⟨b7, 0, none⟩), .pointer (some ⟨b4, 0, none⟩), .pointer (some ⟨b5, 0, none⟩)] W fun e w' => e = .returned (.bool (decide (mayE l n b = 0))) ∧ Below W.heap.size W w' := by
  have HC := Aside0.mk (fun W' hW => may_calls l hl A cp hcp n b W' (Kd.C_below hC hW))
  have c4 := blk_cell h4 0
  have c5 := blk_cell h5 0
  have c7 := blk_cell h7 0
  have HB := Aside0.mk (Below.refl W.heap.size W)
  clear hl hcp hC h4 h5 h7
  go_enter Try.func25, Try.ntmps25
  go_wp2_with (go_at_call 12; refine (HC.out _ HB.out).mono ?_; rintro e w2 ⟨rfl, hb⟩; replace hb := Aside0.mk hb)
  go_ret
  exact ⟨by first | rfl | simp [beq_eq_decide], hb.out⟩
/-- What the sort leaves: whatever the row, or no row at all. -/
theorem sort_any {W : World} (base : Nat) (hbase : base ≤ W.heap.size) (v : Value) (ps : List Rp) (hn : ps.length ≤ 100000) (ho : W.ownsRow base 38 8 v ps.length ((ps.map recOf).flatMap Rec.enc)) :
    ∃ (g cp : Nat) (A : Option Addr), v = .slice A ps.length cp ∧ ps.length ≤ cp ∧ base ≤ g ∧ g ≠ W.heap.size ∧ ∀ W1 : World, (∀ k, k < W.heap.size → W1.heap[k]? = W.heap[k]?) →
      Calls Try.prog 23 #[v, .func (.func 24) #[] #[]] W1 fun e w' => e = .returned (.tuple #[]) ∧ Kp g W1 w' ∧ ∃ qs : List Rp, qs.map (·.1) = ssort ltS (ps.map (·.1)) ∧ (∀ p ∈ qs, p ∈ ps) ∧ qs.length = ps.length ∧ (0 < ps.length → A = some ⟨g, 0, none⟩ ∧ RowB w' g (qs.map recOf)) := by
  have hlt : ∀ x y : Rp, ltQ (recOf x) (recOf y) = ltS x.1 y.1 := fun x y => rfl
  have e1 : ssort ltQ (ps.map recOf) = (ssort (fun x y : Rp => ltS x.1 y.1) ps).map recOf := ssort_map recOf hlt ps
  have e2 : ssort ltS (ps.map (·.1)) = (ssort (fun x y : Rp => ltS x.1 y.1) ps).map (·.1) := ssort_map (·.1) (fun _ _ => rfl) ps
  have hmem : ∀ p ∈ ssort (fun x y : Rp => ltS x.1 y.1) ps, p ∈ ps := fun p hp => by
    have ho : Ord (fun x y : Rp => ltS x.1 y.1) := by
      have := ltQ_ord
      exact ⟨fun x y h => this.1 (recOf x) (recOf y) h, fun x y z h1 h2 => this.2 (recOf x) (recOf y) (recOf z) h1 h2⟩
    exact ((ssort_stable ho ps).2.1 p).1 hp
  have hgo : ∀ (g cp : Nat) (W1 : World), RowB W1 g (ps.map recOf) → Calls Try.prog 23 #[.slice (some ⟨g, 0, none⟩) ps.length cp, .func (.func 24) #[] #[]] W1 fun e w' => e = .returned (.tuple #[]) ∧ Kp g W1 w' ∧ ∃ qs : List Rp, qs.map (·.1) = ssort ltS (ps.map (·.1)) ∧ (∀ p ∈ qs, p ∈ ps) ∧ qs.length = ps.length ∧ (0 < ps.length → some (⟨g, 0, none⟩ : Addr) = some ⟨g, 0, none⟩ ∧ RowB w' g (qs.map recOf)) := by
    intro g cp W1 hR
    refine (sort_calls ltQ ltQ_ord cmp_ahead g W1 g (Nat.le_refl _) cp ps.length (ps.map recOf) (by simp) hn W1 (Kp.refl _ _) hR).mono ?_
    rintro e w' ⟨rfl, hk, hR'⟩
    exact ⟨rfl, hk, _, e2.symm, hmem, ssort_length _, fun _ => ⟨rfl, by rw [← e1]; exact hR'⟩⟩
  obtain ⟨hl, ⟨rfl, h0⟩ | ⟨g, cap, cur, rfl, hg, hh, h1, h2, h3, h4⟩⟩ := ho
  · refine ⟨W.heap.size + 1, 0, none, by rw [h0], by omega, by omega, by omega, fun W1 hW => ?_⟩
    refine (sort_nil _ 0 W1).mono ?_
    rintro e w' ⟨rfl, hb⟩
    exact ⟨rfl, (Kp.refl _ _).below hb, _, e2.symm, hmem, ssort_length _, fun h => absurd h (by omega)⟩
  · have hlt : g < W.heap.size := (Array.getElem?_eq_some_iff.1 hh).1
    refine ⟨g, cap, _, rfl, h1, hg, by omega, fun W1 hW => hgo g cap W1 ⟨cur, (hW g hlt).trans hh, fun j x hx i hi => ?_⟩⟩
    have hj := (List.getElem?_eq_some_iff.1 hx).1
    have e := encs_at (ps.map recOf) j x hx i hi
    rw [← e, ← h4, List.getElem?_take, if_pos (by rw [List.length_map] at hj; omega)]
    simp
set_option maxHeartbeats 4000000 in
set_option maxRecDepth 100000 in
/-- quota.Needed -/
theorem needed_calls (l : List S38) (hl : lightL l) (A : Option Addr) (cp : Nat) (hcp : l.length ≤ cp) (n b : Int) (w : World) (hC : Kd.C k38 w A l.length l) :
    Calls Try.prog 15 #[.slice A l.length cp, .int .i64 n, .int .i64 b] w fun e w' => ∃ v, e = .returned v ∧ Kd.R (Kd.int .u64) 35 w' w.heap.size (fun k => w.heap.size ≤ k) v (neededOf l n b) ∧ Below w.heap.size w w' := by
  have hmf : ∀ (fn : Fn) (first cap : Array Value) (w : World), (Instr.makeFunc fn first cap).run Try.prog w = .ok (.func fn first cap) w := fun _ _ _ _ => rfl
  obtain ⟨ps, hps, hgood, hnone, hcells⟩ := split_row hC
  have HM := Aside0.mk (fun W' hW => may_calls l hl A cp hcp n b W' (Kd.C_below hC hW))
  have HP := Aside0.mk (And.intro hps (And.intro hgood (And.intro hnone hcells)))
  have HL := Aside0.mk hl
  have HB := Aside0.mk (Below.refl w.heap.size w)
  obtain ⟨i0, hi0, hz⟩ := Option.map_eq_some_iff.1 info38
  simp only [Prod.mk.injEq] at hz
  have HI := Aside0.mk (And.intro hi0 hz.2.1)
  clear hi0 hz
  clear hl hcp hC hps hgood hnone hcells
  by_cases hm : mayE l n b = 13
  case neg =>
    have hne : neededOf l n b = [] := if_neg hm
    have t1 : (mayE l n b != 13) = true := by simpa using hm
    rw [hne]
    clear hne hm
    go_enter Try.func15, Try.ntmps15
    go_wp2_with (go_at_call 12; refine (HM.out _ (below_alloc (below_alloc HB.out _) _)).mono ?_; rintro e w2 ⟨rfl, hb⟩; replace hb := Aside0.mk (below_then (below_alloc (below_alloc HB.out _) _) (below_alloc (below_alloc HB.out _) _).size hb))
    go_ret
    exact ⟨_, rfl, Kd.R_nil _ _ _ _ _, hb.out⟩
  case pos =>
    have t1 : (mayE l n b != 13) = false := by simpa using hm
    have hnd : neededOf l n b = goN n b (ssort ltS l) [] := if_pos hm
    rw [hnd]
    have hmm := Aside0.mk hm
    clear hnd hm
    go_enter Try.func15, Try.ntmps15
    go_wp2_with (first | (go_at_call 12; refine (HM.out _ (below_alloc (below_alloc HB.out _) _)).mono ?_; rintro e w2 ⟨rfl, hb⟩; replace hb := Aside0.mk hb))
    have hb2 := below_then (below_alloc (below_alloc HB.out (.cells #[.int .i64 n] 3)) (.cells #[.int .i64 b] 3)) (below_alloc (below_alloc HB.out _) _).size hb.out
    have hs2 : w.heap.size + 2 ≤ w2.heap.size := by have := hb.out.size; simp at this; omega
    have h4 := blk_below (blk_alloc (heap_alloc_new w (.cells #[.int .i64 n] 3)) (.cells #[.int .i64 b] 3)) hb.out
    have h5 := blk_below (heap_alloc_new (w.alloc (.cells #[.int .i64 n] 3)) (.cells #[.int .i64 b] 3)) hb.out
    rw [show (w.alloc (.cells #[.int .i64 n] 3)).heap.size = w.heap.size + 1 by simp] at h5
    have hn1 : ps.length = l.length := by rw [← HP.out.1, List.length_map]
    have hN : ps.length ≤ 100000 := by have := HL.out.1; omega
    obtain ⟨C, hC⟩ : ∃ C, C = (ps.map recOf).flatMap Rec.enc := ⟨_, rfl⟩
    have HQ := Aside0.mk (clone_calls A cp l.length C w2 (by omega) (by rw [hC, encs_len, List.length_map]; omega) (by rw [hC]; intro u hu; obtain ⟨x, _, hx⟩ := List.mem_flatMap.1 hu; exact enc_one x u hx) HP.out.2.2.1 (fun ad had j u hu => pw_cell_below hb2 (HP.out.2.2.2 ad had j u (by rw [← hC]; exact hu))))
    replace hC := Aside0.mk hC
    replace h4 := Aside0.mk h4
    replace h5 := Aside0.mk h5
    replace hb2 := Aside0.mk hb2
    replace hs2 := Aside0.mk hs2
    replace hN := Aside0.mk (And.intro hN hn1)
    clear hb HB HM hn1
    refine HQ.out.mono ?_
    clear HQ
    rintro e w3 ⟨v3, rfl, ho3, hb3⟩
    obtain ⟨g, cp3, A3, rfl, hcp3, hg3, hgn, HS⟩ := sort_any (W := w3) w2.heap.size hb3.size v3 ps hN.out.1 (by have := ho3; rw [hC.out, ← hN.out.2] at this; exact this)
    rw [hN.out.2] at *
    replace HS := Aside0.mk HS
    clear ho3
    have HG := Aside0.mk (And.intro hcp3 (And.intro hg3 hgn))
    replace hb3 := Aside0.mk hb3
    clear hcp3 hg3 hgn
    go_upto_region 5 with (go_at_call 23; refine (HS.out _ (fun k hk => Below.heap_alloc _ _ _ hk)).mono ?_; rintro e w4 ⟨rfl, hk4, qs, hq1, hq2, hq3, hq4⟩)
    have hb7 : w4.heap[w3.heap.size]? = some (.cells #[.slice A3 l.length cp3] 22 (0, 0)) := (hk4.block _ (by simp) (fun h => HG.out.2.2 h.symm)).trans (heap_alloc_new w3 _)
    have ho4 : ∀ k, k < w2.heap.size → w4.heap[k]? = w2.heap[k]? := fun k hk => by
      have hs3 := hb3.out.size
      rw [hk4.block k (by simp; omega) (by have := HG.out.2.1; omega), Below.heap_alloc _ _ _ (by omega), hb3.out.block k hk]
    have hB4 : Below w.heap.size w w4 := ⟨(hk4.os.trans hb3.out.os).trans hb2.out.os, (hk4.tape.trans hb3.out.tape).trans hb2.out.tape, (hk4.output.trans hb3.out.output).trans hb2.out.output,
      (by have h1 := hk4.size; have h2 := hb3.out.size; have h3 := hb2.out.size; simp at h1; omega), fun k hk => (ho4 k (by have := hs2.out; omega)).trans (hb2.out.block k hk)⟩
    have hs4 : w3.heap.size < w4.heap.size := by have h1 := hk4.size; simp at h1; omega
    have h24 := hb3.out.size
    have ST : Aside0 (w4.heap[w.heap.size]? = some (.cells #[.int .i64 n] 3 (0, 0)) ∧ w4.heap[w.heap.size + 1]? = some (.cells #[.int .i64 b] 3 (0, 0)) ∧ w4.heap[w3.heap.size]? = some (.cells #[.slice A3 l.length cp3] 22 (0, 0))) :=
      ⟨(ho4 _ (by have := hs2.out; omega)).trans h4.out, (ho4 _ (by have := hs2.out; omega)).trans h5.out, hb7⟩
    have HSS : ssort ltS l = qs.map (·.1) := by rw [hq1, HP.out.1]
    have HQ := Aside0.mk (And.intro HSS (And.intro hq2 (And.intro hq3 hq4)))
    replace hB4 := Aside0.mk hB4
    have hgl : 0 < l.length → g < w4.heap.size := fun h => by obtain ⟨cs, hz, _⟩ := (hq4 h).2; exact blk_lt hz
    have HS4 := Aside0.mk (And.intro hs4 (And.intro h24 (And.intro hs2.out hgl)))
    clear HSS hq1 hq2 hq3 hq4 hb7 ho4 hk4 hgl h4 h5 HS hb3 hb2 hs2 hs4 h24 hC
    go_wp2_with fail
    go_loopg [8] (l.length + 1) (fun kq v8 w' => ∃ (j : Nat) (out : List Int) (Aj : Option Addr) (cj : Nat), Aside0 (w'.ownsRow w4.heap.size 35 1 v8 out.length (nums .u64 out)) ∧ Aside0 (j ≤ l.length ∧ kq + j = l.length + 1 ∧ out.length = j) ∧ Aside0 (goN n b ((ssort ltS l).drop j) out = goN n b (ssort ltS l) []) ∧
      Aside0 (w'.heap[w.heap.size]? = some (.cells #[.int .i64 n] 3 (0, 0)) ∧ w'.heap[w.heap.size + 1]? = some (.cells #[.int .i64 b] 3 (0, 0)) ∧ w'.heap[w3.heap.size]? = some (.cells #[.slice Aj (l.length - j) cj] 22 (0, 0))) ∧ Aside0 (l.length - j ≤ cj ∧ (j < l.length → Aj = some ⟨g, j * 8, none⟩)) ∧
      Aside0 (0 < l.length → RowB w' g (qs.map recOf)) ∧ Aside0 (Below w.heap.size w w') ∧ Aside0 (w4.heap.size ≤ w'.heap.size))
    case atStart => exact ⟨0, [], A3, cp3, ⟨World.ownsRow_nil _ _ _ _⟩, ⟨Nat.zero_le _, rfl, rfl⟩, ⟨rfl⟩, ST, ⟨HG.out.1, fun h => (HQ.out.2.2.2 h).1⟩, ⟨fun h => (HQ.out.2.2.2 h).2⟩, hB4, ⟨Nat.le_refl _⟩⟩
    case round =>
      clear ST hB4
      obtain ⟨j, out, Aj, cj, HO, HJ, HE, HZ, HA, HR, BB, HW⟩ := hrel
      by_cases hj : j < l.length
      case neg =>
        have hje : j = l.length := by have := HJ.out.1; omega
        have hnil : goN n b (ssort ltS l) [] = [] := by
          rw [← HE.out, hje, List.drop_of_length_le (by rw [ssort_length]; exact Nat.le_refl _)]
          rfl
        have HNL := Aside0.mk hnil
        have c7 := blk_cell HZ.out.2.2 0
        rw [hje, Nat.sub_self] at c7
        clear hnil hje hj
        go_wp2_with fail
        go_ret
        exact ⟨_, rfl, by rw [HNL.out]; exact Kd.R_nil _ _ _ _ _, BB.out⟩
      case pos =>
        have c7 := blk_cell HZ.out.2.2 0
        have f7 := blk_frozen HZ.out.2.2 0
        obtain rfl := HA.out.2 hj
        obtain ⟨m, hm⟩ : ∃ m, l.length - j = m + 1 := ⟨l.length - j - 1, by omega⟩
        rw [hm] at c7
        have hjq : j < qs.length := by rw [HQ.out.2.2.1]; exact hj
        obtain ⟨q, hq⟩ : ∃ q, qs[j]? = some q := ⟨_, List.getElem?_eq_getElem hjq⟩
        have hrow := HR.out (by omega)
        obtain ⟨x0, -⟩ := hrow.cells (j := j) (x := recOf q) (by rw [List.getElem?_map, hq]; rfl)
        replace x0 : wr.cell? ⟨g, j * 8, none⟩ = some (.int .u64 q.1.f0) := x0
        have hcut := cut_from (P := Try.prog) 22 38 .i64 (i := _) Try.underlying22 HI.out.1 8 HI.out.2 (some ⟨g, j * 8, none⟩) (m + 1) cj 1 (by decide) (by omega)
        have tg : decide (((m + 1 : Nat) : Int) > 0) = true := decide_eq_true (by omega)
        have hou : out.length + 1 ≤ 2000 := by have := HJ.out; have := HL.out.1; omega
        have HOU := Aside0.mk hou
        have HRW := Aside0.mk hrow
        have HMM := Aside0.mk (And.intro hm (And.intro hj hq))
        clear hm hjq hrow hq hj hou HR
        go_upto_region 9 with (at_builtin; (refine print_append_num w4.heap.size rfl _ _ 33 35 .u64 8 rfl Try.underlying33 info35 (by decide) u8 out q.1.f0 rfl rfl HO.out (Below.refl _ _) HW.out (by have := HOU.out; omega) ?_); intro v1 w5 ho5 hb5 hg5 _; replace ho5 := Aside0.mk ho5; replace hb5 := Aside0.mk hb5; replace hg5 := Aside0.mk hg5)
        obtain ⟨A', hA', hcut2⟩ : ∃ A' : Option Addr, (0 < m → A' = some ⟨g, (j + 1) * 8, none⟩) ∧ ∀ W : World, (Instr.slice 22 (Value.slice (some ⟨g, j * 8, none⟩) (m + 1) cj) (some (Value.int .i64 1)) none none).run Try.prog W = .ok (.slice A' m (cj - 1)) W := by
          refine ⟨_, ?_, hcut⟩
          intro h0
          have := HA.out.1
          have := HMM.out.1
          rw [if_neg (by show ¬ cj = 1; omega)]
          have ea : (⟨g, j * 8, none⟩ : Addr).add ((1 : Int).toNat * 8) = ⟨g, (j + 1) * 8, none⟩ := by
            unfold Addr.add
            rw [if_neg (by decide)]
            show (⟨g, j * 8 + 8, none⟩ : Addr) = _
            rw [show j * 8 + 8 = (j + 1) * 8 by omega]
          exact congrArg some ea
        clear hcut x0 c7 f7
        have hlt7 : w3.heap.size < w4.heap.size := HS4.out.1
        have z4 := (hb5.out.block _ (by have := HS4.out; omega)).trans HZ.out.1
        have z5 := (hb5.out.block _ (by have := HS4.out; omega)).trans HZ.out.2.1
        have z7 := (hb5.out.block _ hlt7).trans HZ.out.2.2
        have c7 := blk_cell z7 0
        have f7 := blk_frozen z7 0
        have ne4 : w.heap.size ≠ w3.heap.size := by have := HS4.out; omega
        have ne5 : w.heap.size + 1 ≠ w3.heap.size := by have := HS4.out; omega
        have S4 := Aside0.mk (blk_far z4 (p := ⟨w3.heap.size, 0, none⟩) ne4 (.slice A' m (cj - 1)))
        have S5 := Aside0.mk (blk_far z5 (p := ⟨w3.heap.size, 0, none⟩) ne5 (.slice A' m (cj - 1)))
        have S7 : Aside0 ((w5.setCell ⟨w3.heap.size, 0, none⟩ (.slice A' m (cj - 1))).heap[w3.heap.size]? = some (.cells #[.slice A' m (cj - 1)] 22 (0, 0))) := ⟨blk_set z7 0 (.slice A' m (cj - 1))⟩
        have SR : Aside0 (RowB (w5.setCell ⟨w3.heap.size, 0, none⟩ (.slice A' m (cj - 1))) g (qs.map recOf)) := ⟨by
          obtain ⟨cs, hz, hc⟩ := HRW.out
          exact ⟨cs, blk_far ((hb5.out.block g (HS4.out.2.2.2 (by have := HMM.out.2.1; omega))).trans hz) (p := ⟨w3.heap.size, 0, none⟩) HG.out.2.2 _, hc⟩⟩
        have hBW : Below w.heap.size w w5 := BB.out.trans (hb5.out.mono (by have := HS4.out; omega))
        have SB : Aside0 (Below w.heap.size w (w5.setCell ⟨w3.heap.size, 0, none⟩ (.slice A' m (cj - 1)))) := ⟨hBW.setCell (p := ⟨w3.heap.size, 0, none⟩) (by have := HS4.out; show w.heap.size ≤ w3.heap.size; omega) _⟩
        have SO : Aside0 ((w5.setCell ⟨w3.heap.size, 0, none⟩ (.slice A' m (cj - 1))).ownsRow w4.heap.size 35 1 v1 (out ++ [q.1.f0]).length (nums .u64 (out ++ [q.1.f0]))) := ⟨ho5.out.kept (row := some w3.heap.size) ⟨rfl, rfl, rfl, by simp, fun k hk hne => Below.heap_setCell _ _ _ _ (fun h => hne (by rw [h]))⟩ (.inr (fun h => by have := own_base ho5.out _ h; omega))⟩
        have SZ : Aside0 (w4.heap.size ≤ (w5.setCell ⟨w3.heap.size, 0, none⟩ (.slice A' m (cj - 1))).heap.size) := ⟨by have h1 := hb5.out.size; have h2 := HW.out; simp; omega⟩
        rw [HMM.out.1] at c7
        clear z4 z5 z7 ne4 ne5 hlt7 hBW HRW HZ ho5 hb5 hg5 HO HW BB
        replace hA' := Aside0.mk hA'
        go_upto_region 10 with fail
        generalize w5.setCell ⟨w3.heap.size, 0, none⟩ (.slice A' m (cj - 1)) = w6 at S4 S5 S7 SR SB SO SZ ⊢
        clear c7 f7 hcut2
        obtain ⟨rest, hrest⟩ : ∃ r, r = (qs.drop (j + 1)).map (·.1) := ⟨_, rfl⟩
        have hrl : rest.length = m := by rw [hrest, List.length_map, List.length_drop, HQ.out.2.2.1]; have := HMM.out.1; omega
        have hrs : rest = (ssort ltS l).drop (j + 1) := by rw [hrest, HQ.out.1, List.map_drop]
        have hstep : (ssort ltS l).drop j = q.1 :: rest := by
          rw [hrs, HQ.out.1]
          have e : (qs.map (·.1))[j]? = some q.1 := by rw [List.getElem?_map, HMM.out.2.2]; rfl
          rw [List.drop_eq_getElem_cons (List.getElem?_eq_some_iff.1 e).1, (List.getElem?_eq_some_iff.1 e).2]
        have hlr : lightL rest := by
          refine lightL_sub HL.out (fun x hx => ?_) (by rw [hrl]; have := HMM.out.1; omega)
          rw [hrest] at hx
          obtain ⟨p, hp, rfl⟩ := List.mem_map.1 hx
          have := HQ.out.2.1 p (List.mem_of_mem_drop hp)
          rw [← HP.out.1]
          exact List.mem_map.2 ⟨p, this, rfl⟩
        have hCr : Kd.C k38 w6 A' rest.length rest := by
          rw [hrest]
          exact reads_row SR.out (fun p hp => Rp.good_below (HP.out.2.1 p (HQ.out.2.1 p hp)) SB.out) (by rw [HQ.out.2.2.1]; have := HL.out.1; omega) (j + 1) (by rw [HQ.out.2.2.1]; have := HMM.out.2.1; omega) A' (fun h => hA'.out (by rw [HQ.out.2.2.1] at h; have := HMM.out.1; omega))
        have hcr : rest.length ≤ cj - 1 := by have := HA.out.1; have := HMM.out.1; omega
        have HCL := Aside0.mk (closure_calls rest hlr A' (cj - 1) hcr n b w6 hCr w.heap.size (w.heap.size + 1) w3.heap.size S4.out S5.out (by rw [hrl]; exact S7.out))
        have HST := Aside0.mk (And.intro hstep (And.intro hrs hrl))
        clear hrl hrs hstep hlr hCr hcr hrest
        by_cases hen : mayE rest n b = 0
        case pos =>
          have HEN := Aside0.mk hen
          have te : decide (mayE rest n b = 0) = true := decide_eq_true hen
          rw [te] at HCL
          clear te hen
          go_wp2_with (refine HCL.out.mono ?_; rintro e w7 ⟨rfl, hb7⟩; replace hb7 := Aside0.mk hb7)
          go_ret
          refine ⟨v1, rfl, ?_, below_then SB.out SB.out.size hb7.out⟩
          rw [← HE.out, HST.out.1]
          show Kd.R _ _ _ _ _ _ (if mayE rest n b = 0 then out ++ [q.1.f0] else _)
          rw [if_pos HEN.out]
          refine Kd.R_below ?_ hb7.out
          refine Kd.R_lower (Kd.R_of_own (enc := Value.int .u64) SO.out (fun k hk => ?_)) (by have := HS4.out; omega)
          have := own_base SO.out k hk
          have := HS4.out
          omega
        case neg =>
          have HEN := Aside0.mk hen
          have te : decide (mayE rest n b = 0) = false := decide_eq_false hen
          rw [te] at HCL
          clear te hen
          go_wp2_with (refine HCL.out.mono ?_; rintro e w7 ⟨rfl, hb7⟩; replace hb7 := Aside0.mk hb7)
          go_roundg (l.length - j)
          case measure => have := HJ.out.2; have := HMM.out.2.1; omega
          case rel => exact ⟨j + 1, out ++ [q.1.f0], A', cj - 1, ⟨pw_own_below SO.out hb7.out⟩, ⟨by have := HMM.out.2.1; omega, by have := HMM.out.2.1; omega, by rw [List.length_append, HJ.out.2.2]; rfl⟩, ⟨by rw [← HE.out, HST.out.1, ← HST.out.2.1]; show _ = (if mayE rest n b = 0 then out ++ [q.1.f0] else goN n b rest (out ++ [q.1.f0])); rw [if_neg HEN.out]⟩,
            ⟨blk_below S4.out hb7.out, blk_below S5.out hb7.out, by rw [show l.length - (j + 1) = m by have := HMM.out.1; omega]; exact blk_below S7.out hb7.out⟩, ⟨by have := HA.out.1; have := HMM.out.1; omega, fun h => hA'.out (by have := HMM.out.1; omega)⟩, ⟨fun _ => SR.out.below hb7.out⟩, ⟨below_then SB.out SB.out.size hb7.out⟩, ⟨Nat.le_trans SZ.out hb7.out.size⟩⟩
end Go.Proofs.Ytndhjjlicfoiaaa.QS
