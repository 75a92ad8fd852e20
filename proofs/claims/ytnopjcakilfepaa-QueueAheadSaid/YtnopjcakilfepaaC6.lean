import Derived.Test.YtnopjcakilfepaaC5
import Derived.Test.YtnopjcakilfepaaHp7
import Derived.Test.YtnopjcakilfepaaHp2
import Derived.OpenShut
namespace Go.Proofs.Ytnopjcakilfepaa.QS
set_option linter.unusedVariables false
set_option linter.unusedSimpArgs false
open Go.RowKit Go.Proofs.Ytnopjcakilfepaa.SS Go.Proofs.Ytnopjcakilfepaa.Hp Go.Proofs.YtnopjcakilfepaaW.PrintWords Go.Proofs.YtnopjcakilfepaaW.PrintLast Go.Proofs.YtnopjcakilfepaaW.PrintMore
theorem ev_ints (u : List Int) (hu : u.length ≤ 9223372036854775000) : ∀ (d i : Nat), i + d = u.length → Ev (fun k => wagtailref01_Ints.l0 k u u (i : Int)) true
  | 0, i, hd => by
    refine Ev.step (f := fun k => some true) (fun k => ?_) (Ev.now _)
    simp only [wagtailref01_Ints.l0]
    rw [if_neg (by omega)]
  | d + 1, i, hd => by
    have e1 : wrap64 ((i : Int) + 1) = ((i + 1 : Nat) : Int) := by unfold wrap64; omega
    refine Ev.step (f := fun k => wagtailref01_Ints.l0 k u u ((i + 1 : Nat) : Int)) (fun k => ?_) (ev_ints u hu d (i + 1) (by omega))
    simp only [wagtailref01_Ints.l0]
    rw [if_pos (by omega), if_pos (by omega), if_pos (by omega), if_pos trivial, e1]
theorem ev_ints_same (u : List Int) (hu : u.length ≤ 9223372036854775000) : Ev (fun k => wagtailref01_Ints.f k u u) true := Ev.congr (f := fun k => wagtailref01_Ints.l0 k u u ((0 : Nat) : Int)) (fun k => if_pos rfl) (ev_ints u hu _ 0 (Nat.zero_add _))
theorem ev_one_same (x : R0) (hu : x.f7.length ≤ 9223372036854775000) : Ev (fun k => wagtailref26_Same.f k x.f0 x.f1 x.f2 x.f3 x.f4 x.f5 x.f6 x.f7 x.f0 x.f1 x.f2 x.f3 x.f4 x.f5 x.f6 x.f7) true := by
  refine Ev.congr (f := fun k => (wagtailref01_Ints.f k x.f7 x.f7).bind fun t => some t) (fun k => ?_) (Ev.bind (ev_ints_same x.f7 hu) (Ev.now _))
  unfold wagtailref26_Same.f
  simp
theorem rd_nat (l : List R0) (i : Nat) (h : i < l.length) : rd_T29 l (i : Int) = l[i] := by
  unfold rd_T29
  rw [Int.toNat_natCast, List.getD_eq_getElem?_getD, List.getElem?_eq_getElem h]
  rfl
theorem ev_rsame (l : List R0) (hl : lightL l) : ∀ (d i : Nat), i + d = l.length → Ev (fun k => wagtailref27_Same.l0 k l l (i : Int)) true
  | 0, i, hd => by
    refine Ev.step (f := fun k => some true) (fun k => ?_) (Ev.now _)
    simp only [wagtailref27_Same.l0]
    rw [if_neg (by omega)]
  | d + 1, i, hd => by
    have hi : i < l.length := by omega
    have hlen := hl.1
    have e1 : wrap64 ((i : Int) + 1) = ((i + 1 : Nat) : Int) := by unfold wrap64; omega
    have hx := hl.2 l[i] (List.getElem_mem hi)
    refine Ev.step (f := fun k => (wagtailref26_Same.f k l[i].f0 l[i].f1 l[i].f2 l[i].f3 l[i].f4 l[i].f5 l[i].f6 l[i].f7 l[i].f0 l[i].f1 l[i].f2 l[i].f3 l[i].f4 l[i].f5 l[i].f6 l[i].f7).bind fun t => if t = true then wagtailref27_Same.l0 k l l ((i + 1 : Nat) : Int) else some false) (fun k => ?_) ?_
    · simp only [wagtailref27_Same.l0]
      rw [if_pos (by omega), if_pos (by omega), if_pos (by omega), rd_nat l i hi, e1]
    · refine Ev.bind (ev_one_same l[i] (by omega)) ?_
      exact Ev.congr (fun k => if_pos rfl) (ev_rsame l hl d (i + 1) (by omega))
theorem rsame_calls (l : List R0) (hl : lightL l) (A : Option Addr) (c : Nat) (A' : Option Addr) (c' : Nat) (W : World) (h1 : l.length ≤ c) (h2 : Kd.C k29 W A l.length l) (h3 : l.length ≤ c') (h4 : Kd.C k29 W A' l.length l) :
    Calls Try.prog 16 #[.slice A l.length c, .slice A' l.length c'] W fun e w' => e = .returned (.bool true) ∧ Below W.heap.size W w' := by
  obtain ⟨K, hK⟩ := Ev.congr (f := fun k => wagtailref27_Same.l0 k l l ((0 : Nat) : Int)) (g := fun k => wagtailref27_Same.f k l l) (fun k => if_pos rfl) (ev_rsame l hl _ 0 (Nat.zero_add _))
  exact wagtailref27_Same.calls K A c l A' c' l true W h2 h1 h4 h3 (hK K (Nat.le_refl _))
theorem one_same_calls (x : R0) (hx : x.f7.length ≤ 1000) (Ax : Option Addr) (cx : Nat) (Ay : Option Addr) (cy : Nat) (W : World) (h1 : Pg W x Ax cx) (h2 : Pg W x Ay cy) :
    Calls Try.prog 17 #[.agg #[.int .u64 x.f0, .int .u64 x.f1, .int .i64 x.f2, .int .i64 x.f3, .int .u64 x.f4, .bool x.f5, .int .i64 x.f6, .slice Ax x.f7.length cx], .agg #[.int .u64 x.f0, .int .u64 x.f1, .int .i64 x.f2, .int .i64 x.f3, .int .u64 x.f4, .bool x.f5, .int .i64 x.f6, .slice Ay x.f7.length cy]] W fun e w' => e = .returned (.bool true) ∧ Below W.heap.size W w' := by
  obtain ⟨K, hK⟩ := ev_one_same x (by omega)
  exact wagtailref26_Same.calls K x.f0 x.f1 x.f2 x.f3 x.f4 x.f5 x.f6 Ax cx x.f7 x.f0 x.f1 x.f2 x.f3 x.f4 x.f5 x.f6 Ay cy x.f7 true W h1.2 h1.1 h2.2 h2.1 (hK K (Nat.le_refl _))
theorem order_light {l : List R0} (hl : lightL l) : lightL (orderOf l) := ⟨by have := order_len l; have := hl.1; omega, fun x hx => hl.2 x (List.mem_filter.1 (((ssort_stable ltS_ord _).2.1 x).1 hx)).1⟩
set_option maxHeartbeats 4000000 in
set_option maxRecDepth 100000 in
theorem waiting_calls (l : List R0) (hl : lightL l) (A : Option Addr) (cp : Nat) (w : World) (hC : Kd.C k29 w A l.length l) :
    Calls Try.prog 20 #[.slice A l.length cp] w fun e w' => e = .returned (.agg #[.int .i64 ((classOf l 0).length : Int), .int .i64 ((classOf l 1).length : Int), .int .i64 ((classOf l 2).length : Int)]) ∧ Below w.heap.size w w' := by
  have HB := Aside0.mk (Below.refl w.heap.size w)
  have HCL := Aside0.mk (fun (p : Int) (W : World) (hW : Below w.heap.size w W) => class_calls l hl p A cp W (Kd.C_below hC hW))
  have HLN := Aside0.mk (fun p => class_len l p)
  have HL1 := Aside0.mk hl.1
  clear hl hC
  go_enter Try.func20, Try.ntmps20
  go_upto_region 2 with fail
  have hB := below_alloc (below_alloc HB.out (.cells #[.int .i64 0, .int .i64 0, .int .i64 0] 34)) (.cells #[.int .i64 0, .int .i64 0, .int .i64 0] 34)
  have hz3 := heap_alloc_new (w.alloc (.cells #[.int .i64 0, .int .i64 0, .int .i64 0] 34)) (.cells #[.int .i64 0, .int .i64 0, .int .i64 0] 34)
  have hz2 := blk_alloc (heap_alloc_new w (.cells #[.int .i64 0, .int .i64 0, .int .i64 0] 34)) (.cells #[.int .i64 0, .int .i64 0, .int .i64 0] 34)
  rw [show (w.alloc (.cells #[.int .i64 0, .int .i64 0, .int .i64 0] 34)).heap.size = w.heap.size + 1 by simp] at hz3
  generalize (w.alloc (.cells #[.int .i64 0, .int .i64 0, .int .i64 0] 34)).alloc (.cells #[.int .i64 0, .int .i64 0, .int .i64 0] 34) = W2 at hB hz3 hz2 ⊢
  replace hB := Aside0.mk hB
  replace hz2 := Aside0.mk (And.intro hz2 hz3)
  clear hz3 HB
  go_wp2_with fail
  go_loopg [5] 4 (fun kq v5 w' => ∃ p : Nat, v5 = .int .i64 (p : Int) ∧ Aside0 (p ≤ 3 ∧ kq + p = 4) ∧ Aside0 (w'.heap[w.heap.size]? = some (.cells #[.int .i64 0, .int .i64 0, .int .i64 0] 34 (0, 0)) ∧ w'.heap[w.heap.size + 1]? = some (.cells #[.int .i64 (if 0 < p then ((classOf l 0).length : Int) else 0), .int .i64 (if 1 < p then ((classOf l 1).length : Int) else 0), .int .i64 (if 2 < p then ((classOf l 2).length : Int) else 0)] 34 (0, 0))) ∧ Aside0 (Below w.heap.size w w'))
  case atStart => exact ⟨0, rfl, ⟨by omega, rfl⟩, hz2, hB⟩
  case round =>
    clear hz2 hB
    obtain ⟨p, rfl, HP, HZ, B0⟩ := hrel
    have hp4 : p = 0 ∨ p = 1 ∨ p = 2 ∨ p = 3 := by have := HP.out; omega
    rcases hp4 with rfl | rfl | rfl | rfl
    case inr.inr.inr =>
      have hz := HZ.out
      rw [if_pos (by omega), if_pos (by omega), if_pos (by omega)] at hz
      have f0 := blk_cell hz.2 0
      have f1 := blk_cell hz.2 1
      have f2 := blk_cell hz.2 2
      have d0 := blk_cell hz.1 0
      have d1 := blk_cell hz.1 1
      have d2 := blk_cell hz.1 2
      have g0 := blk_frozen hz.1 0
      have g1 := blk_frozen hz.1 1
      have g2 := blk_frozen hz.1 2
      have h0 := blk_set hz.1 0 (.int .i64 ((classOf l 0).length : Int))
      have h1 := blk_set h0 1 (.int .i64 ((classOf l 1).length : Int))
      have h2 := Aside0.mk (blk_set h1 2 (.int .i64 ((classOf l 2).length : Int)))
      clear hz h0 h1
      go_wp2_with fail
      refine bodyPost_ret (results_c rfl _ _ w.heap.size 34 _ (0, 0) _ rfl h2.out Try.underlying34 rfl (by kernel_rfl)) rfl ?_
      exact ⟨rfl, ((B0.out.setCell (p := ⟨w.heap.size, _, none⟩) (Nat.le_refl _) _).setCell (p := ⟨w.heap.size, _, none⟩) (Nat.le_refl _) _).setCell (p := ⟨w.heap.size, _, none⟩) (Nat.le_refl _) _⟩
    case inl =>
      have hz := HZ.out
      rw [if_neg (show ¬ 0 < 0 by omega), if_neg (show ¬ 1 < 0 by omega), if_neg (show ¬ 2 < 0 by omega)] at hz
      have HZ3 := Aside0.mk hz
      have HCP : Aside0 (∀ W, Below w.heap.size w W → Calls Try.prog 19 #[.slice A l.length cp, .int .i64 0] W fun e w' => ∃ v, e = .returned v ∧ Kd.R k29 29 w' W.heap.size (fun k => W.heap.size ≤ k) v (classOf l 0) ∧ Below W.heap.size W w') := ⟨fun W hW => HCL.out 0 W hW⟩
      clear hz HZ
      go_upto_region 6 with (go_at_call 19; refine (HCP.out _ B0.out).mono ?_; rintro e w3 ⟨v, rfl, hr, hb⟩; obtain ⟨Av, cv, rfl⟩ := Kd.R_slice hr; have hz1 := blk_below HZ3.out.1 hb; have hz2 := blk_below HZ3.out.2 hb; have f0 := blk_cell hz2 0; have g0 := blk_frozen hz2 0; replace B0 := Aside0.mk (below_then B0.out B0.out.size hb); replace hz1 := Aside0.mk hz1; replace hz2 := Aside0.mk hz2; clear hr hb)
      have hs2 := blk_set hz2.out 0 (.int .i64 ((classOf l 0).length : Int))
      have hs1 := blk_far hz1.out (p := ⟨w.heap.size + 1, 0, none⟩) (by show w.heap.size ≠ w.heap.size + 1; omega) (.int .i64 ((classOf l 0).length : Int))
      have hs0 := B0.out.setCell (p := ⟨w.heap.size + 1, 0, none⟩) (Nat.le_succ _) (.int .i64 ((classOf l 0).length : Int))
      replace hs2 := Aside0.mk hs2
      replace hs1 := Aside0.mk hs1
      replace hs0 := Aside0.mk hs0
      clear f0 g0
      go_wp2_with fail
      go_roundg (3 - 0)
      case measure => have := HP.out; omega
      case rel => exact ⟨0 + 1, by first | rfl | (simp; done) | (simp; unfold wrap64; omega), ⟨by omega, by have := HP.out; omega⟩, ⟨hs1.out, by rw [if_pos (show 0 < 0 + 1 by omega), if_neg (show ¬ 1 < 0 + 1 by omega), if_neg (show ¬ 2 < 0 + 1 by omega)]; exact hs2.out⟩, hs0⟩
    case inr.inl =>
      have hz := HZ.out
      rw [if_pos (show 0 < 1 by omega), if_neg (show ¬ 1 < 1 by omega), if_neg (show ¬ 2 < 1 by omega)] at hz
      have HZ3 := Aside0.mk hz
      have HCP : Aside0 (∀ W, Below w.heap.size w W → Calls Try.prog 19 #[.slice A l.length cp, .int .i64 1] W fun e w' => ∃ v, e = .returned v ∧ Kd.R k29 29 w' W.heap.size (fun k => W.heap.size ≤ k) v (classOf l 1) ∧ Below W.heap.size W w') := ⟨fun W hW => HCL.out 1 W hW⟩
      clear hz HZ
      go_upto_region 6 with (go_at_call 19; refine (HCP.out _ B0.out).mono ?_; rintro e w3 ⟨v, rfl, hr, hb⟩; obtain ⟨Av, cv, rfl⟩ := Kd.R_slice hr; have hz1 := blk_below HZ3.out.1 hb; have hz2 := blk_below HZ3.out.2 hb; have f0 := blk_cell hz2 1; have g0 := blk_frozen hz2 1; replace B0 := Aside0.mk (below_then B0.out B0.out.size hb); replace hz1 := Aside0.mk hz1; replace hz2 := Aside0.mk hz2; clear hr hb)
      have hs2 := blk_set hz2.out 1 (.int .i64 ((classOf l 1).length : Int))
      have hs1 := blk_far hz1.out (p := ⟨w.heap.size + 1, 1, none⟩) (by show w.heap.size ≠ w.heap.size + 1; omega) (.int .i64 ((classOf l 1).length : Int))
      have hs0 := B0.out.setCell (p := ⟨w.heap.size + 1, 1, none⟩) (Nat.le_succ _) (.int .i64 ((classOf l 1).length : Int))
      replace hs2 := Aside0.mk hs2
      replace hs1 := Aside0.mk hs1
      replace hs0 := Aside0.mk hs0
      clear f0 g0
      go_wp2_with fail
      go_roundg (3 - 1)
      case measure => have := HP.out; omega
      case rel => exact ⟨1 + 1, by first | rfl | (simp; done) | (simp; unfold wrap64; omega), ⟨by omega, by have := HP.out; omega⟩, ⟨hs1.out, by rw [if_pos (show 0 < 1 + 1 by omega), if_pos (show 1 < 1 + 1 by omega), if_neg (show ¬ 2 < 1 + 1 by omega)]; exact hs2.out⟩, hs0⟩
    case inr.inr.inl =>
      have hz := HZ.out
      rw [if_pos (show 0 < 2 by omega), if_pos (show 1 < 2 by omega), if_neg (show ¬ 2 < 2 by omega)] at hz
      have HZ3 := Aside0.mk hz
      have HCP : Aside0 (∀ W, Below w.heap.size w W → Calls Try.prog 19 #[.slice A l.length cp, .int .i64 2] W fun e w' => ∃ v, e = .returned v ∧ Kd.R k29 29 w' W.heap.size (fun k => W.heap.size ≤ k) v (classOf l 2) ∧ Below W.heap.size W w') := ⟨fun W hW => HCL.out 2 W hW⟩
      clear hz HZ
      go_upto_region 6 with (go_at_call 19; refine (HCP.out _ B0.out).mono ?_; rintro e w3 ⟨v, rfl, hr, hb⟩; obtain ⟨Av, cv, rfl⟩ := Kd.R_slice hr; have hz1 := blk_below HZ3.out.1 hb; have hz2 := blk_below HZ3.out.2 hb; have f0 := blk_cell hz2 2; have g0 := blk_frozen hz2 2; replace B0 := Aside0.mk (below_then B0.out B0.out.size hb); replace hz1 := Aside0.mk hz1; replace hz2 := Aside0.mk hz2; clear hr hb)
      have hs2 := blk_set hz2.out 2 (.int .i64 ((classOf l 2).length : Int))
      have hs1 := blk_far hz1.out (p := ⟨w.heap.size + 1, 2, none⟩) (by show w.heap.size ≠ w.heap.size + 1; omega) (.int .i64 ((classOf l 2).length : Int))
      have hs0 := B0.out.setCell (p := ⟨w.heap.size + 1, 2, none⟩) (Nat.le_succ _) (.int .i64 ((classOf l 2).length : Int))
      replace hs2 := Aside0.mk hs2
      replace hs1 := Aside0.mk hs1
      replace hs0 := Aside0.mk hs0
      clear f0 g0
      go_wp2_with fail
      go_roundg (3 - 2)
      case measure => have := HP.out; omega
      case rel => exact ⟨2 + 1, by first | rfl | (simp; done) | (simp; unfold wrap64; omega), ⟨by omega, by have := HP.out; omega⟩, ⟨hs1.out, by rw [if_pos (show 0 < 2 + 1 by omega), if_pos (show 1 < 2 + 1 by omega), if_pos (show 2 < 2 + 1 by omega)]; exact hs2.out⟩, hs0⟩
end Go.Proofs.Ytnopjcakilfepaa.QS
