import Derived.Test.YtnopjcakilfepaaC14
namespace Go.Proofs.Ytnopjcakilfepaa.QS
set_option linter.unusedVariables false
set_option linter.unusedSimpArgs false
open Go.RowKit Go.Proofs.Ytnopjcakilfepaa.SS Go.Proofs.Ytnopjcakilfepaa.Hp Go.Proofs.YtnopjcakilfepaaW.PrintWords Go.Proofs.YtnopjcakilfepaaW.PrintLast Go.Proofs.YtnopjcakilfepaaW.PrintMore
theorem put4_blk {W : World} {g : Nat} {d0 d1 d2 d3 : Value} {t : TypeId} (hz : W.heap[g]? = some (.cells #[d0, d1, d2, d3] t (0, 0))) (b0 b1 : Bool) (i2 i3 : Int) : ((((W.setCell ⟨g, 0, none⟩ (.bool b0)).setCell ⟨g, 1, none⟩ (.bool b1)).setCell ⟨g, 2, none⟩ (.int .u64 i2)).setCell ⟨g, 3, none⟩ (.int .i64 i3)).heap[g]? = some (.cells #[.bool b0, .bool b1, .int .u64 i2, .int .i64 i3] t (0, 0)) := by
  have h0 := blk_put hz 0 (.bool b0) (cs' := #[.bool b0, d1, d2, d3]) rfl
  have h1 := blk_put h0 1 (.bool b1) (cs' := #[.bool b0, .bool b1, d2, d3]) rfl
  have h2 := blk_put h1 2 (.int .u64 i2) (cs' := #[.bool b0, .bool b1, .int .u64 i2, d3]) rfl
  have h3 := blk_put h2 3 (.int .i64 i3) (cs' := #[.bool b0, .bool b1, .int .u64 i2, .int .i64 i3]) rfl
  exact h3
theorem put4_below {b : Nat} {W0 W : World} {g : Nat} (hb : Below b W0 W) (hg : b ≤ g) (b0 b1 : Bool) (i2 i3 : Int) : Below b W0 ((((W.setCell ⟨g, 0, none⟩ (.bool b0)).setCell ⟨g, 1, none⟩ (.bool b1)).setCell ⟨g, 2, none⟩ (.int .u64 i2)).setCell ⟨g, 3, none⟩ (.int .i64 i3)) :=
  ((((hb.setCell (p := ⟨g, 0, none⟩) hg (.bool b0)).setCell (p := ⟨g, 1, none⟩) hg (.bool b1)).setCell (p := ⟨g, 2, none⟩) hg (.int .u64 i2)).setCell (p := ⟨g, 3, none⟩) hg (.int .i64 i3))
def stepOf (on pa : Bool) (id I : Int) (l : List R0) : Bool × Bool × Int × Int × Bool :=
  match nextOf on pa id I l with
  | (x, i, b) => if b = false then (on, pa, id, I, false) else if IntKind.i64.wrap (i + 1) ≥ fr x.f3 then (false, pa, 0, 0, true) else (true, pa, x.f0, IntKind.i64.wrap (i + 1), false)
set_option maxHeartbeats 2000000 in
set_option maxRecDepth 100000 in
theorem cstep_calls (l : List R0) (hl : lightL l) (on pa : Bool) (id I : Int) (A : Option Addr) (cp : Nat) (w : World) (hC : Kd.C k29 w A l.length l) :
    Calls Try.prog 47 #[.agg #[.bool on, .bool pa, .int .u64 id, .int .i64 I], .slice A l.length cp] w fun e w' => ∃ (b0 b1 : Bool) (i2 i3 : Int) (b : Bool), stepOf on pa id I l = (b0, b1, i2, i3, b) ∧ e = .returned (.tuple #[.agg #[.bool b0, .bool b1, .int .u64 i2, .int .i64 i3], .bool b]) ∧ Below w.heap.size w w' := by
  have hz0 := heap_alloc_new w (.cells #[.bool on, .bool pa, .int .u64 id, .int .i64 I] 65)
  have hb0 := below_alloc (Below.refl w.heap.size w) (.cells #[.bool on, .bool pa, .int .u64 id, .int .i64 I] 65)
  have hz1 := heap_alloc_new (w.alloc (.cells #[.bool on, .bool pa, .int .u64 id, .int .i64 I] 65)) (.cells #[.bool false, .bool false, .int .u64 0, .int .i64 0] 65)
  have hb1 := below_alloc hb0 (.cells #[.bool false, .bool false, .int .u64 0, .int .i64 0] 65)
  have hz0' := blk_alloc hz0 (.cells #[.bool false, .bool false, .int .u64 0, .int .i64 0] 65)
  have hsz : (w.alloc (.cells #[.bool on, .bool pa, .int .u64 id, .int .i64 I] 65)).heap.size = w.heap.size + 1 := by simp
  rw [hsz] at hz1
  have HNX := Aside0.mk (fun W (hW : Below w.heap.size w W) => cnext_calls l hl on pa id I A cp W (Kd.C_below hC hW))
  obtain ⟨g, hg⟩ : ∃ g, g = w.heap.size + 1 := ⟨_, rfl⟩
  obtain ⟨g0, hg0⟩ : ∃ g0, g0 = w.heap.size := ⟨_, rfl⟩
  clear hC hl hz0 hb0 hsz
  go_enter Try.func47, Try.ntmps47
  go_upto_region 1 with fail
  rw [← hg] at hz1 ⊢
  generalize ((w.alloc (.cells #[.bool on, .bool pa, .int .u64 id, .int .i64 I] 65)).alloc (.cells #[.bool false, .bool false, .int .u64 0, .int .i64 0] 65)) = W2 at hz1 hb1 hz0' ⊢
  rw [← hg0] at hz0' ⊢
  have HG : Aside0 (w.heap.size ≤ g) := ⟨by omega⟩
  clear hg hg0
  have p0 := blk_cell hz0' 0
  have p1 := blk_cell hz0' 1
  have p2 := blk_cell hz0' 2
  have p3 := blk_cell hz0' 3
  have HZ0 := Aside0.mk hz0'
  have HZ1 := Aside0.mk hz1
  have HB1 := Aside0.mk hb1
  clear hz0' hz1 hb1
  go_upto_region 2 with (go_at_call 46; refine (HNX.out _ HB1.out).mono ?_; rintro e w3 ⟨A7, c7, x, i, b, hno, rfl, -, -, hb3⟩)
  have HB4 := below_alloc (below_then HB1.out HB1.out.size hb3) (.cells #[.int .u64 x.f0, .int .u64 x.f1, .int .i64 x.f2, .int .i64 x.f3, .int .u64 x.f4, .bool x.f5, .int .i64 x.f6, .slice A7 x.f7.length c7] 29)
  have hz0 := blk_alloc (blk_below HZ0.out hb3) (.cells #[.int .u64 x.f0, .int .u64 x.f1, .int .i64 x.f2, .int .i64 x.f3, .int .u64 x.f4, .bool x.f5, .int .i64 x.f6, .slice A7 x.f7.length c7] 29)
  have hz1 := blk_alloc (blk_below HZ1.out hb3) (.cells #[.int .u64 x.f0, .int .u64 x.f1, .int .i64 x.f2, .int .i64 x.f3, .int .u64 x.f4, .bool x.f5, .int .i64 x.f6, .slice A7 x.f7.length c7] 29)
  have hh := heap_alloc_new w3 (.cells #[.int .u64 x.f0, .int .u64 x.f1, .int .i64 x.f2, .int .i64 x.f3, .int .u64 x.f4, .bool x.f5, .int .i64 x.f6, .slice A7 x.f7.length c7] 29)
  generalize w3.alloc (.cells #[.int .u64 x.f0, .int .u64 x.f1, .int .i64 x.f2, .int .i64 x.f3, .int .u64 x.f4, .bool x.f5, .int .i64 x.f6, .slice A7 x.f7.length c7] 29) = W4 at HB4 hz0 hz1 hh ⊢
  obtain ⟨h7, hh7⟩ : ∃ h7, h7 = w3.heap.size := ⟨_, rfl⟩
  rw [← hh7] at hh ⊢
  clear p0 p1 p2 p3 hh7 HZ0 HZ1 HB1 HNX hb3
  have HB4' := Aside0.mk HB4
  have HH := Aside0.mk hh
  have HZ0 := Aside0.mk hz0
  have HZ1 := Aside0.mk hz1
  clear HB4 hh hz0 hz1
  cases b with
  | false =>
    have HNO := Aside0.mk (show stepOf on pa id I l = (on, pa, id, I, false) by unfold stepOf; rw [hno]; rfl)
    have HST := Aside0.mk (put4_blk HZ1.out on pa id I)
    have HBS := Aside0.mk (put4_below HB4'.out HG.out on pa id I)
    have p0 := blk_cell HZ0.out 0
    have p1 := blk_cell HZ0.out 1
    have p2 := blk_cell HZ0.out 2
    have p3 := blk_cell HZ0.out 3
    have d0 := blk_cell HZ1.out 0
    have e0 := blk_frozen HZ1.out 0
    have d1 := blk_cell HZ1.out 1
    have e1 := blk_frozen HZ1.out 1
    have d2 := blk_cell HZ1.out 2
    have e2 := blk_frozen HZ1.out 2
    have d3 := blk_cell HZ1.out 3
    have e3 := blk_frozen HZ1.out 3
    clear hno
    go_wp2_with fail
    refine bodyPost_ret (results_ct rfl _ _ g 65 _ (0, 0) _ _ rfl rfl HST.out Try.underlying65 rfl (by kernel_rfl)) rfl ?_
    exact ⟨on, pa, id, I, false, HNO.out, rfl, HBS.out⟩
  | true =>
    obtain ⟨j, hj⟩ : ∃ j, IntKind.i64.wrap (i + 1) = j := ⟨_, rfl⟩
    have hst : stepOf on pa id I l = if j ≥ fr x.f3 then (false, pa, 0, 0, true) else (true, pa, x.f0, j, false) := by
      unfold stepOf; rw [hno, ← hj]; rfl
    have HFR := Aside0.mk (fun W => frames_calls x.f3 W)
    have y3 := blk_cell HH.out 3
    clear hno
    by_cases hge : j ≥ fr x.f3
    case pos =>
      have tg : decide (j ≥ fr x.f3) = true := decide_eq_true hge
      rw [if_pos hge] at hst
      replace hst := Aside0.mk hst
      clear hge
      go_upto_region 5 with (go_at_call 29; refine (HFR.out _).mono ?_; rintro e w5 ⟨rfl, hb5⟩)
      have HZ0 := blk_below HZ0.out hb5
      have HZ1 := blk_below HZ1.out hb5
      have HB5 := below_then HB4'.out HB4'.out.size hb5
      have HST := Aside0.mk (put4_blk HZ1 false pa 0 0)
      have HBS := Aside0.mk (put4_below HB5 HG.out false pa 0 0)
      have p0 := blk_cell HZ0 0
      have p1 := blk_cell HZ0 1
      have p2 := blk_cell HZ0 2
      have p3 := blk_cell HZ0 3
      have d0 := blk_cell HZ1 0
      have e0 := blk_frozen HZ1 0
      have d1 := blk_cell HZ1 1
      have e1 := blk_frozen HZ1 1
      have d2 := blk_cell HZ1 2
      have e2 := blk_frozen HZ1 2
      have d3 := blk_cell HZ1 3
      have e3 := blk_frozen HZ1 3
      clear HZ0 HZ1 HB5 y3 hb5
      go_wp2_with fail
      refine bodyPost_ret (results_ct rfl _ _ g 65 _ (0, 0) _ _ rfl rfl HST.out Try.underlying65 rfl (by kernel_rfl)) rfl ?_
      exact ⟨false, pa, 0, 0, true, hst.out, rfl, HBS.out⟩
    case neg =>
      have tg : decide (j ≥ fr x.f3) = false := decide_eq_false hge
      rw [if_neg hge] at hst
      replace hst := Aside0.mk hst
      clear hge
      go_upto_region 6 with (go_at_call 29; refine (HFR.out _).mono ?_; rintro e w5 ⟨rfl, hb5⟩)
      have HZ0 := blk_below HZ0.out hb5
      have HZ1 := blk_below HZ1.out hb5
      have HH5 := blk_below HH.out hb5
      have HB5 := below_then HB4'.out HB4'.out.size hb5
      have HST := Aside0.mk (put4_blk HZ1 true pa x.f0 j)
      have HBS := Aside0.mk (put4_below HB5 HG.out true pa x.f0 j)
      clear y3
      have y0 := blk_cell HH5 0
      have p0 := blk_cell HZ0 0
      have p1 := blk_cell HZ0 1
      have p2 := blk_cell HZ0 2
      have p3 := blk_cell HZ0 3
      have d0 := blk_cell HZ1 0
      have e0 := blk_frozen HZ1 0
      have d1 := blk_cell HZ1 1
      have e1 := blk_frozen HZ1 1
      have d2 := blk_cell HZ1 2
      have e2 := blk_frozen HZ1 2
      have d3 := blk_cell HZ1 3
      have e3 := blk_frozen HZ1 3
      clear HZ0 HZ1 HB5 hb5 HH5
      go_wp2_with fail
      refine bodyPost_ret (results_ct rfl _ _ g 65 _ (0, 0) _ _ rfl rfl HST.out Try.underlying65 rfl (by kernel_rfl)) rfl ?_
      exact ⟨true, pa, x.f0, j, false, hst.out, rfl, HBS.out⟩
end Go.Proofs.Ytnopjcakilfepaa.QS
namespace Go.Proofs.Ytnopjcakilfepaa.QS
set_option linter.unusedVariables false
set_option linter.unusedSimpArgs false
open Go.RowKit Go.Proofs.Ytnopjcakilfepaa.SS Go.Proofs.Ytnopjcakilfepaa.Hp Go.Proofs.YtnopjcakilfepaaW.PrintWords Go.Proofs.YtnopjcakilfepaaW.PrintLast Go.Proofs.YtnopjcakilfepaaW.PrintMore
def sumF (l : List R0) : Int := l.foldl (fun n x => IntKind.i64.wrap (n + fr x.f3)) 0
theorem sumF_succ {o : List R0} {i : Nat} {x : R0} (h : o[i]? = some x) : sumF (o.take (i + 1)) = IntKind.i64.wrap (sumF (o.take i) + fr x.f3) := by
  unfold sumF
  rw [List.take_add_one, h, List.foldl_append]
  rfl
def leftOf (on : Bool) (id I : Int) (l : List R0) : Int := if (mineOf on id I l).isSome = true then IntKind.i64.wrap (sumF (orderOf l) - I) else sumF (orderOf l)
set_option maxHeartbeats 2000000 in
set_option maxRecDepth 100000 in
theorem left_calls (l : List R0) (hl : lightL l) (on pa : Bool) (id I : Int) (A : Option Addr) (cp : Nat) (w : World) (hC : Kd.C k29 w A l.length l) :
    Calls Try.prog 45 #[.slice A l.length cp, .agg #[.bool on, .bool pa, .int .u64 id, .int .i64 I]] w fun e w' => e = .returned (.int .i64 (leftOf on id I l)) ∧ Below w.heap.size w w' := by
  have hz0 := heap_alloc_new w (.cells #[.bool on, .bool pa, .int .u64 id, .int .i64 I] 65)
  have hb0 := below_alloc (Below.refl w.heap.size w) (.cells #[.bool on, .bool pa, .int .u64 id, .int .i64 I] 65)
  have HMI := Aside0.mk (fun W (hW : Below w.heap.size w W) => mine_calls l hl on pa id I A cp W (Kd.C_below hC hW))
  have HOR := Aside0.mk (fun W (hW : Below w.heap.size w W) => order_calls l hl A cp W (Kd.C_below hC hW))
  obtain ⟨g0, hg0⟩ : ∃ g0, g0 = w.heap.size := ⟨_, rfl⟩
  obtain ⟨o, ho⟩ : ∃ o, o = orderOf l := ⟨_, rfl⟩
  have HON : Aside0 (o.length ≤ 1000) := ⟨by have := order_len l; have := hl.1; rw [ho]; omega⟩
  have HLE : Aside0 (leftOf on id I l = if (mineOf on id I l).isSome = true then IntKind.i64.wrap (sumF o - I) else sumF o) := ⟨by rw [ho]; rfl⟩
  rw [← ho] at HOR
  clear hC hl ho
  go_enter Try.func45, Try.ntmps45
  go_upto_region 1 with fail
  rw [← hg0] at hz0 ⊢
  generalize w.alloc (.cells #[.bool on, .bool pa, .int .u64 id, .int .i64 I] 65) = W1 at hz0 hb0 ⊢
  clear hg0
  have HZ0 := Aside0.mk hz0
  have HB0 := Aside0.mk hb0
  clear hz0 hb0
  go_wp2_with (go_at_call 13; refine (HOR.out _ HB0.out).mono ?_; rintro e w2 ⟨v, rfl, hr, hb⟩; obtain ⟨Ao, co, rfl, hlo, hCo⟩ := Kd.R_reads hr; have HCO := Aside0.mk hCo; have HB2 := Aside0.mk hb; clear hr hlo hCo hb)
  go_loopg [5, 13] (o.length + 1) (fun kq v5 v13 w' => ∃ i : Nat, v5 = .int .i64 (sumF (o.take i)) ∧ v13 = .int .i64 (i : Int) ∧ Aside0 (i ≤ o.length ∧ kq + i = o.length + 1) ∧ Aside0 (Below w2.heap.size w2 w'))
  case atStart => exact ⟨0, rfl, rfl, ⟨Nat.zero_le _, rfl⟩, ⟨Below.refl _ _⟩⟩
  case round =>
    obtain ⟨i, rfl, rfl, HI, BB⟩ := hrel
    by_cases hi : i < o.length
    case neg =>
      have hie : i = o.length := by have := HI.out; omega
      subst hie
      have t1 : decide ((o.length : Int) < (o.length : Int)) = false := decide_eq_false (by omega)
      rw [List.take_length]
      have HB3 := Aside0.mk (below_then (below_then HB0.out HB0.out.size HB2.out) (Nat.le_trans HB0.out.size HB2.out.size) BB.out)
      have HZ3 := Aside0.mk (blk_below (blk_below HZ0.out HB2.out) BB.out)
      have p0 := blk_cell HZ3.out 0
      have p1 := blk_cell HZ3.out 1
      have p2 := blk_cell HZ3.out 2
      have p3 := blk_cell HZ3.out 3
      clear hi
      cases hm : mineOf on id I l with
      | none =>
        rw [hm] at HMI HLE
        clear hm
        go_upto_region 8 with (go_at_call 62; refine (HMI.out _ HB3.out).mono ?_; rintro e w4 ⟨A7, c7, x, rfl, -, -, -, -, hb4⟩; replace hb4 := Aside0.mk hb4)
        have HB5 := Aside0.mk (below_alloc (below_then HB3.out HB3.out.size hb4.out) (.cells #[.int .u64 x.f0, .int .u64 x.f1, .int .i64 x.f2, .int .i64 x.f3, .int .u64 x.f4, .bool x.f5, .int .i64 x.f6, .slice A7 x.f7.length c7] 29))
        generalize w4.alloc (.cells #[.int .u64 x.f0, .int .u64 x.f1, .int .i64 x.f2, .int .i64 x.f3, .int .u64 x.f4, .bool x.f5, .int .i64 x.f6, .slice A7 x.f7.length c7] 29) = W5 at HB5 ⊢
        clear hb4 p0 p1 p2 p3
        go_wp2_with fail
        go_ret
        exact ⟨by rw [HLE.out] <;> rfl, HB5.out⟩
      | some x0 =>
        rw [hm] at HMI HLE
        clear hm
        go_upto_region 8 with (go_at_call 62; refine (HMI.out _ HB3.out).mono ?_; rintro e w4 ⟨A7, c7, x, rfl, -, -, -, -, hb4⟩; replace hb4 := Aside0.mk hb4)
        have HB5 := Aside0.mk (below_alloc (below_then HB3.out HB3.out.size hb4.out) (.cells #[.int .u64 x.f0, .int .u64 x.f1, .int .i64 x.f2, .int .i64 x.f3, .int .u64 x.f4, .bool x.f5, .int .i64 x.f6, .slice A7 x.f7.length c7] 29))
        have HZ5 := Aside0.mk (blk_alloc (blk_below HZ3.out hb4.out) (.cells #[.int .u64 x.f0, .int .u64 x.f1, .int .i64 x.f2, .int .i64 x.f3, .int .u64 x.f4, .bool x.f5, .int .i64 x.f6, .slice A7 x.f7.length c7] 29))
        generalize w4.alloc (.cells #[.int .u64 x.f0, .int .u64 x.f1, .int .i64 x.f2, .int .i64 x.f3, .int .u64 x.f4, .bool x.f5, .int .i64 x.f6, .slice A7 x.f7.length c7] 29) = W5 at HB5 HZ5 ⊢
        clear hb4 p0 p1 p2 p3
        have p3 := blk_cell HZ5.out 3
        go_wp2_with fail
        go_ret
        exact ⟨by rw [HLE.out, if_pos (by rfl), i64_w] <;> rfl, HB5.out⟩
    case pos =>
      have t1 : decide ((i : Int) < (o.length : Int)) = true := decide_eq_true (by omega)
      have t2 : decide (i < o.length) = true := decide_eq_true hi
      obtain ⟨ad, Ap, cpp, rfl, hx0, hx1, hx2, hx3, hx4, hx5, hx6, hx7, hlp, hCp⟩ := at_T29 (Kd.C_below HCO.out BB.out) (i : Int) (by omega) (by omega)
      obtain ⟨x, hxe⟩ : ∃ x, o[i]? = some x := ⟨_, List.getElem?_eq_getElem hi⟩
      have hrd : rd_T29 o (i : Int) = x := by
        unfold rd_T29
        rw [Int.toNat_natCast, List.getD_eq_getElem?_getD, hxe]
        rfl
      rw [hrd] at hx0 hx1 hx2 hx3 hx4 hx5 hx6 hx7
      rw [Int.toNat_natCast] at hx0 hx1 hx2 hx3 hx4 hx5 hx6 hx7
      have p1 := eq_true (show (0 : Int) ≤ (i : Int) by omega)
      have q1 := eq_true (show (i : Int) < (o.length : Int) by omega)
      have HI2 := Aside0.mk hi
      have HWI : IntKind.i64.wrap ((i : Int) + 1) = ((i + 1 : Nat) : Int) := by rw [i64_w]; unfold wrap64; have := HON.out; omega
      have HSU := Aside0.mk (sumF_succ hxe)
      have HFR := Aside0.mk (fun W => frames_calls x.f3 W)
      obtain ⟨s, hs⟩ : ∃ s, s = sumF (o.take i) := ⟨_, rfl⟩
      rw [← hs] at HSU ⊢
      obtain ⟨s', hs'⟩ : ∃ s', IntKind.i64.wrap (s + fr x.f3) = s' := ⟨_, rfl⟩
      rw [hs'] at HSU
      have HB5 := below_alloc BB.out (.cells #[.int .u64 x.f0, .int .u64 x.f1, .int .i64 x.f2, .int .i64 x.f3, .int .u64 x.f4, .bool x.f5, .int .i64 x.f6, .slice Ap x.f7.length cpp] 29)
      have hz5 := heap_alloc_new wr (.cells #[.int .u64 x.f0, .int .u64 x.f1, .int .i64 x.f2, .int .i64 x.f3, .int .u64 x.f4, .bool x.f5, .int .i64 x.f6, .slice Ap x.f7.length cpp] 29)
      clear hlp hCp hrd hxe hi hs
      go_upto_region 5 with fail
      generalize wr.alloc (.cells #[.int .u64 x.f0, .int .u64 x.f1, .int .i64 x.f2, .int .i64 x.f3, .int .u64 x.f4, .bool x.f5, .int .i64 x.f6, .slice Ap x.f7.length cpp] 29) = W5 at HB5 hz5 ⊢
      replace HB5 := Aside0.mk HB5
      obtain ⟨h7, hh7⟩ : ∃ h7, h7 = wr.heap.size := ⟨_, rfl⟩
      rw [← hh7] at hz5 ⊢
      have y3 := blk_cell hz5 3
      clear hh7 hz5 hx0 hx1 hx2 hx3 hx4 hx5 hx6 hx7
      go_wp2_with (go_at_call 29; refine (HFR.out _).mono ?_; rintro e w6 ⟨rfl, hb⟩; replace hb := Aside0.mk hb)
      go_roundg (o.length - i)
      case measure => have := HI.out; have := HI2.out; omega
      case rel => exact ⟨i + 1, by first | (rw [HSU.out]; rfl) | (rw [HSU.out, ← hs', i64_w]) | (rw [HSU.out, ← hs']), by first | rfl | (rw [← i64_w, HWI]) | (simp; unfold wrap64; have := HI2.out; have := HON.out; omega), ⟨by have := HI2.out; omega, by have := HI.out; have := HI2.out; omega⟩, ⟨below_then HB5.out HB5.out.size hb.out⟩⟩
end Go.Proofs.Ytnopjcakilfepaa.QS
