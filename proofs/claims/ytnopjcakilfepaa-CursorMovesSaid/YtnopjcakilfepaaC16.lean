/- cursor.Left: how many frames are to be sent. -/
import Derived.Test.YtnopjcakilfepaaC15
namespace Go.Proofs.Ytnopjcakilfepaa.QS
set_option linter.unusedVariables false
set_option linter.unusedSimpArgs false
open Go.RowKit Go.Proofs.Ytnopjcakilfepaa.SS Go.Proofs.Ytnopjcakilfepaa.Hp Go.Proofs.YtnopjcakilfepaaW.PrintWords Go.Proofs.YtnopjcakilfepaaW.PrintLast Go.Proofs.YtnopjcakilfepaaW.PrintMore
def sumF (l : List R0) : Int := l.foldl (fun n x => IntKind.i64.wrap (n + fr x.f3)) 0
theorem sumF_succ {o : List R0} {i : Nat} {x : R0} (h : o[i]? = some x) : sumF (o.take (i + 1)) = IntKind.i64.wrap (sumF (o.take i) + fr x.f3) := by
  unfold sumF
  rw [List.take_add_one, h, List.foldl_append]
  rfl
def leftOf (on : Bool) (id I : Int) (l : List R0) : Int := if (mineOf on id I l).isSome = true then IntKind.i64.wrap (sumF (orderOf l) - I) else sumF (orderOf l)
set_option maxHeartbeats 2000000 in
set_option maxRecDepth 100000 in
theorem left_calls (l : List R0) (hl : lightL l) (on pa : Bool) (id I : Int) (A : Option Addr) (cp : Nat) (w : World) (hC : Kd.C k29 w A l.length l) :
    Calls Try.prog 45 #[.slice A l.length cp, .agg #[.bool on, .bool pa, .int .u64 id, .int .i64 I]] w fun e w' => e = .returned (.int .i64 (leftOf on id I l)) ∧ Below w.heap.size w w' := by
  have hz0 := heap_alloc_new w (.cells #[.bool on, .bool pa, .int .u64 id, .int .i64 I] 65)
  have hb0 := below_alloc (Below.refl w.heap.size w) (.cells #[.bool on, .bool pa, .int .u64 id, .int .i64 I] 65)
  have HMI := Aside0.mk (fun W (hW : Below w.heap.size w W) => mine_calls l hl on pa id I A cp W (Kd.C_below hC hW))
  have HOR := Aside0.mk (fun W (hW : Below w.heap.size w W) => order_calls l hl A cp W (Kd.C_below hC hW))
  obtain ⟨g0, hg0⟩ : ∃ g0, g0 = w.heap.size := ⟨_, rfl⟩
  obtain ⟨o, ho⟩ : ∃ o, o = orderOf l := ⟨_, rfl⟩
  have HON : Aside0 (o.length ≤ 1000) := ⟨by have := order_len l; have := hl.1; rw [ho]; omega⟩
  have HLE : Aside0 (leftOf on id I l = if (mineOf on id I l).isSome = true then IntKind.i64.wrap (sumF o - I) else sumF o) := ⟨by rw [ho]; rfl⟩
  rw [← ho] at HOR
  clear hC hl ho
  go_enter Try.func45, Try.ntmps45
  go_upto_region 1 with fail
  rw [← hg0] at hz0 ⊢
  generalize w.alloc (.cells #[.bool on, .bool pa, .int .u64 id, .int .i64 I] 65) = W1 at hz0 hb0 ⊢
  clear hg0
  have HZ0 := Aside0.mk hz0
  have HB0 := Aside0.mk hb0
  clear hz0 hb0
  go_wp2_with (go_at_call 13; refine (HOR.out _ HB0.out).mono ?_; rintro e w2 ⟨v, rfl, hr, hb⟩; obtain ⟨Ao, co, rfl, hlo, hCo⟩ := Kd.R_reads hr; have HCO := Aside0.mk hCo; have HB2 := Aside0.mk hb; clear hr hlo hCo hb)
  go_loopg [5, 13] (o.length + 1) (fun kq v5 v13 w' => ∃ i : Nat, v5 = .int .i64 (sumF (o.take i)) ∧ v13 = .int .i64 (i : Int) ∧ Aside0 (i ≤ o.length ∧ kq + i = o.length + 1) ∧ Aside0 (Below w2.heap.size w2 w'))
  case atStart => exact ⟨0, rfl, rfl, ⟨Nat.zero_le _, rfl⟩, ⟨Below.refl _ _⟩⟩
  case round =>
    obtain ⟨i, rfl, rfl, HI, BB⟩ := hrel
    by_cases hi : i < o.length
    case neg =>
      have hie : i = o.length := by have := HI.out; omega
      subst hie
      have t1 : decide ((o.length : Int) < (o.length : Int)) = false := decide_eq_false (by omega)
      rw [List.take_length]
      have HB3 := Aside0.mk (below_then (below_then HB0.out HB0.out.size HB2.out) (Nat.le_trans HB0.out.size HB2.out.size) BB.out)
      have HZ3 := Aside0.mk (blk_below (blk_below HZ0.out HB2.out) BB.out)
      have p0 := blk_cell HZ3.out 0
      have p1 := blk_cell HZ3.out 1
      have p2 := blk_cell HZ3.out 2
      have p3 := blk_cell HZ3.out 3
      clear hi
      cases hm : mineOf on id I l with
      | none =>
        rw [hm] at HMI HLE
        clear hm
        go_upto_region 8 with (go_at_call 62; refine (HMI.out _ HB3.out).mono ?_; rintro e w4 ⟨A7, c7, x, rfl, -, -, -, -, hb4⟩; replace hb4 := Aside0.mk hb4)
        have HB5 := Aside0.mk (below_alloc (below_then HB3.out HB3.out.size hb4.out) (.cells #[.int .u64 x.f0, .int .u64 x.f1, .int .i64 x.f2, .int .i64 x.f3, .int .u64 x.f4, .bool x.f5, .int .i64 x.f6, .slice A7 x.f7.length c7] 29))
        generalize w4.alloc (.cells #[.int .u64 x.f0, .int .u64 x.f1, .int .i64 x.f2, .int .i64 x.f3, .int .u64 x.f4, .bool x.f5, .int .i64 x.f6, .slice A7 x.f7.length c7] 29) = W5 at HB5 ⊢
        clear hb4 p0 p1 p2 p3
        go_wp2_with fail
        go_ret
        exact ⟨by rw [HLE.out] <;> rfl, HB5.out⟩
      | some x0 =>
        rw [hm] at HMI HLE
        clear hm
        go_upto_region 8 with (go_at_call 62; refine (HMI.out _ HB3.out).mono ?_; rintro e w4 ⟨A7, c7, x, rfl, -, -, -, -, hb4⟩; replace hb4 := Aside0.mk hb4)
        have HB5 := Aside0.mk (below_alloc (below_then HB3.out HB3.out.size hb4.out) (.cells #[.int .u64 x.f0, .int .u64 x.f1, .int .i64 x.f2, .int .i64 x.f3, .int .u64 x.f4, .bool x.f5, .int .i64 x.f6, .slice A7 x.f7.length c7] 29))
        have HZ5 := Aside0.mk (blk_alloc (blk_below HZ3.out hb4.out) (.cells #[.int .u64 x.f0, .int .u64 x.f1, .int .i64 x.f2, .int .i64 x.f3, .int .u64 x.f4, .bool x.f5, .int .i64 x.f6, .slice A7 x.f7.length c7] 29))
        generalize w4.alloc (.cells #[.int .u64 x.f0, .int .u64 x.f1, .int .i64 x.f2, .int .i64 x.f3, .int .u64 x.f4, .bool x.f5, .int .i64 x.f6, .slice A7 x.f7.length c7] 29) = W5 at HB5 HZ5 ⊢
        clear hb4 p0 p1 p2 p3
        have p3 := blk_cell HZ5.out 3
        go_wp2_with fail
        go_ret
        exact ⟨by rw [HLE.out, if_pos (by rfl), i64_w] <;> rfl, HB5.out⟩
    case pos =>
      have t1 : decide ((i : Int) < (o.length : Int)) = true := decide_eq_true (by omega)
      have t2 : decide (i < o.length) = true := decide_eq_true hi
      obtain ⟨ad, Ap, cpp, rfl, hx0, hx1, hx2, hx3, hx4, hx5, hx6, hx7, hlp, hCp⟩ := at_T29 (Kd.C_below HCO.out BB.out) (i : Int) (by omega) (by omega)
      obtain ⟨x, hxe⟩ : ∃ x, o[i]? = some x := ⟨_, List.getElem?_eq_getElem hi⟩
      have hrd : rd_T29 o (i : Int) = x := by
        unfold rd_T29
        rw [Int.toNat_natCast, List.getD_eq_getElem?_getD, hxe]
        rfl
      rw [hrd] at hx0 hx1 hx2 hx3 hx4 hx5 hx6 hx7
      rw [Int.toNat_natCast] at hx0 hx1 hx2 hx3 hx4 hx5 hx6 hx7
      have p1 := eq_true (show (0 : Int) ≤ (i : Int) by omega)
      have q1 := eq_true (show (i : Int) < (o.length : Int) by omega)
      have HI2 := Aside0.mk hi
      have HWI : IntKind.i64.wrap ((i : Int) + 1) = ((i + 1 : Nat) : Int) := by rw [i64_w]; unfold wrap64; have := HON.out; omega
      have HSU := Aside0.mk (sumF_succ hxe)
      have HFR := Aside0.mk (fun W => frames_calls x.f3 W)
      obtain ⟨s, hs⟩ : ∃ s, s = sumF (o.take i) := ⟨_, rfl⟩
      rw [← hs] at HSU ⊢
      obtain ⟨s', hs'⟩ : ∃ s', IntKind.i64.wrap (s + fr x.f3) = s' := ⟨_, rfl⟩
      rw [hs'] at HSU
      have HB5 := below_alloc BB.out (.cells #[.int .u64 x.f0, .int .u64 x.f1, .int .i64 x.f2, .int .i64 x.f3, .int .u64 x.f4, .bool x.f5, .int .i64 x.f6, .slice Ap x.f7.length cpp] 29)
      have hz5 := heap_alloc_new wr (.cells #[.int .u64 x.f0, .int .u64 x.f1, .int .i64 x.f2, .int .i64 x.f3, .int .u64 x.f4, .bool x.f5, .int .i64 x.f6, .slice Ap x.f7.length cpp] 29)
      clear hlp hCp hrd hxe hi hs
      go_upto_region 5 with fail
      generalize wr.alloc (.cells #[.int .u64 x.f0, .int .u64 x.f1, .int .i64 x.f2, .int .i64 x.f3, .int .u64 x.f4, .bool x.f5, .int .i64 x.f6, .slice Ap x.f7.length cpp] 29) = W5 at HB5 hz5 ⊢
      replace HB5 := Aside0.mk HB5
      obtain ⟨h7, hh7⟩ : ∃ h7, h7 = wr.heap.size := ⟨_, rfl⟩
      rw [← hh7] at hz5 ⊢
      have y3 := blk_cell hz5 3
      clear hh7 hz5 hx0 hx1 hx2 hx3 hx4 hx5 hx6 hx7
      go_wp2_with (go_at_call 29; refine (HFR.out _).mono ?_; rintro e w6 ⟨rfl, hb⟩; replace hb := Aside0.mk hb)
      go_roundg (o.length - i)
      case measure => have := HI.out; have := HI2.out; omega
      case rel => exact ⟨i + 1, by first | (rw [HSU.out]; rfl) | (rw [HSU.out, ← hs', i64_w]) | (rw [HSU.out, ← hs']), by first | rfl | (rw [← i64_w, HWI]) | (simp; unfold wrap64; have := HI2.out; have := HON.out; omega), ⟨by have := HI2.out; omega, by have := HI.out; have := HI2.out; omega⟩, ⟨below_then HB5.out HB5.out.size hb.out⟩⟩
end Go.Proofs.Ytnopjcakilfepaa.QS
