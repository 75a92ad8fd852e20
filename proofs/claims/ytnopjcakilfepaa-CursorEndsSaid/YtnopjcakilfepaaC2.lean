import Derived.Test.YtnopjcakilfepaaC1
import Derived.Test.YtnopjcakilfepaaHp2
import Derived.Test.YtnopjcakilfepaaHp2
import Derived.Test.YtnopjcakilfepaaHp2
namespace Go.Proofs.Ytnopjcakilfepaa.QS
set_option linter.unusedVariables false
set_option linter.unusedSimpArgs false
open Go.RowKit Go.Proofs.Ytnopjcakilfepaa.SS Go.Proofs.Ytnopjcakilfepaa.Hp Go.Proofs.YtnopjcakilfepaaW.PrintWords Go.Proofs.YtnopjcakilfepaaW.PrintLast Go.Proofs.YtnopjcakilfepaaW.PrintMore
theorem inf_rec : (Try.prog.info? 29).map (fun i => (i.zero, i.size, i.bytes)) = some (some (.agg #[(.int .u64 0), (.int .u64 0), (.int .i64 0), (.int .i64 0), (.int .u64 0), (.bool false), (.int .i64 0), (.slice none 0 0)]), 8, 80) := by kernel_rfl
def R0.agg (x : R0) (A : Option Addr) (c : Nat) : Value := .agg #[.int .u64 x.f0, .int .u64 x.f1, .int .i64 x.f2, .int .i64 x.f3, .int .u64 x.f4, .bool x.f5, .int .i64 x.f6, .slice A x.f7.length c]
set_option maxHeartbeats 4000000 in
set_option maxRecDepth 100000 in
theorem some_calls (K : FuncId) (fn : Func) (caps : Array Value) (hK : Try.prog.funcs[K]? = some fn) (hname : (fn.name == "runtime.NumGoroutine") = false) (hbody : fn.body.isSome = true) (so : R0 → Bool) (l : List R0) (A : Option Addr) (cp : Nat) (w : World) (hn : l.length ≤ 1000) (hp : ∀ x ∈ l, x.f7.length ≤ 1000) (hC : Kd.C k29 w A l.length l)
    (hso : ∀ W, Below w.heap.size w W → ∀ (x : R0) (Ap : Option Addr) (cpp : Nat), Calls Try.prog K (#[.agg #[.int .u64 x.f0, .int .u64 x.f1, .int .i64 x.f2, .int .i64 x.f3, .int .u64 x.f4, .bool x.f5, .int .i64 x.f6, .slice Ap x.f7.length cpp]] ++ caps) W fun e w' => e = .returned (.bool (so x)) ∧ Below W.heap.size W w') :
    Calls Try.prog 49 #[.slice A l.length cp, .func (.func K) #[] caps] w fun e w' => ∃ v, e = .returned v ∧ Kd.R k29 29 w' w.heap.size (fun k => w.heap.size ≤ k) v (l.filter fun x => !x.f5 && so x) ∧ Below w.heap.size w w' := by
  have HR := Aside0.mk hC
  have HN := Aside0.mk (And.intro hn hp)
  have HSO := Aside0.mk hso
  have hcf := fun (args : Array Value) (W : World) => enters_ (P := Try.prog) hK hname hbody args W
  clear hC hn hp hso hK hname hbody
  go_enter Try.func49, Try.ntmps49
  go_wp2_with fail
  go_loopg [5, 10] (l.length + 1) (fun kq v5 v10 w' => ∃ i : Nat, v10 = .int .i64 (i : Int) ∧ Aside0 (i ≤ l.length ∧ kq + i = l.length + 1) ∧ Aside0 (Kd.R k29 29 w' w.heap.size (fun k => w.heap.size ≤ k) v5 ((l.take i).filter fun x => !x.f5 && so x)) ∧ Aside0 (Below w.heap.size w w'))
  case atStart => exact ⟨0, rfl, ⟨Nat.zero_le _, rfl⟩, ⟨Kd.R_nil _ _ _ _ _⟩, ⟨Below.refl _ _⟩⟩
  case round =>
    obtain ⟨i, rfl, HI, HO, BB⟩ := hrel
    by_cases hi : i < l.length
    case neg =>
      have hie : i = l.length := by have := HI.out; omega
      subst hie
      have t1 : decide ((l.length : Int) < (l.length : Int)) = false := decide_eq_false (by omega)
      have ho := HO.out
      rw [List.take_length] at ho
      replace ho := Aside0.mk ho
      clear HO hi
      go_wp2_with fail
      go_ret
      exact ⟨_, rfl, ho.out, BB.out⟩
    case pos =>
      have t1 : decide ((i : Int) < (l.length : Int)) = true := decide_eq_true (by omega)
      have t2 : decide (i < l.length) = true := decide_eq_true hi
      obtain ⟨ad, Ap, cpp, rfl, hx0, hx1, hx2, hx3, hx4, hx5, hx6, hx7, hlp, hCp⟩ := at_T29 (Kd.C_below HR.out BB.out) (i : Int) (by omega) (by omega)
      obtain ⟨x, hxe⟩ : ∃ x, x = l[i] := ⟨_, rfl⟩
      have hrd : rd_T29 l (i : Int) = x := by
        unfold rd_T29
        rw [hxe, Int.toNat_natCast, List.getD_eq_getElem?_getD, List.getElem?_eq_getElem hi]
        rfl
      rw [hrd] at hx0 hx1 hx2 hx3 hx4 hx5 hx6 hx7 hlp hCp
      rw [Int.toNat_natCast] at hx0 hx1 hx2 hx3 hx4 hx5 hx6 hx7
      have hxp := HN.out.2 x (by rw [hxe]; exact List.getElem_mem hi)
      have p1 : (0 : Int) ≤ (i : Int) := by omega
      have q1 : (i : Int) < (l.length : Int) := by omega
      replace p1 := eq_true p1
      replace q1 := eq_true q1
      have HCP := Aside0.mk (And.intro hlp (And.intro hCp hxp))
      have hfil : (l.take (i + 1)).filter (fun x => !x.f5 && so x) = (l.take i).filter (fun x => !x.f5 && so x) ++ (if (!x.f5 && so x) = true then [x] else []) := by
        rw [List.take_add_one, List.getElem?_eq_getElem hi, List.filter_append, ← hxe]
        by_cases h : (!x.f5 && so x) = true
        · rw [if_pos h]; simp [h]
        · rw [if_neg h]; simp [h]
      have HFI := Aside0.mk hfil
      have HI2 := Aside0.mk hi
      have HWI : IntKind.i64.wrap ((i : Int) + 1) = ((i + 1 : Nat) : Int) := by rw [i64_w]; unfold wrap64; have := HN.out.1; omega
      clear hlp hCp hxp hrd hxe hfil hi
      cases hpl : x.f5 with
      | true =>
        rw [hpl] at hx5
        have hfl : (l.take (i + 1)).filter (fun x => !x.f5 && so x) = (l.take i).filter (fun x => !x.f5 && so x) := by rw [HFI.out, if_neg (by rw [hpl]; simp), List.append_nil]
        replace hfl := Aside0.mk hfl
        clear hpl
        go_wp2_with fail
        go_roundg (l.length - i)
        case measure => have := HI.out; have := HI2.out; omega
        case rel => exact ⟨i + 1, by first | rfl | (rw [← i64_w, HWI]) | (simp; unfold wrap64; have := HI2.out; have := HN.out.1; omega), ⟨by have := HI2.out; omega, by have := HI.out; have := HI2.out; omega⟩, ⟨by rw [hfl.out]; exact Kd.R_alloc HO.out _⟩, ⟨below_alloc BB.out _⟩⟩
      | false =>
        rw [hpl] at hx5
        have hbx := heap_alloc_new wr (.cells #[.int .u64 x.f0, .int .u64 x.f1, .int .i64 x.f2, .int .i64 x.f3, .int .u64 x.f4, .bool false, .int .i64 x.f6, .slice Ap x.f7.length cpp] 29)
        have hbb := below_alloc BB.out (.cells #[.int .u64 x.f0, .int .u64 x.f1, .int .i64 x.f2, .int .i64 x.f3, .int .u64 x.f4, .bool false, .int .i64 x.f6, .slice Ap x.f7.length cpp] 29)
        have hsc := HSO.out _ hbb x Ap cpp
        rw [hpl] at hsc
        replace hsc := Aside0.mk hsc
        have HOb := Kd.R_mono (Kd.R_bound HO.out) (fun k hk => (⟨hk.1, hk.2.2.1⟩ : w.heap.size ≤ k ∧ k < wr.heap.size))
        have HO1 := Aside0.mk (Kd.R_alloc HOb (.cells #[.int .u64 x.f0, .int .u64 x.f1, .int .i64 x.f2, .int .i64 x.f3, .int .u64 x.f4, .bool false, .int .i64 x.f6, .slice Ap x.f7.length cpp] 29))
        have HCP1 := Aside0.mk (Kd.C_below HCP.out.2.1 (below_alloc (Below.refl wr.heap.size wr) (.cells #[.int .u64 x.f0, .int .u64 x.f1, .int .i64 x.f2, .int .i64 x.f3, .int .u64 x.f4, .bool false, .int .i64 x.f6, .slice Ap x.f7.length cpp] 29)))
        have HLT := Aside0.mk (Kd.R_lt HO.out)
        clear HOb
        replace hbx := Aside0.mk hbx
        replace hbb := Aside0.mk hbb
        have HSZ : Aside0 (wr.heap.size < (wr.alloc (.cells #[.int .u64 x.f0, .int .u64 x.f1, .int .i64 x.f2, .int .i64 x.f3, .int .u64 x.f4, .bool false, .int .i64 x.f6, .slice Ap x.f7.length cpp] 29)).heap.size) := ⟨by simp⟩
        go_upto_region 5 with fail
        generalize wr.alloc (.cells #[.int .u64 x.f0, .int .u64 x.f1, .int .i64 x.f2, .int .i64 x.f3, .int .u64 x.f4, .bool false, .int .i64 x.f6, .slice Ap x.f7.length cpp] 29) = W1 at hbx hbb hsc HO1 HCP1 HSZ ⊢
        clear hx0 hx1 hx2 hx3 hx4 hx5 hx6 hx7 p1 q1 t1 t2 HO
        have c0 := blk_cell hbx.out 0
        have c1 := blk_cell hbx.out 1
        have c2 := blk_cell hbx.out 2
        have c3 := blk_cell hbx.out 3
        have c4 := blk_cell hbx.out 4
        have c5 := blk_cell hbx.out 5
        have c6 := blk_cell hbx.out 6
        have c7 := blk_cell hbx.out 7
        cases hsx : so x with
        | false =>
          rw [hsx] at hsc
          have hfl : (l.take (i + 1)).filter (fun x => !x.f5 && so x) = (l.take i).filter (fun x => !x.f5 && so x) := by rw [HFI.out, if_neg (by rw [hsx]; simp), List.append_nil]
          replace hfl := Aside0.mk hfl
          clear hsx hpl
          go_wp2_with (refine hsc.out.mono ?_; rintro e w2 ⟨rfl, hb⟩; replace hb := Aside0.mk hb)
          go_roundg (l.length - i)
          case measure => have := HI.out; have := HI2.out; omega
          case rel => exact ⟨i + 1, by first | rfl | (rw [← i64_w, HWI]) | (simp; unfold wrap64; have := HI2.out; have := HN.out.1; omega), ⟨by have := HI2.out; omega, by have := HI.out; have := HI2.out; omega⟩, ⟨by rw [hfl.out]; exact Kd.R_mono (Kd.R_below HO1.out hb.out) (fun _ hk => hk.1)⟩, ⟨below_then hbb.out hbb.out.size hb.out⟩⟩
        | true =>
          rw [hsx] at hsc
          have hfl : (l.take (i + 1)).filter (fun x => !x.f5 && so x) = (l.take i).filter (fun x => !x.f5 && so x) ++ [x] := by rw [HFI.out, if_pos (by rw [hsx, hpl]; rfl)]
          replace hfl := Aside0.mk hfl
          replace hpl := Aside0.mk hpl
          clear hsx
          go_upto_region 6 with (refine hsc.out.mono ?_; rintro e w2 ⟨rfl, hb⟩)
          clear c0 c1 c2 c3 c4 c5 c6 c7
          have hbx2 := blk_below hbx.out hb
          have c7 := blk_cell hbx2 7
          have HIC := Aside0.mk (iclone_calls Ap cpp x.f7 w2 (by have := HCP.out.2.2; omega) (Kd.C_below HCP1.out hb))
          have HO2 := Aside0.mk (Kd.R_below HO1.out hb)
          have hbb2 := Aside0.mk (below_then hbb.out hbb.out.size hb)
          have HSZ2 : Aside0 (wr.heap.size < w2.heap.size) := ⟨Nat.lt_of_lt_of_le HSZ.out hb.size⟩
          replace hbx2 := Aside0.mk hbx2
          clear hbx hb HO1 hbb HCP1 HSZ hsc
          go_upto_region 7 with (go_at_call 68; refine HIC.out.mono ?_; rintro e w3 ⟨v7, rfl, h7, hb⟩; obtain ⟨A7, cp7, rfl⟩ := Kd.R_slice h7; have hbx3 := blk_below hbx2.out hb; have k7 := blk_cell hbx3 7; have f7 := blk_frozen hbx3 7; have h7' := Aside0.mk h7; replace hb := Aside0.mk hb; clear h7)
          have z3 := blk_set hbx3 7 (.slice A7 x.f7.length cp7)
          have hne : ∀ k, w2.heap.size ≤ k → k ≠ wr.heap.size := fun k hk => by have := HSZ2.out; omega
          have H7 := Kd.R_far (p := ⟨wr.heap.size, 7, none⟩) h7'.out hne (.slice A7 x.f7.length cp7)
          have HO3 := Kd.R_far (p := ⟨wr.heap.size, 7, none⟩) (Kd.R_below HO2.out hb.out) (fun k hk => by have := hk.2; show k ≠ wr.heap.size; omega) (.slice A7 x.f7.length cp7)
          have HB3 := (below_then hbb2.out hbb2.out.size hb.out).setCell (p := ⟨wr.heap.size, 7, none⟩) BB.out.size (.slice A7 x.f7.length cp7)
          have hs3 : w2.heap.size ≤ (w3.setCell ⟨wr.heap.size, 7, none⟩ (.slice A7 x.f7.length cp7)).heap.size := by have := hb.out.size; simpa using this
          generalize w3.setCell ⟨wr.heap.size, 7, none⟩ (.slice A7 x.f7.length cp7) = w4 at z3 H7 HO3 HB3 hs3 ⊢
          have d0 := blk_cell z3 0
          have d1 := blk_cell z3 1
          have d2 := blk_cell z3 2
          have d3 := blk_cell z3 3
          have d4 := blk_cell z3 4
          have d5 := blk_cell z3 5
          have d6 := blk_cell z3 6
          have d7 := blk_cell z3 7
          replace HO3 := Aside0.mk (Kd.R_mono HO3 (fun _ hk => hk.1))
          replace H7 := Aside0.mk (Kd.R_lower H7 (Nat.le_trans BB.out.size (Nat.le_of_lt HSZ2.out)))
          replace HB3 := Aside0.mk HB3
          have HSZ4 := Aside0.mk hs3
          clear z3 c7 k7 f7 hbx3 hbx2 hb h7' HO2 hbb2 HIC hne hs3
          have HNW : Aside0 (∀ k, w2.heap.size ≤ k → w.heap.size ≤ k ∧ some k ≠ u5.ownBlock) := ⟨fun k hk => ⟨by have := HSZ2.out; have := BB.out.size; omega, fun h => by have := HLT.out k h.symm; have := HSZ2.out; omega⟩⟩
          have HM := Aside0.mk (k29_mkM w4 w.heap.size _ x H7.out)
          have HLN : Aside0 (((l.take i).filter (fun x => !x.f5 && so x)).length ≤ 1000) := ⟨by have h1 := List.length_filter_le (fun x => !x.f5 && so x) (l.take i); have h2 := List.length_take_le i l; have := HN.out.1; rw [List.length_take] at h1; omega⟩
          rw [hpl.out] at HM
          go_wp2_with (at_builtin; (refine Kd.R_append k29 w.heap.size rfl _ _ 22 29 _ 80 rfl Try.underlying22 inf_rec rfl (by decide) (by decide) u5 _ x _ (fun k => w.heap.size ≤ k) (fun k => w2.heap.size ≤ k) rfl rfl HM.out HNW.out (fun k hk => Nat.le_trans HB3.out.size hk) HO3.out HB3.out HB3.out.size (Nat.le_trans (Nat.mul_le_mul_right 80 (Nat.succ_le_succ HLN.out)) (by decide)) ?_); intro v1 w5 ho5 hb5 hg5 _; replace ho5 := Aside0.mk ho5; replace hb5 := Aside0.mk hb5; clear hg5)
          go_roundg (l.length - i)
          case measure => have := HI.out; have := HI2.out; omega
          case rel => exact ⟨i + 1, by first | rfl | (rw [← i64_w, HWI]) | (simp; unfold wrap64; have := HI2.out; have := HN.out.1; omega), ⟨by have := HI2.out; omega, by have := HI.out; have := HI2.out; omega⟩, ⟨by rw [hfl.out]; exact ho5.out⟩, hb5⟩
end Go.Proofs.Ytnopjcakilfepaa.QS
