/- Parts of the proof of the statement IndexDoes, laid together (6 of 6). -/
import Derived.Deep.DeepCutAuto
import Derived.Deep.CutBlock
import Derived.OpenShut
import Derived.SizedLaws
import Derived.ChangeSlices
import Derived.Test.YtaepbgieahedjaaRows
import Derived.WalkKit
import Derived.ProofKit
import Derived.ShutString
import Derived.ChangeOld
import Derived.Below
import Derived.Test.YtaepbgieahedjaaZIndexDoes4
namespace Go.Proofs.Ytaepbgieahedjaa.QS
set_option linter.unusedVariables false
set_option linter.unusedSimpArgs false
open Go.RowKit Go.Proofs.Ytaepbgieahedjaa.Hp Go.Proofs.YtaepbgieahedjaaW.PrintWords Go.Proofs.YtaepbgieahedjaaW.PrintLast Go.Proofs.YtaepbgieahedjaaW.PrintMore
open Go.Proofs.Ytaepbgieahedjaa.IP
section
variable {P : Program} {ops : Array Oper} {o og : Oper} {a : Act} {g : Nat} {u : Bool} {t : Tmp}
theorem wanted_undef (hg : o.guard = some (g, u)) (ho : ops[g]? = some og) (hd : og.dst = some t) (hv : a.tmps[t]? = some undef) : Region.wanted o (yielded ops a.tmps) = false := by
  cases u <;> simp_all [Region.wanted, yielded] <;> exact fun h => by cases h
end
def ido14n.T14 : Bool × List (List Nat × List Nat) := (true, [([], []), ([0], [0]), ([1], [1]), ([2], [2]), ([3, 2], [2, 3]), ([2, 4], [2, 4]), ([5, 2], [5]), ([6], [6]), ([7, 6], [6, 7]), ([8, 6, 6], [6, 8]), ([9], [9]), ([10, 9], [9, 10]), ([11, 9, 9], [9, 11]), ([12], [12]), ([12], [12]), ([12], [12]), ([14, 15, 12], [12, 14, 15]), ([16, 12], [12, 16]), ([13, 17, 12, 12], [12, 13, 17]), ([18, 12], [12, 18]), ([12, 19, 9], [9, 12, 19]), ([9, 20, 6], [6, 9, 20]), ([6, 21], [6, 21])])
def ido14n.B14 : List Nat := [0, 1, 3, 7, 15, 31, 63, 127, 255, 511, 1023, 2047, 4095, 8191, 8191, 8191, 57343, 122879, 262143, 524287, 1048575, 2097151, 4194303]
theorem ido14n.tab14 : rtab .any (opsOf Try.f4 14) = ido14n.T14 := by kernel_rfl
theorem ido14n.bits14 : waitsOk ido14n.T14.2 ido14n.B14 = true := by kernel_rfl
def ido14y.T14 : Bool × List (List Nat × List Nat) := (true, [([], []), ([0], [0]), ([1], [1]), ([2], [2]), ([3, 2], [2, 3]), ([2, 4], [2, 4]), ([5, 2], [5]), ([6], [6]), ([7, 6], [6, 7]), ([8, 6, 6], [6, 8]), ([9], [9]), ([10, 9], [9, 10]), ([11, 9, 9], [9, 11]), ([12], [12]), ([12], [12]), ([12], [12]), ([14, 15, 12], [12, 14, 15]), ([16, 12], [12, 16]), ([13, 17, 12, 12], [12, 13, 17]), ([18, 12], [12, 18]), ([12, 19, 9], [9, 12, 19]), ([9, 20, 6], [6, 9, 20]), ([6, 21], [6, 21])])
def ido14y.B14 : List Nat := [0, 1, 3, 7, 15, 31, 63, 127, 255, 511, 1023, 2047, 4095, 8191, 8191, 8191, 57343, 122879, 262143, 524287, 1048575, 2097151, 4194303]
theorem ido14y.tab14 : rtab .any (opsOf Try.f4 14) = ido14y.T14 := by kernel_rfl
theorem ido14y.bits14 : waitsOk ido14y.T14.2 ido14y.B14 = true := by kernel_rfl
def ido17.T17 : Bool × List (List Nat × List Nat) := (true, [([], []), ([], []), ([], []), ([1, 2], [1, 2]), ([0, 3], [0, 3]), ([], []), ([], []), ([6], [6]), ([5, 7], [5, 7]), ([4, 8, 4], [4, 8]), ([9, 9, 0, 1, 2, 3, 4, 5, 6, 7, 8, 9], [1, 5, 9])])
def ido17.B17 : List Nat := [0, 0, 0, 6, 15, 0, 0, 64, 224, 511, 1023]
theorem ido17.tab17 : rtab .any (opsOf Try.f4 17) = ido17.T17 := by kernel_rfl
theorem ido17.bits17 : waitsOk ido17.T17.2 ido17.B17 = true := by kernel_rfl
def ido25n.T25 : Bool × List (List Nat × List Nat) := (true, [([], []), ([], []), ([1], [1]), ([0, 2], [0, 2]), ([3], [3]), ([4], [4]), ([5, 4, 4], [4, 5]), ([6], [6]), ([6], [6]), ([6], [6]), ([8, 9, 6], [6, 8, 9]), ([10, 6], [6, 10]), ([7, 11, 6, 6], [6, 7, 11]), ([12, 6], [6, 12]), ([6, 13, 4], [4, 6, 13]), ([4, 14], [4, 14])])
def ido25n.B25 : List Nat := [0, 0, 2, 7, 15, 31, 63, 127, 127, 127, 895, 1919, 4095, 8191, 16383, 32767]
theorem ido25n.tab25 : rtab .any (opsOf Try.f4 25) = ido25n.T25 := by kernel_rfl
theorem ido25n.bits25 : waitsOk ido25n.T25.2 ido25n.B25 = true := by kernel_rfl
def ido25y.T25 : Bool × List (List Nat × List Nat) := (true, [([], []), ([], []), ([1], [1]), ([0, 2], [0, 2]), ([3], [3]), ([4], [4]), ([5, 4, 4], [4, 5]), ([6], [6]), ([6], [6]), ([6], [6]), ([8, 9, 6], [6, 8, 9]), ([10, 6], [6, 10]), ([7, 11, 6, 6], [6, 7, 11]), ([12, 6], [6, 12]), ([6, 13, 4], [4, 6, 13]), ([4, 14], [4, 14])])
def ido25y.B25 : List Nat := [0, 0, 2, 7, 15, 31, 63, 127, 127, 127, 895, 1919, 4095, 8191, 16383, 32767]
theorem ido25y.tab25 : rtab .any (opsOf Try.f4 25) = ido25y.T25 := by kernel_rfl
theorem ido25y.bits25 : waitsOk ido25y.T25.2 ido25y.B25 = true := by kernel_rfl
set_option maxHeartbeats 16000000 in
set_option maxRecDepth 100000 in
theorem does_calls (l : List S41) (A : Option Addr) (cp : Nat) (now : Int) (w : World) (hC : Kd.C k41 w A l.length l) (hln : l.length ≤ 9223372036854775807) : Calls Try.prog 4 #[.slice A l.length cp, .int .u64 now] w fun e w' => e = .returned (.bool true) ∧ Below w.heap.size w w' := by
  have HC := Aside0.mk hC
  have HL := Aside0.mk hln
  clear hC hln
  go_enter Try.func4, Try.ntmps4
  go_upto_block 0 with (first
    | (go_at_call 7; refine (new_empty none 0 _).mono ?_; rintro e w3 ⟨g0, rfl, hX, hb⟩; have HX := Aside0.mk hX; have HB3 := Aside0.mk hb; clear hX hb)
    | (go_at_call 6; refine (awake27_calls _).mono ?_; rintro e w4 ⟨rfl, hb⟩; have HX4 := Aside0.mk (HX.out.below hb); have HB4 := Aside0.mk (below_then HB3.out HB3.out.size hb); clear hb))
  obtain ⟨r0, hx4⟩ := HX4.out.r
  have HX0 : Aside0 (IXr w4 w.heap.size g0 [] r0) := ⟨hx4⟩
  clear hx4 HX4 HX HB3
  go_wp2_with fail
  go_loopg [6, 7] (l.length + 1) (fun kq v6 v7 w' => ∃ (i : Nat) (cur : List R0) (Aw : Option Addr) (cw : Nat) (r : Option Nat), v6 = .slice Aw cur.length cw ∧ v7 = .int .i64 (i : Int) ∧ Aside0 (i ≤ l.length ∧ kq + i = l.length + 1) ∧ Aside0 (GoodL cur i) ∧ Aside0 (IXr w' w.heap.size g0 cur r) ∧ Aside0 (Want w' g0 r Aw cw cur) ∧ Aside0 (Below w.heap.size w w'))
  case atStart => exact ⟨0, [], none, 0, r0, rfl, rfl, ⟨Nat.zero_le _, rfl⟩, ⟨rising_nil, Nat.le_refl _, by decide, fun x hx => by cases hx⟩, HX0, ⟨Want.nil _ _ _⟩, HB4⟩
  case round =>
    obtain ⟨i, cur, Aw, cw, r, rfl, rfl, HI, HG, HX, HW, BB⟩ := hrel
    clear HX0 HB4
    have i40 : i ≤ 40 ∨ 40 < i := by omega
    by_cases hi : i < l.length ∧ i < 40
    case neg =>
      have HP : Aside0 (cur.length ≤ 1000 ∧ ∀ y ∈ cur, y.f7.length ≤ 1000) := ⟨by have h := HG.out; unfold GoodL at h; omega, fun y hy => by have := HG.out.2.2.2 y hy; omega⟩
      obtain ⟨fo, hfo⟩ : ∃ fo, fo = cur.filter fun x => decide (x.f4 ≤ now) := ⟨_, rfl⟩
      obtain ⟨fa, hfa⟩ : ∃ fa, fa = cur.filter fun x => decide (now < x.f4) := ⟨_, rfl⟩
      have HPO : Aside0 (fo.length ≤ 1000 ∧ ∀ y ∈ fo, y.f7.length ≤ 1000) := ⟨by have h1 := List.length_filter_le (fun x : R0 => decide (x.f4 ≤ now)) cur; have := HP.out.1; rw [hfo]; omega, fun y hy => by rw [hfo] at hy; exact HP.out.2 y (List.mem_filter.1 hy).1⟩
      have HPA : Aside0 (fa.length ≤ 1000 ∧ ∀ y ∈ fa, y.f7.length ≤ 1000) := ⟨by have h1 := List.length_filter_le (fun x : R0 => decide (now < x.f4)) cur; have := HP.out.1; rw [hfa]; omega, fun y hy => by rw [hfa] at hy; exact HP.out.2 y (List.mem_filter.1 hy).1⟩
      have HOV : Aside0 (∀ W, IX W w.heap.size g0 cur → Calls Try.prog 22 #[.pointer (some ⟨g0, 0, none⟩), .int .u64 now] W fun e w' => SomeTo W w' e fo) := ⟨fun W h => by rw [hfo]; exact over_calls h HP.out.1 HP.out.2 now⟩
      have HAL : Aside0 (∀ W, IX W w.heap.size g0 cur → Calls Try.prog 24 #[.pointer (some ⟨g0, 0, none⟩), .int .u64 now] W fun e w' => SomeTo W w' e fa) := ⟨fun W h => by rw [hfa]; exact alive_calls h HP.out.1 HP.out.2 now⟩
      have HSO : Aside0 (∀ W, Want W g0 r Aw cw cur → Calls Try.prog 23 #[.slice Aw cur.length cw, .int .u64 now, .bool true] W fun e w' => ∃ v, e = .returned v ∧ Kd.V k29 29 w' W.heap.size (fun k => Off g0 r k ∨ W.heap.size ≤ k) v fo ∧ Below W.heap.size W w') := ⟨fun W h => by rw [hfo, ← some_true]; exact rsome_calls cur now true (by have := HP.out.1; omega) Aw cw W (Off g0 r) h.1 h.2⟩
      have HSA : Aside0 (∀ W, Want W g0 r Aw cw cur → Calls Try.prog 23 #[.slice Aw cur.length cw, .int .u64 now, .bool false] W fun e w' => ∃ v, e = .returned v ∧ Kd.V k29 29 w' W.heap.size (fun k => Off g0 r k ∨ W.heap.size ≤ k) v fa ∧ Below W.heap.size W w') := ⟨fun W h => by rw [hfa, ← some_false]; exact rsome_calls cur now false (by have := HP.out.1; omega) Aw cw W (Off g0 r) h.1 h.2⟩
      clear hfo hfa
      by_cases h1 : i < l.length
      case' neg =>
        have t1 : decide ((i : Int) < (l.length : Int)) = false := decide_eq_false (by omega)
        have t3 : decide (i < l.length) = false := decide_eq_false h1
        have t2 := True.intro
        have t4 := True.intro
      case' pos =>
        have t1 : decide ((i : Int) < (l.length : Int)) = true := decide_eq_true (by omega)
        have t3 : decide (i < l.length) = true := decide_eq_true h1
        have t2 : decide ((i : Int) < 40) = false := decide_eq_false (by omega)
        have t4 : decide (i < 40) = false := decide_eq_false (by omega)
      all_goals
        clear hi h1 i40
        go_upto_region 27 with fail
        clear t1 t2 t3 t4
        go_wp2_with (first
          | (go_at_call 21; (with_reducible refine (all_calls HX.out.ix HP.out.1 HP.out.2).mono ?_); rintro e w5 ⟨v, rfl, hR, hb⟩; obtain ⟨A5, c5, rfl, hl5, hC5⟩ := Kd.R_reads hR; have HC5 := Aside0.mk (And.intro hC5 hl5); clear hR hC5 hl5; have HX5 := Aside0.mk (HX.out.below hb); have HW5 := Aside0.mk (HW.out.below hb); have HB5 := Aside0.mk (below_then BB.out BB.out.size hb); clear hb)
          | (go_at_call 20; (with_reducible refine (rsame_calls cur (by have := HP.out.1; omega) (fun y hy => by have := HP.out.2 y hy; omega) A5 c5 Aw cw _ HC5.out.2 HC5.out.1 HW5.out.le HW5.out.now).mono ?_); rintro e w6 ⟨rfl, hb⟩; have HX6 := Aside0.mk (HX5.out.below hb); have HW6 := Aside0.mk (HW5.out.below hb); have HB6 := Aside0.mk (below_then HB5.out HB5.out.size hb); clear hb HC5)
          | (go_at_call 22; (with_reducible refine (HOV.out _ HX6.out.ix).mono ?_); rintro e w7 ⟨v, rfl, hR, hb⟩; obtain ⟨A7, c7, rfl, hl7, hC7⟩ := Kd.R_reads hR; have HC7 := Aside0.mk (And.intro hC7 hl7); clear hR hC7 hl7; have HX7 := Aside0.mk (HX6.out.below hb); have HW7 := Aside0.mk (HW6.out.below hb); have HB7 := Aside0.mk (below_then HB6.out HB6.out.size hb); clear hb)
          | (go_at_call 23; (with_reducible refine (HSO.out _ HW7.out).mono ?_); rintro e w8 ⟨v, rfl, hV, hb⟩; obtain ⟨A8, c8, rfl⟩ := Kd.V_slice hV; have HV8 := Aside0.mk (Kd.V_reads' hV).2; have HC8 := Aside0.mk (And.intro (Kd.C_below HC7.out.1 hb) HC7.out.2); clear hV; have HX8 := Aside0.mk (HX7.out.below hb); have HW8 := Aside0.mk (HW7.out.below hb); have HB8 := Aside0.mk (below_then HB7.out HB7.out.size hb); clear hb)
          | (go_at_call 20; (with_reducible refine (rsame_calls fo (by have := HPO.out.1; omega) (fun y hy => by have := HPO.out.2 y hy; omega) A7 c7 A8 c8 _ HC8.out.2 HC8.out.1 HV8.out.1 HV8.out.2).mono ?_); rintro e w9 ⟨rfl, hb⟩; have HX9 := Aside0.mk (HX8.out.below hb); have HW9 := Aside0.mk (HW8.out.below hb); have HB9 := Aside0.mk (below_then HB8.out HB8.out.size hb); clear hb HC8 HV8)
          | (go_at_call 24; (with_reducible refine (HAL.out _ HX9.out.ix).mono ?_); rintro e w10 ⟨v, rfl, hR, hb⟩; obtain ⟨A10, c10, rfl, hl10, hC10⟩ := Kd.R_reads hR; have HC10 := Aside0.mk (And.intro hC10 hl10); clear hR hC10 hl10; have HW10 := Aside0.mk (HW9.out.below hb); have HB10 := Aside0.mk (below_then HB9.out HB9.out.size hb); clear hb)
          | (go_at_call 23; (with_reducible refine (HSA.out _ HW10.out).mono ?_); rintro e w11 ⟨v, rfl, hV, hb⟩; obtain ⟨A11, c11, rfl⟩ := Kd.V_slice hV; have HV11 := Aside0.mk (Kd.V_reads' hV).2; have HC11 := Aside0.mk (And.intro (Kd.C_below HC10.out.1 hb) HC10.out.2); clear hV; have HB11 := Aside0.mk (below_then HB10.out HB10.out.size hb); clear hb)
          | (go_at_call 20; (with_reducible refine (rsame_calls fa (by have := HPA.out.1; omega) (fun y hy => by have := HPA.out.2 y hy; omega) A10 c10 A11 c11 _ HC11.out.2 HC11.out.1 HV11.out.1 HV11.out.2).mono ?_); rintro e w12 ⟨rfl, hb⟩; have HB12 := Aside0.mk (below_then HB11.out HB11.out.size hb); clear hb))
        go_ret
        exact ⟨rfl, HB12.out⟩
    case pos =>
      have t1 : decide ((i : Int) < (l.length : Int)) = true := decide_eq_true (by omega)
      have t2 : decide ((i : Int) < 40) = true := decide_eq_true (by omega)
      have t3 : decide (i < l.length) = true := decide_eq_true hi.1
      have t4 : decide (i < 40) = true := decide_eq_true hi.2
      obtain ⟨ad, A8, c8, rfl, y0, y1, y2, y3, y4, y5, y6, y7, y8, y9, hlp, hCp⟩ := at_T41 HC.out (i : Int) (by omega) (by omega)
      obtain ⟨x, hxe⟩ : ∃ x, x = rd_T41 l (i : Int) := ⟨_, rfl⟩
      rw [← hxe] at y0 y1 y2 y3 y4 y5 y6 y7 y8 y9 hlp hCp
      rw [Int.toNat_natCast] at y0 y1 y2 y3 y4 y5 y6 y7 y8 y9
      replace y0 := pw_cell_below BB.out y0
      replace y1 := pw_cell_below BB.out y1
      replace y2 := pw_cell_below BB.out y2
      replace y3 := pw_cell_below BB.out y3
      replace y4 := pw_cell_below BB.out y4
      replace y5 := pw_cell_below BB.out y5
      replace y6 := pw_cell_below BB.out y6
      replace y7 := pw_cell_below BB.out y7
      replace y8 := pw_cell_below BB.out y8
      replace y9 := pw_cell_below BB.out y9
      have p1 := eq_true (show (0 : Int) ≤ (i : Int) by omega)
      have q1 := eq_true (show (i : Int) < (l.length : Int) by omega)
      have HCP := Aside0.mk hCp
      have HLP := Aside0.mk hlp
      have HI2 := Aside0.mk hi
      have hz := heap_alloc_new wr (.cells #[.int .i64 x.f0, .int .u64 x.f1.f0, .int .u64 x.f1.f1, .int .i64 x.f1.f2, .int .i64 x.f1.f3, .int .u64 x.f1.f4, .bool x.f1.f5, .int .i64 x.f1.f6, .slice A8 x.f1.f7.length c8, .int .u64 x.f2] 41)
      have hb := below_alloc (Below.refl wr.heap.size wr) (.cells #[.int .i64 x.f0, .int .u64 x.f1.f0, .int .u64 x.f1.f1, .int .i64 x.f1.f2, .int .i64 x.f1.f3, .int .u64 x.f1.f4, .bool x.f1.f5, .int .i64 x.f1.f6, .slice A8 x.f1.f7.length c8, .int .u64 x.f2] 41)
      obtain ⟨g8, hg8⟩ : ∃ g, g = wr.heap.size := ⟨_, rfl⟩
      have HX1 := Aside0.mk (HX.out.below hb)
      have HW1 := Aside0.mk (HW.out.below hb)
      have HB1 := Aside0.mk (below_then BB.out BB.out.size hb)
      clear hxe hlp hCp hi i40
      go_upto_region 9 with fail
      generalize wr.alloc (.cells #[.int .i64 x.f0, .int .u64 x.f1.f0, .int .u64 x.f1.f1, .int .i64 x.f1.f2, .int .i64 x.f1.f3, .int .u64 x.f1.f4, .bool x.f1.f5, .int .i64 x.f1.f6, .slice A8 x.f1.f7.length c8, .int .u64 x.f2] 41) = W1 at hz hb HX1 HW1 HB1 ⊢
      rw [← hg8] at hz ⊢
      have HZ1 := Aside0.mk hz
      have HG8 : Aside0 (g8 < W1.heap.size ∧ g8 ≠ g0 ∧ some g8 ≠ r) := ⟨blk_lt hz, by have := HX.out.lt.2.1; omega, fun e => by have := (HX.out.lt.2.2 g8 e.symm).2; omega⟩
      clear hz hb hg8 y0 y1 y2 y3 y4 y5 y6 y7 y8 y9 p1 q1 t1 t2 t3 t4 HX HW BB
      have y0 := blk_cell HZ1.out 0
      have y1 := blk_cell HZ1.out 1
      have y2 := blk_cell HZ1.out 2
      have y3 := blk_cell HZ1.out 3
      have y4 := blk_cell HZ1.out 4
      have y5 := blk_cell HZ1.out 5
      have y6 := blk_cell HZ1.out 6
      have y7 := blk_cell HZ1.out 7
      have y8 := blk_cell HZ1.out 8
      have y9 := blk_cell HZ1.out 9
      by_cases hpl : 60 < x.f1.f7.length
      case pos =>
        have t5 : decide ((60 : Int) < ((x.f1.f7.length : Nat) : Int)) = true := decide_eq_true (by omega)
        have t6 : decide (60 < x.f1.f7.length) = true := decide_eq_true hpl
        go_wp2_with fail
        go_ret
        exact ⟨rfl, HB1.out⟩
      case neg =>
        have t5 : decide ((60 : Int) < ((x.f1.f7.length : Nat) : Int)) = false := decide_eq_false (by omega)
        have t6 : decide (60 < x.f1.f7.length) = false := decide_eq_false hpl
        have HPL : Aside0 (x.f1.f7.length ≤ 60) := ⟨by omega⟩
        clear hpl
        go_upto_if 46 with fail
        clear t5 t6 y0 y1 y2 y3 y4 y5 y6 y7 y8 y9
        have HGN : Aside0 (cur.length ≤ 40 ∧ i ≤ 39) := ⟨by have h1 := HG.out; have h2 := HI2.out; unfold GoodL at h1; omega⟩
        go_cut [6] (fun v6 wx => ∃ (cu : List R0) (Au : Option Addr) (cq : Nat) (ru : Option Nat), v6 = .slice Au cu.length cq ∧ Aside0 (GoodL cu (i + 1)) ∧ Aside0 (IXr wx w.heap.size g0 cu ru) ∧ Aside0 (Want wx g0 ru Au cq cu) ∧ Aside0 (Below w.heap.size w wx) ∧ Aside0 (wx.heap[g8]? = some (.cells #[.int .i64 x.f0, .int .u64 x.f1.f0, .int .u64 x.f1.f1, .int .i64 x.f1.f2, .int .i64 x.f1.f3, .int .u64 x.f1.f4, .bool x.f1.f5, .int .i64 x.f1.f6, .slice A8 x.f1.f7.length c8, .int .u64 x.f2] 41 (0, 0))))
        case first =>
          cases hk : (x.f0 == 2) with
          | true =>
            clear hk
            cases hh : hasKey keyR cur x.f2 with
            | false =>
              have HDR := Aside0.mk (drop_no HX1.out.ix HG.out.1 (by have := HGN.out; omega) x.f2 hh)
              have HFP : Aside0 (findP cur x.f2 = -1) := ⟨by unfold findP; rw [hh]; rfl⟩
              have y9 := blk_cell HZ1.out 9
              clear hh
              go_upto_region 13 with (go_at_call 15; refine HDR.out.mono ?_; rintro e w4 ⟨rfl, hb⟩; have HX4 := Aside0.mk (HX1.out.below hb); have HW4 := Aside0.mk (HW1.out.below hb); have HB4 := Aside0.mk (below_then HB1.out HB1.out.size hb); have HZ4 := Aside0.mk (blk_below HZ1.out hb); clear hb)
              clear HDR y9
              have hb := below_alloc (Below.refl w4.heap.size w4) (.cells #[.int .u64 0, .int .u64 0, .int .i64 0, .int .i64 0, .int .u64 0, .bool false, .int .i64 0, .slice none 0 0] 29)
              generalize w4.alloc (.cells #[.int .u64 0, .int .u64 0, .int .i64 0, .int .i64 0, .int .u64 0, .bool false, .int .i64 0, .slice none 0 0] 29) = W5 at hb ⊢
              have HX5 := Aside0.mk (HX4.out.below hb)
              have HW5 := Aside0.mk (HW4.out.below hb)
              have HB5 := Aside0.mk (below_then HB4.out HB4.out.size hb)
              have HZ5 := Aside0.mk (blk_below HZ4.out hb)
              clear hb
              have y9 := blk_cell HZ5.out 9
              have HFN := Aside0.mk (rfind_calls cur x.f2 (by have := HGN.out; omega) HG.out.1 Aw cw W5 HW5.out.1 (Kd.F_now HW5.out.2))
              rw [HFP.out] at HFN
              go_upto_region 14 with (go_at_call 16; refine HFN.out.mono ?_; rintro e w6 ⟨rfl, hb⟩; have HX6 := Aside0.mk (HX5.out.below hb); have HW6 := Aside0.mk (HW5.out.below hb); have HB6 := Aside0.mk (below_then HB5.out HB5.out.size hb); have HZ6 := Aside0.mk (blk_below HZ5.out hb); clear hb)
              clear HFN y9
              have B0 := Aside0.mk (below_drew1 (Below.refl w6.heap.size w6))
              refine start_ (n := 23) (S := fun w' => True) (ds := []) #[false, false, false, false, false, false, false, false, false, false, false, false, false, false, false, false, false, false, false, false, false, false, false] (by kernel_rfl) rfl rfl trivial (fun hHeld => ?_)
              refine with_tabW ido14n.tab14 ido14n.bits14 (fun HT_ HW_ => ?_)
              generalize w6.drew = wq at B0 hHeld ⊢
              refine inv_at [0, 1, 2, 3, 4, 5, 6, 7, 8, 9, 10, 11, 12, 13, 14, 15, 16, 17, 18, 19, 20, 21, 22] (fun a0_ b a w' => a = putSel a0_ b [(0, 58, .int .i64 (-1)), (1, 59, .bool true), (2, 60, .bool true), (3, 61, .int .i64 8), (4, 62, .bool false), (5, 63, .bool false), (6, 64, .bool false), (7, 65, .int .i64 (-1)), (8, 66, .bool false), (9, 67, .bool false), (10, 68, undef), (11, 69, undef), (12, 70, undef), (13, 71, undef), (14, 72, undef), (15, 73, undef), (16, 74, undef), (17, 75, undef), (18, 76, undef), (19, 77, undef), (20, 78, undef), (21, 79, .bool false), (22, 80, .bool false)] ∧ (Below w6.heap.size w6 w')) HT_.out HW_.out (by kernel_rfl) (by kernel_rfl) ?_ ?_ ?_
              · exact ⟨by simp only [putSel, Bool.false_eq_true, if_false], B0.out⟩
              · skip
                clear B0
                refine steps_cons ?_ ?_
                · rintro b a w' ⟨ha, Q_B0⟩ hb_ hon hoff
                  refine ⟨_, rfl, fun K hK => ?_⟩
                  have e11 : a.tmps[11]? = some (.int .i64 (-1)) := by rw [ha]; exact (putSel_off rfl).trans rfl
                  replace ha := Aside0.mk ha
                  have B0 := Aside0.mk Q_B0
                  refine value_ (w1 := w') (v := .int .i64 (-1)) (by rfl) rfl ?_ ?_
                  · go_simp
                    (try simp only [i64_w])
                    try rfl
                  refine hK.out _ _ ⟨(by rw [ha.out]; exact putSel_upk 0 hb_ rfl rfl rfl), Q_B0⟩
                refine steps_cons ?_ ?_
                · rintro b a w' ⟨ha, Q_B0⟩ hb_ hon hoff
                  refine ⟨_, rfl, fun K hK => ?_⟩
                  have e58 : a.tmps[58]? = some (.int .i64 (-1)) := by rw [ha]; exact putSel_on (e := (0, 58, .int .i64 (-1))) 0 rfl rfl (hon 0 (by kernel_rfl)) rfl
                  replace ha := Aside0.mk ha
                  have B0 := Aside0.mk Q_B0
                  refine value_ (w1 := w') (v := .bool true) (by rfl) rfl ?_ ?_
                  · go_simp
                    (try simp only [i64_w])
                    try rfl
                  refine hK.out _ _ ⟨(by rw [ha.out]; exact putSel_upk 1 hb_ rfl rfl rfl), Q_B0⟩
                refine steps_cons ?_ ?_
                · rintro b a w' ⟨ha, Q_B0⟩ hb_ hon hoff
                  refine ⟨_, rfl, fun K hK => ?_⟩
                  have e59 : a.tmps[59]? = some (.bool true) := by rw [ha]; exact putSel_on (e := (1, 59, .bool true)) 1 rfl rfl (hon 1 (by kernel_rfl)) rfl
                  replace ha := Aside0.mk ha
                  have B0 := Aside0.mk Q_B0
                  refine value_ (w1 := w') (v := .bool true) (by rfl) rfl ?_ ?_
                  · go_simp
                    (try simp only [i64_w])
                    try rfl
                  refine hK.out _ _ ⟨(by rw [ha.out]; exact putSel_upk 2 hb_ rfl rfl rfl), Q_B0⟩
                refine steps_cons ?_ ?_
                · rintro b a w' ⟨ha, Q_B0⟩ hb_ hon hoff
                  refine ⟨_, rfl, fun K hK => ?_⟩
                  have e10 : a.tmps[10]? = some (.int .i64 8) := by rw [ha]; exact (putSel_off rfl).trans rfl
                  have e60 : a.tmps[60]? = some (.bool true) := by rw [ha]; exact putSel_on (e := (2, 60, .bool true)) 2 rfl rfl (hon 2 (by kernel_rfl)) rfl
                  replace ha := Aside0.mk ha
                  have B0 := Aside0.mk Q_B0
                  refine value_ (w1 := w') (v := .int .i64 8) (wanted_on rfl rfl rfl (e60.trans (by first | rfl | (simp [*]; done)))) rfl ?_ ?_
                  · go_simp
                    (try simp only [i64_w])
                    try rfl
                  refine hK.out _ _ ⟨(by rw [ha.out]; exact putSel_upk 3 hb_ rfl rfl rfl), Q_B0⟩
                refine steps_cons ?_ ?_
                · rintro b a w' ⟨ha, Q_B0⟩ hb_ hon hoff
                  refine ⟨_, rfl, fun K hK => ?_⟩
                  have e61 : a.tmps[61]? = some (.int .i64 8) := by rw [ha]; exact putSel_on (e := (3, 61, .int .i64 8)) 3 rfl rfl (hon 3 (by kernel_rfl)) rfl
                  have e60 : a.tmps[60]? = some (.bool true) := by rw [ha]; exact putSel_on (e := (2, 60, .bool true)) 2 rfl rfl (hon 2 (by kernel_rfl)) rfl
                  replace ha := Aside0.mk ha
                  have B0 := Aside0.mk Q_B0
                  refine value_ (w1 := w') (v := .bool false) (wanted_on rfl rfl rfl (e60.trans (by first | rfl | (simp [*]; done)))) rfl ?_ ?_
                  · go_simp
                    (try simp only [i64_w])
                    try rfl
                  refine hK.out _ _ ⟨(by rw [ha.out]; exact putSel_upk 4 hb_ rfl rfl rfl), Q_B0⟩
                refine steps_cons ?_ ?_
                · rintro b a w' ⟨ha, Q_B0⟩ hb_ hon hoff
                  refine ⟨_, rfl, fun K hK => ?_⟩
                  have e60 : a.tmps[60]? = some (.bool true) := by rw [ha]; exact putSel_on (e := (2, 60, .bool true)) 2 rfl rfl (hon 2 (by kernel_rfl)) rfl
                  have e62 : a.tmps[62]? = some (.bool false) := by rw [ha]; exact putSel_on (e := (4, 62, .bool false)) 4 rfl rfl (hon 4 (by kernel_rfl)) rfl
                  replace ha := Aside0.mk ha
                  have B0 := Aside0.mk Q_B0
                  refine value_ (w1 := w') (v := .bool false) (by rfl) rfl ?_ ?_
                  · go_simp
                    (try simp only [i64_w])
                    try rfl
                  refine hK.out _ _ ⟨(by rw [ha.out]; exact putSel_upk 5 hb_ rfl rfl rfl), Q_B0⟩
                refine steps_cons ?_ ?_
                · rintro b a w' ⟨ha, Q_B0⟩ hb_ hon hoff
                  refine ⟨_, rfl, fun K hK => ?_⟩
                  have e63 : a.tmps[63]? = some (.bool false) := by rw [ha]; exact putSel_on (e := (5, 63, .bool false)) 5 rfl rfl (hon 5 (by kernel_rfl)) rfl
                  replace ha := Aside0.mk ha
                  have B0 := Aside0.mk Q_B0
                  refine value_ (w1 := w') (v := .bool false) (by rfl) rfl ?_ ?_
                  · go_simp
                    (try simp only [i64_w])
                    try rfl
                  refine hK.out _ _ ⟨(by rw [ha.out]; exact putSel_upk 6 hb_ rfl rfl rfl), Q_B0⟩
                refine steps_cons ?_ ?_
                · rintro b a w' ⟨ha, Q_B0⟩ hb_ hon hoff
                  refine ⟨_, rfl, fun K hK => ?_⟩
                  have e11 : a.tmps[11]? = some (.int .i64 (-1)) := by rw [ha]; exact (putSel_off rfl).trans rfl
                  have e64 : a.tmps[64]? = some (.bool false) := by rw [ha]; exact putSel_on (e := (6, 64, .bool false)) 6 rfl rfl (hon 6 (by kernel_rfl)) rfl
                  replace ha := Aside0.mk ha
                  have B0 := Aside0.mk Q_B0
                  refine value_ (w1 := w') (v := .int .i64 (-1)) (wanted_on rfl rfl rfl (e64.trans (by first | rfl | (simp [*]; done)))) rfl ?_ ?_
                  · go_simp
                    (try simp only [i64_w])
                    try rfl
                  refine hK.out _ _ ⟨(by rw [ha.out]; exact putSel_upk 7 hb_ rfl rfl rfl), Q_B0⟩
                refine steps_cons ?_ ?_
                · rintro b a w' ⟨ha, Q_B0⟩ hb_ hon hoff
                  refine ⟨_, rfl, fun K hK => ?_⟩
                  have e65 : a.tmps[65]? = some (.int .i64 (-1)) := by rw [ha]; exact putSel_on (e := (7, 65, .int .i64 (-1))) 7 rfl rfl (hon 7 (by kernel_rfl)) rfl
                  have e64 : a.tmps[64]? = some (.bool false) := by rw [ha]; exact putSel_on (e := (6, 64, .bool false)) 6 rfl rfl (hon 6 (by kernel_rfl)) rfl
                  replace ha := Aside0.mk ha
                  have B0 := Aside0.mk Q_B0
                  refine value_ (w1 := w') (v := .bool false) (wanted_on rfl rfl rfl (e64.trans (by first | rfl | (simp [*]; done)))) rfl ?_ ?_
                  · go_simp
                    (try simp only [i64_w])
                    try rfl
                  refine hK.out _ _ ⟨(by rw [ha.out]; exact putSel_upk 8 hb_ rfl rfl rfl), Q_B0⟩
                refine steps_cons ?_ ?_
                · rintro b a w' ⟨ha, Q_B0⟩ hb_ hon hoff
                  refine ⟨_, rfl, fun K hK => ?_⟩
                  have e66 : a.tmps[66]? = some (.bool false) := by rw [ha]; exact putSel_on (e := (8, 66, .bool false)) 8 rfl rfl (hon 8 (by kernel_rfl)) rfl
                  have e64 : a.tmps[64]? = some (.bool false) := by rw [ha]; exact putSel_on (e := (6, 64, .bool false)) 6 rfl rfl (hon 6 (by kernel_rfl)) rfl
                  replace ha := Aside0.mk ha
                  have B0 := Aside0.mk Q_B0
                  refine value_ (w1 := w') (v := .bool false) (wanted_on rfl rfl rfl (e64.trans (by first | rfl | (simp [*]; done)))) rfl ?_ ?_
                  · go_simp
                    (try simp only [i64_w])
                    try rfl
                  refine hK.out _ _ ⟨(by rw [ha.out]; exact putSel_upk 9 hb_ rfl rfl rfl), Q_B0⟩
                refine steps_cons ?_ ?_
                · rintro b a w' ⟨ha, Q_B0⟩ hb_ hon hoff
                  refine ⟨_, rfl, fun K hK => ?_⟩
                  have e67 : a.tmps[67]? = some (.bool false) := by rw [ha]; exact putSel_on (e := (9, 67, .bool false)) 9 rfl rfl (hon 9 (by kernel_rfl)) rfl
                  replace ha := Aside0.mk ha
                  have B0 := Aside0.mk Q_B0
                  refine off_ (wanted_off rfl rfl rfl (e67.trans (by first | rfl | (simp [*]; done)))) ?_
                  refine hK.out _ _ ⟨(by rw [ha.out]; exact putSel_upk 10 hb_ rfl rfl rfl), Q_B0⟩
                refine steps_cons ?_ ?_
                · rintro b a w' ⟨ha, Q_B0⟩ hb_ hon hoff
                  refine ⟨_, rfl, fun K hK => ?_⟩
                  have e67 : a.tmps[67]? = some (.bool false) := by rw [ha]; exact putSel_on (e := (9, 67, .bool false)) 9 rfl rfl (hon 9 (by kernel_rfl)) rfl
                  replace ha := Aside0.mk ha
                  have B0 := Aside0.mk Q_B0
                  refine off_ (wanted_off rfl rfl rfl (e67.trans (by first | rfl | (simp [*]; done)))) ?_
                  refine hK.out _ _ ⟨(by rw [ha.out]; exact putSel_upk 11 hb_ rfl rfl rfl), Q_B0⟩
                refine steps_cons ?_ ?_
                · rintro b a w' ⟨ha, Q_B0⟩ hb_ hon hoff
                  refine ⟨_, rfl, fun K hK => ?_⟩
                  have e67 : a.tmps[67]? = some (.bool false) := by rw [ha]; exact putSel_on (e := (9, 67, .bool false)) 9 rfl rfl (hon 9 (by kernel_rfl)) rfl
                  replace ha := Aside0.mk ha
                  have B0 := Aside0.mk Q_B0
                  refine off_ (wanted_off rfl rfl rfl (e67.trans (by first | rfl | (simp [*]; done)))) ?_
                  refine hK.out _ _ ⟨(by rw [ha.out]; exact putSel_upk 12 hb_ rfl rfl rfl), Q_B0⟩
                refine steps_cons ?_ ?_
                · rintro b a w' ⟨ha, Q_B0⟩ hb_ hon hoff
                  refine ⟨_, rfl, fun K hK => ?_⟩
                  have e70 : a.tmps[70]? = some (undef) := by rw [ha]; exact putSel_on (e := (12, 70, undef)) 12 rfl rfl (hon 12 (by kernel_rfl)) rfl
                  replace ha := Aside0.mk ha
                  have B0 := Aside0.mk Q_B0
                  refine off_ (wanted_undef rfl rfl rfl e70) ?_
                  refine hK.out _ _ ⟨(by rw [ha.out]; exact putSel_upk 13 hb_ rfl rfl rfl), Q_B0⟩
                refine steps_cons ?_ ?_
                · rintro b a w' ⟨ha, Q_B0⟩ hb_ hon hoff
                  refine ⟨_, rfl, fun K hK => ?_⟩
                  have e70 : a.tmps[70]? = some (undef) := by rw [ha]; exact putSel_on (e := (12, 70, undef)) 12 rfl rfl (hon 12 (by kernel_rfl)) rfl
                  replace ha := Aside0.mk ha
                  have B0 := Aside0.mk Q_B0
                  refine off_ (wanted_undef rfl rfl rfl e70) ?_
                  refine hK.out _ _ ⟨(by rw [ha.out]; exact putSel_upk 14 hb_ rfl rfl rfl), Q_B0⟩
                refine steps_cons ?_ ?_
                · rintro b a w' ⟨ha, Q_B0⟩ hb_ hon hoff
                  refine ⟨_, rfl, fun K hK => ?_⟩
                  have e70 : a.tmps[70]? = some (undef) := by rw [ha]; exact putSel_on (e := (12, 70, undef)) 12 rfl rfl (hon 12 (by kernel_rfl)) rfl
                  replace ha := Aside0.mk ha
                  have B0 := Aside0.mk Q_B0
                  refine off_ (wanted_undef rfl rfl rfl e70) ?_
                  refine hK.out _ _ ⟨(by rw [ha.out]; exact putSel_upk 15 hb_ rfl rfl rfl), Q_B0⟩
                refine steps_cons ?_ ?_
                · rintro b a w' ⟨ha, Q_B0⟩ hb_ hon hoff
                  refine ⟨_, rfl, fun K hK => ?_⟩
                  have e70 : a.tmps[70]? = some (undef) := by rw [ha]; exact putSel_on (e := (12, 70, undef)) 12 rfl rfl (hon 12 (by kernel_rfl)) rfl
                  replace ha := Aside0.mk ha
                  have B0 := Aside0.mk Q_B0
                  refine off_ (wanted_undef rfl rfl rfl e70) ?_
                  refine hK.out _ _ ⟨(by rw [ha.out]; exact putSel_upk 16 hb_ rfl rfl rfl), Q_B0⟩
                refine steps_cons ?_ ?_
                · rintro b a w' ⟨ha, Q_B0⟩ hb_ hon hoff
                  refine ⟨_, rfl, fun K hK => ?_⟩
                  have e70 : a.tmps[70]? = some (undef) := by rw [ha]; exact putSel_on (e := (12, 70, undef)) 12 rfl rfl (hon 12 (by kernel_rfl)) rfl
                  replace ha := Aside0.mk ha
                  have B0 := Aside0.mk Q_B0
                  refine off_ (wanted_undef rfl rfl rfl e70) ?_
                  refine hK.out _ _ ⟨(by rw [ha.out]; exact putSel_upk 17 hb_ rfl rfl rfl), Q_B0⟩
                refine steps_cons ?_ ?_
                · rintro b a w' ⟨ha, Q_B0⟩ hb_ hon hoff
                  refine ⟨_, rfl, fun K hK => ?_⟩
                  have e70 : a.tmps[70]? = some (undef) := by rw [ha]; exact putSel_on (e := (12, 70, undef)) 12 rfl rfl (hon 12 (by kernel_rfl)) rfl
                  replace ha := Aside0.mk ha
                  have B0 := Aside0.mk Q_B0
                  refine off_ (wanted_undef rfl rfl rfl e70) ?_
                  refine hK.out _ _ ⟨(by rw [ha.out]; exact putSel_upk 18 hb_ rfl rfl rfl), Q_B0⟩
                refine steps_cons ?_ ?_
                · rintro b a w' ⟨ha, Q_B0⟩ hb_ hon hoff
                  refine ⟨_, rfl, fun K hK => ?_⟩
                  have e70 : a.tmps[70]? = some (undef) := by rw [ha]; exact putSel_on (e := (12, 70, undef)) 12 rfl rfl (hon 12 (by kernel_rfl)) rfl
                  replace ha := Aside0.mk ha
                  have B0 := Aside0.mk Q_B0
                  refine off_ (wanted_undef rfl rfl rfl e70) ?_
                  refine hK.out _ _ ⟨(by rw [ha.out]; exact putSel_upk 19 hb_ rfl rfl rfl), Q_B0⟩
                refine steps_cons ?_ ?_
                · rintro b a w' ⟨ha, Q_B0⟩ hb_ hon hoff
                  refine ⟨_, rfl, fun K hK => ?_⟩
                  have e67 : a.tmps[67]? = some (.bool false) := by rw [ha]; exact putSel_on (e := (9, 67, .bool false)) 9 rfl rfl (hon 9 (by kernel_rfl)) rfl
                  replace ha := Aside0.mk ha
                  have B0 := Aside0.mk Q_B0
                  refine off_ (wanted_off rfl rfl rfl (e67.trans (by first | rfl | (simp [*]; done)))) ?_
                  refine hK.out _ _ ⟨(by rw [ha.out]; exact putSel_upk 20 hb_ rfl rfl rfl), Q_B0⟩
                refine steps_cons ?_ ?_
                · rintro b a w' ⟨ha, Q_B0⟩ hb_ hon hoff
                  refine ⟨_, rfl, fun K hK => ?_⟩
                  have e67 : a.tmps[67]? = some (.bool false) := by rw [ha]; exact putSel_on (e := (9, 67, .bool false)) 9 rfl rfl (hon 9 (by kernel_rfl)) rfl
                  have e78 : a.tmps[78]? = some (undef) := by rw [ha]; exact putSel_on (e := (20, 78, undef)) 20 rfl rfl (hon 20 (by kernel_rfl)) rfl
                  have e64 : a.tmps[64]? = some (.bool false) := by rw [ha]; exact putSel_on (e := (6, 64, .bool false)) 6 rfl rfl (hon 6 (by kernel_rfl)) rfl
                  replace ha := Aside0.mk ha
                  have B0 := Aside0.mk Q_B0
                  refine value_ (w1 := w') (v := .bool false) (wanted_on rfl rfl rfl (e64.trans (by first | rfl | (simp [*]; done)))) rfl ?_ ?_
                  · go_simp
                    (try simp only [i64_w])
                    try rfl
                  refine hK.out _ _ ⟨(by rw [ha.out]; exact putSel_upk 21 hb_ rfl rfl rfl), Q_B0⟩
                refine steps_cons ?_ ?_
                · rintro b a w' ⟨ha, Q_B0⟩ hb_ hon hoff
                  refine ⟨_, rfl, fun K hK => ?_⟩
                  have e64 : a.tmps[64]? = some (.bool false) := by rw [ha]; exact putSel_on (e := (6, 64, .bool false)) 6 rfl rfl (hon 6 (by kernel_rfl)) rfl
                  have e79 : a.tmps[79]? = some (.bool false) := by rw [ha]; exact putSel_on (e := (21, 79, .bool false)) 21 rfl rfl (hon 21 (by kernel_rfl)) rfl
                  replace ha := Aside0.mk ha
                  have B0 := Aside0.mk Q_B0
                  refine value_ (w1 := w') (v := .bool false) (by rfl) rfl ?_ ?_
                  · go_simp
                    (try simp only [i64_w])
                    try rfl
                  refine hK.out _ _ ⟨(by rw [ha.out]; exact putSel_upk 22 hb_ rfl rfl rfl), Q_B0⟩
                exact steps_nil
              rintro b a w7 hall ⟨ha, Q_B0⟩
              clear B0
              have hb0_ := hall 0 (by kernel_rfl)
              have hb1_ := hall 1 (by kernel_rfl)
              have hb2_ := hall 2 (by kernel_rfl)
              have hb3_ := hall 3 (by kernel_rfl)
              have hb4_ := hall 4 (by kernel_rfl)
              have hb5_ := hall 5 (by kernel_rfl)
              have hb6_ := hall 6 (by kernel_rfl)
              have hb7_ := hall 7 (by kernel_rfl)
              have hb8_ := hall 8 (by kernel_rfl)
              have hb9_ := hall 9 (by kernel_rfl)
              have hb10_ := hall 10 (by kernel_rfl)
              have hb11_ := hall 11 (by kernel_rfl)
              have hb12_ := hall 12 (by kernel_rfl)
              have hb13_ := hall 13 (by kernel_rfl)
              have hb14_ := hall 14 (by kernel_rfl)
              have hb15_ := hall 15 (by kernel_rfl)
              have hb16_ := hall 16 (by kernel_rfl)
              have hb17_ := hall 17 (by kernel_rfl)
              have hb18_ := hall 18 (by kernel_rfl)
              have hb19_ := hall 19 (by kernel_rfl)
              have hb20_ := hall 20 (by kernel_rfl)
              have hb21_ := hall 21 (by kernel_rfl)
              have hb22_ := hall 22 (by kernel_rfl)
              subst ha
              simp only [putSel, hb0_, hb1_, hb2_, hb3_, hb4_, hb5_, hb6_, hb7_, hb8_, hb9_, hb10_, hb11_, hb12_, hb13_, hb14_, hb15_, hb16_, hb17_, hb18_, hb19_, hb20_, hb21_, hb22_, if_true, Act.put, List.setIfInBounds_toArray, List.set_cons_zero, List.set_cons_succ]
              have B0 := Aside0.mk Q_B0
              clear Q_B0
              clear hall hb0_ hb1_ hb2_ hb3_ hb4_ hb5_ hb6_ hb7_ hb8_ hb9_ hb10_ hb11_ hb12_ hb13_ hb14_ hb15_ hb16_ hb17_ hb18_ hb19_ hb20_ hb21_ hb22_
              have hb := B0.out
              have HX7 := Aside0.mk (HX6.out.below hb)
              have HW7 := Aside0.mk (HW6.out.below hb)
              have HB7 := Aside0.mk (below_then HB6.out HB6.out.size hb)
              have HZ7 := Aside0.mk (blk_below HZ6.out hb)
              clear hb
              go_wp2_with fail
              go_meet
              exact ⟨cur, Aw, cw, r, rfl, ⟨HG.out.more (by have := HGN.out; omega)⟩, HX7, HW7, HB7, HZ7⟩
            | true =>
              obtain ⟨xo, hxo, hlo⟩ := hasKey_get hh
              have HDR := Aside0.mk (drop_yes HX1.out HG.out.1 (by have := HGN.out; omega) x.f2 hh xo hxo)
              have HFP : Aside0 (findP cur x.f2 = (low keyR cur x.f2 : Int)) := ⟨by unfold findP; rw [hh]; rfl⟩
              have HXO := Aside0.mk (And.intro hxo (And.intro hlo (HG.out.2.2.2 xo (List.mem_of_getElem? hxo))))
              obtain ⟨lk, hlk⟩ : ∃ k, k = low keyR cur x.f2 := ⟨_, rfl⟩
              rw [← hlk] at HDR HFP HXO
              have y9 := blk_cell HZ1.out 9
              clear hh hxo hlo hlk
              go_upto_region 13 with (go_at_call 15; refine HDR.out.mono ?_; rintro e w4 ⟨Ao, co, rfl, hCo, hlo, hPT, hb⟩; have HPT := Aside0.mk hPT; have HB4 := Aside0.mk (HB1.out.trans hb); have HO4 := Aside0.mk (And.intro hCo hlo); clear hCo hlo hPT hb)
              obtain ⟨⟨r4, hX4, hr4⟩, hfr⟩ := HPT.out
              have HX4 := Aside0.mk hX4
              have HW4 : Aside0 (Want w4 g0 r4 Aw cw cur) := ⟨HW1.out.moved hfr hr4⟩
              have HZ4 : Aside0 (w4.heap[g8]? = some (.cells #[.int .i64 x.f0, .int .u64 x.f1.f0, .int .u64 x.f1.f1, .int .i64 x.f1.f2, .int .i64 x.f1.f3, .int .u64 x.f1.f4, .bool x.f1.f5, .int .i64 x.f1.f6, .slice A8 x.f1.f7.length c8, .int .u64 x.f2] 41 (0, 0))) := ⟨(hfr g8 HG8.out.1 HG8.out.2.1 HG8.out.2.2).trans HZ1.out⟩
              clear hX4 hr4 hfr HPT
              clear HDR y9
              have hz9 := heap_alloc_new w4 (.cells #[.int .u64 xo.f0, .int .u64 xo.f1, .int .i64 xo.f2, .int .i64 xo.f3, .int .u64 xo.f4, .bool xo.f5, .int .i64 xo.f6, .slice Ao xo.f7.length co] 29)
              have hb := below_alloc (Below.refl w4.heap.size w4) (.cells #[.int .u64 xo.f0, .int .u64 xo.f1, .int .i64 xo.f2, .int .i64 xo.f3, .int .u64 xo.f4, .bool xo.f5, .int .i64 xo.f6, .slice Ao xo.f7.length co] 29)
              obtain ⟨g9, hg9⟩ : ∃ g, g = w4.heap.size := ⟨_, rfl⟩
              generalize w4.alloc (.cells #[.int .u64 xo.f0, .int .u64 xo.f1, .int .i64 xo.f2, .int .i64 xo.f3, .int .u64 xo.f4, .bool xo.f5, .int .i64 xo.f6, .slice Ao xo.f7.length co] 29) = W5 at hz9 hb ⊢
              rw [← hg9] at hz9 ⊢
              have HO5 := Aside0.mk (Kd.C_below HO4.out.1 hb)
              have HZ95 := Aside0.mk hz9
              clear hz9 hg9
              have HX5 := Aside0.mk (HX4.out.below hb)
              have HW5 := Aside0.mk (HW4.out.below hb)
              have HB5 := Aside0.mk (below_then HB4.out HB4.out.size hb)
              have HZ5 := Aside0.mk (blk_below HZ4.out hb)
              clear hb
              have y9 := blk_cell HZ5.out 9
              have HFN := Aside0.mk (rfind_calls cur x.f2 (by have := HGN.out; omega) HG.out.1 Aw cw W5 HW5.out.1 (Kd.F_now HW5.out.2))
              rw [HFP.out] at HFN
              go_upto_region 14 with (go_at_call 16; refine HFN.out.mono ?_; rintro e w6 ⟨rfl, hb⟩; have HO6 := Aside0.mk (Kd.C_below HO5.out hb); have HZ96 := Aside0.mk (blk_below HZ95.out hb); have HX6 := Aside0.mk (HX5.out.below hb); have HW6 := Aside0.mk (HW5.out.below hb); have HB6 := Aside0.mk (below_then HB5.out HB5.out.size hb); have HZ6 := Aside0.mk (blk_below HZ5.out hb); clear hb)
              clear HFN y9 HX5 HW5 HB5 HZ5 HZ95 HO5 HX4 HW4 HB4 HZ4
              obtain ⟨ad, Ap, cpq, hA, x0, x1, x2, x3, x4, x5, x6, x7, hlp, hCp⟩ := C_at (Kd.F_now HW6.out.2) HXO.out.1
              subst hA
              have HWP := Aside0.mk (And.intro hCp hlp)
              have HX6C := Aside0.mk (And.intro x0 (And.intro x1 (And.intro x2 (And.intro x3 (And.intro x4 (And.intro x5 (And.intro x6 x7)))))))
              have p1 := eq_true (show (0 : Int) ≤ (lk : Int) by omega)
              have q1 := eq_true (show (lk : Int) < ((cur.length : Nat) : Int) by have := HXO.out; omega)
              have B0 := Aside0.mk (below_drew1 (Below.refl w6.heap.size w6))
              clear hCp hlp x0 x1 x2 x3 x4 x5 x6 x7
              refine start_ (n := 23) (S := fun w' => True) (ds := []) #[false, false, false, false, false, false, false, false, false, false, false, false, false, false, false, false, false, false, false, false, false, false, false] (by kernel_rfl) rfl rfl trivial (fun hHeld => ?_)
              refine with_tabW ido14y.tab14 ido14y.bits14 (fun HT_ HW_ => ?_)
              generalize w6.drew = wq at B0 hHeld ⊢
              refine inv_at [0, 1, 2, 3, 4, 5, 6, 7, 8, 9, 10, 11, 12, 13, 14, 15, 16, 17, 18, 19, 20, 21, 22] (fun a0_ b a w' => a = putSel a0_ b [(0, 58, .int .i64 (lk : Int)), (1, 59, .bool false), (2, 60, .bool false), (3, 61, undef), (4, 62, undef), (5, 63, .bool false), (6, 64, .bool false), (7, 65, .int .i64 (lk : Int)), (8, 66, .bool true), (9, 67, .bool true), (10, 68, .int .i64 0), (11, 69, .bool false), (12, 70, .bool false), (13, 71, .agg #[.int .u64 xo.f0, .int .u64 xo.f1, .int .i64 xo.f2, .int .i64 xo.f3, .int .u64 xo.f4, .bool xo.f5, .int .i64 xo.f6, .slice Ao xo.f7.length co]), (14, 72, .slice (some ad) cur.length cw), (15, 73, .int .i64 (lk : Int)), (16, 74, .pointer (some (ad.add (lk * 8)))), (17, 75, .agg #[.int .u64 xo.f0, .int .u64 xo.f1, .int .i64 xo.f2, .int .i64 xo.f3, .int .u64 xo.f4, .bool xo.f5, .int .i64 xo.f6, .slice Ap xo.f7.length cpq]), (18, 76, .bool true), (19, 77, .bool false), (20, 78, .bool false), (21, 79, .bool false), (22, 80, .bool false)] ∧ (Below w6.heap.size w6 w')) HT_.out HW_.out (by kernel_rfl) (by kernel_rfl) ?_ ?_ ?_
              · exact ⟨by simp only [putSel, Bool.false_eq_true, if_false], B0.out⟩
              · skip
                clear B0
                refine steps_cons ?_ ?_
                · rintro b a w' ⟨ha, Q_B0⟩ hb_ hon hoff
                  refine ⟨_, rfl, fun K hK => ?_⟩
                  have e11 : a.tmps[11]? = some (.int .i64 (lk : Int)) := by rw [ha]; exact (putSel_off rfl).trans rfl
                  replace ha := Aside0.mk ha
                  have B0 := Aside0.mk Q_B0
                  refine value_ (w1 := w') (v := .int .i64 (lk : Int)) (by rfl) rfl ?_ ?_
                  · go_simp
                    (try simp only [i64_w])
                    try rfl
                  refine hK.out _ _ ⟨(by rw [ha.out]; exact putSel_upk 0 hb_ rfl rfl rfl), Q_B0⟩
                refine steps_cons ?_ ?_
                · rintro b a w' ⟨ha, Q_B0⟩ hb_ hon hoff
                  refine ⟨_, rfl, fun K hK => ?_⟩
                  have e58 : a.tmps[58]? = some (.int .i64 (lk : Int)) := by rw [ha]; exact putSel_on (e := (0, 58, .int .i64 (lk : Int))) 0 rfl rfl (hon 0 (by kernel_rfl)) rfl
                  replace ha := Aside0.mk ha
                  have B0 := Aside0.mk Q_B0
                  refine value_ (w1 := w') (v := .bool false) (by rfl) rfl ?_ ?_
                  · go_simp
                    (try simp only [i64_w])
                    try rfl
                  refine hK.out _ _ ⟨(by rw [ha.out]; exact putSel_upk 1 hb_ rfl rfl rfl), Q_B0⟩
                refine steps_cons ?_ ?_
                · rintro b a w' ⟨ha, Q_B0⟩ hb_ hon hoff
                  refine ⟨_, rfl, fun K hK => ?_⟩
                  have e59 : a.tmps[59]? = some (.bool false) := by rw [ha]; exact putSel_on (e := (1, 59, .bool false)) 1 rfl rfl (hon 1 (by kernel_rfl)) rfl
                  replace ha := Aside0.mk ha
                  have B0 := Aside0.mk Q_B0
                  refine value_ (w1 := w') (v := .bool false) (by rfl) rfl ?_ ?_
                  · go_simp
                    (try simp only [i64_w])
                    try rfl
                  refine hK.out _ _ ⟨(by rw [ha.out]; exact putSel_upk 2 hb_ rfl rfl rfl), Q_B0⟩
                refine steps_cons ?_ ?_
                · rintro b a w' ⟨ha, Q_B0⟩ hb_ hon hoff
                  refine ⟨_, rfl, fun K hK => ?_⟩
                  have e60 : a.tmps[60]? = some (.bool false) := by rw [ha]; exact putSel_on (e := (2, 60, .bool false)) 2 rfl rfl (hon 2 (by kernel_rfl)) rfl
                  replace ha := Aside0.mk ha
                  have B0 := Aside0.mk Q_B0
                  refine off_ (wanted_off rfl rfl rfl (e60.trans (by first | rfl | (simp [*]; done)))) ?_
                  refine hK.out _ _ ⟨(by rw [ha.out]; exact putSel_upk 3 hb_ rfl rfl rfl), Q_B0⟩
                refine steps_cons ?_ ?_
                · rintro b a w' ⟨ha, Q_B0⟩ hb_ hon hoff
                  refine ⟨_, rfl, fun K hK => ?_⟩
                  have e60 : a.tmps[60]? = some (.bool false) := by rw [ha]; exact putSel_on (e := (2, 60, .bool false)) 2 rfl rfl (hon 2 (by kernel_rfl)) rfl
                  replace ha := Aside0.mk ha
                  have B0 := Aside0.mk Q_B0
                  refine off_ (wanted_off rfl rfl rfl (e60.trans (by first | rfl | (simp [*]; done)))) ?_
                  refine hK.out _ _ ⟨(by rw [ha.out]; exact putSel_upk 4 hb_ rfl rfl rfl), Q_B0⟩
                refine steps_cons ?_ ?_
                · rintro b a w' ⟨ha, Q_B0⟩ hb_ hon hoff
                  refine ⟨_, rfl, fun K hK => ?_⟩
                  have e60 : a.tmps[60]? = some (.bool false) := by rw [ha]; exact putSel_on (e := (2, 60, .bool false)) 2 rfl rfl (hon 2 (by kernel_rfl)) rfl
                  have e62 : a.tmps[62]? = some (undef) := by rw [ha]; exact putSel_on (e := (4, 62, undef)) 4 rfl rfl (hon 4 (by kernel_rfl)) rfl
                  replace ha := Aside0.mk ha
                  have B0 := Aside0.mk Q_B0
                  refine value_ (w1 := w') (v := .bool false) (by rfl) rfl ?_ ?_
                  · go_simp
                    (try simp only [i64_w])
                    try rfl
                  refine hK.out _ _ ⟨(by rw [ha.out]; exact putSel_upk 5 hb_ rfl rfl rfl), Q_B0⟩
                refine steps_cons ?_ ?_
                · rintro b a w' ⟨ha, Q_B0⟩ hb_ hon hoff
                  refine ⟨_, rfl, fun K hK => ?_⟩
                  have e63 : a.tmps[63]? = some (.bool false) := by rw [ha]; exact putSel_on (e := (5, 63, .bool false)) 5 rfl rfl (hon 5 (by kernel_rfl)) rfl
                  replace ha := Aside0.mk ha
                  have B0 := Aside0.mk Q_B0
                  refine value_ (w1 := w') (v := .bool false) (by rfl) rfl ?_ ?_
                  · go_simp
                    (try simp only [i64_w])
                    try rfl
                  refine hK.out _ _ ⟨(by rw [ha.out]; exact putSel_upk 6 hb_ rfl rfl rfl), Q_B0⟩
                refine steps_cons ?_ ?_
                · rintro b a w' ⟨ha, Q_B0⟩ hb_ hon hoff
                  refine ⟨_, rfl, fun K hK => ?_⟩
                  have e11 : a.tmps[11]? = some (.int .i64 (lk : Int)) := by rw [ha]; exact (putSel_off rfl).trans rfl
                  have e64 : a.tmps[64]? = some (.bool false) := by rw [ha]; exact putSel_on (e := (6, 64, .bool false)) 6 rfl rfl (hon 6 (by kernel_rfl)) rfl
                  replace ha := Aside0.mk ha
                  have B0 := Aside0.mk Q_B0
                  refine value_ (w1 := w') (v := .int .i64 (lk : Int)) (wanted_on rfl rfl rfl (e64.trans (by first | rfl | (simp [*]; done)))) rfl ?_ ?_
                  · go_simp
                    (try simp only [i64_w])
                    try rfl
                  refine hK.out _ _ ⟨(by rw [ha.out]; exact putSel_upk 7 hb_ rfl rfl rfl), Q_B0⟩
                refine steps_cons ?_ ?_
                · rintro b a w' ⟨ha, Q_B0⟩ hb_ hon hoff
                  refine ⟨_, rfl, fun K hK => ?_⟩
                  have e65 : a.tmps[65]? = some (.int .i64 (lk : Int)) := by rw [ha]; exact putSel_on (e := (7, 65, .int .i64 (lk : Int))) 7 rfl rfl (hon 7 (by kernel_rfl)) rfl
                  have e64 : a.tmps[64]? = some (.bool false) := by rw [ha]; exact putSel_on (e := (6, 64, .bool false)) 6 rfl rfl (hon 6 (by kernel_rfl)) rfl
                  replace ha := Aside0.mk ha
                  have B0 := Aside0.mk Q_B0
                  refine value_ (w1 := w') (v := .bool true) (wanted_on rfl rfl rfl (e64.trans (by first | rfl | (simp [*]; done)))) rfl ?_ ?_
                  · go_simp
                    (try simp only [i64_w])
                    try rfl
                  refine hK.out _ _ ⟨(by rw [ha.out]; exact putSel_upk 8 hb_ rfl rfl rfl), Q_B0⟩
                refine steps_cons ?_ ?_
                · rintro b a w' ⟨ha, Q_B0⟩ hb_ hon hoff
                  refine ⟨_, rfl, fun K hK => ?_⟩
                  have e66 : a.tmps[66]? = some (.bool true) := by rw [ha]; exact putSel_on (e := (8, 66, .bool true)) 8 rfl rfl (hon 8 (by kernel_rfl)) rfl
                  have e64 : a.tmps[64]? = some (.bool false) := by rw [ha]; exact putSel_on (e := (6, 64, .bool false)) 6 rfl rfl (hon 6 (by kernel_rfl)) rfl
                  replace ha := Aside0.mk ha
                  have B0 := Aside0.mk Q_B0
                  refine value_ (w1 := w') (v := .bool true) (wanted_on rfl rfl rfl (e64.trans (by first | rfl | (simp [*]; done)))) rfl ?_ ?_
                  · go_simp
                    (try simp only [i64_w])
                    try rfl
                  refine hK.out _ _ ⟨(by rw [ha.out]; exact putSel_upk 9 hb_ rfl rfl rfl), Q_B0⟩
                refine steps_cons ?_ ?_
                · rintro b a w' ⟨ha, Q_B0⟩ hb_ hon hoff
                  refine ⟨_, rfl, fun K hK => ?_⟩
                  have e10 : a.tmps[10]? = some (.int .i64 0) := by rw [ha]; exact (putSel_off rfl).trans rfl
                  have e67 : a.tmps[67]? = some (.bool true) := by rw [ha]; exact putSel_on (e := (9, 67, .bool true)) 9 rfl rfl (hon 9 (by kernel_rfl)) rfl
                  replace ha := Aside0.mk ha
                  have B0 := Aside0.mk Q_B0
                  refine value_ (w1 := w') (v := .int .i64 0) (wanted_on rfl rfl rfl (e67.trans (by first | rfl | (simp [*]; done)))) rfl ?_ ?_
                  · go_simp
                    (try simp only [i64_w])
                    try rfl
                  refine hK.out _ _ ⟨(by rw [ha.out]; exact putSel_upk 10 hb_ rfl rfl rfl), Q_B0⟩
                refine steps_cons ?_ ?_
                · rintro b a w' ⟨ha, Q_B0⟩ hb_ hon hoff
                  refine ⟨_, rfl, fun K hK => ?_⟩
                  have e68 : a.tmps[68]? = some (.int .i64 0) := by rw [ha]; exact putSel_on (e := (10, 68, .int .i64 0)) 10 rfl rfl (hon 10 (by kernel_rfl)) rfl
                  have e67 : a.tmps[67]? = some (.bool true) := by rw [ha]; exact putSel_on (e := (9, 67, .bool true)) 9 rfl rfl (hon 9 (by kernel_rfl)) rfl
                  replace ha := Aside0.mk ha
                  have B0 := Aside0.mk Q_B0
                  refine value_ (w1 := w') (v := .bool false) (wanted_on rfl rfl rfl (e67.trans (by first | rfl | (simp [*]; done)))) rfl ?_ ?_
                  · go_simp
                    (try simp only [i64_w])
                    try rfl
                  refine hK.out _ _ ⟨(by rw [ha.out]; exact putSel_upk 11 hb_ rfl rfl rfl), Q_B0⟩
                refine steps_cons ?_ ?_
                · rintro b a w' ⟨ha, Q_B0⟩ hb_ hon hoff
                  refine ⟨_, rfl, fun K hK => ?_⟩
                  have e69 : a.tmps[69]? = some (.bool false) := by rw [ha]; exact putSel_on (e := (11, 69, .bool false)) 11 rfl rfl (hon 11 (by kernel_rfl)) rfl
                  have e67 : a.tmps[67]? = some (.bool true) := by rw [ha]; exact putSel_on (e := (9, 67, .bool true)) 9 rfl rfl (hon 9 (by kernel_rfl)) rfl
                  replace ha := Aside0.mk ha
                  have B0 := Aside0.mk Q_B0
                  refine value_ (w1 := w') (v := .bool false) (wanted_on rfl rfl rfl (e67.trans (by first | rfl | (simp [*]; done)))) rfl ?_ ?_
                  · go_simp
                    (try simp only [i64_w])
                    try rfl
                  refine hK.out _ _ ⟨(by rw [ha.out]; exact putSel_upk 12 hb_ rfl rfl rfl), Q_B0⟩
                refine steps_cons ?_ ?_
                · rintro b a w' ⟨ha, Q_B0⟩ hb_ hon hoff
                  refine ⟨_, rfl, fun K hK => ?_⟩
                  have e9 : a.tmps[9]? = some (.pointer (some ⟨g9, 0, none⟩)) := by rw [ha]; exact (putSel_off rfl).trans rfl
                  have e70 : a.tmps[70]? = some (.bool false) := by rw [ha]; exact putSel_on (e := (12, 70, .bool false)) 12 rfl rfl (hon 12 (by kernel_rfl)) rfl
                  replace ha := Aside0.mk ha
                  have B0 := Aside0.mk Q_B0
                  have c0_ := blk_cell (blk_below HZ96.out B0.out) 0
                  have c1_ := blk_cell (blk_below HZ96.out B0.out) 1
                  have c2_ := blk_cell (blk_below HZ96.out B0.out) 2
                  have c3_ := blk_cell (blk_below HZ96.out B0.out) 3
                  have c4_ := blk_cell (blk_below HZ96.out B0.out) 4
                  have c5_ := blk_cell (blk_below HZ96.out B0.out) 5
                  have c6_ := blk_cell (blk_below HZ96.out B0.out) 6
                  have c7_ := blk_cell (blk_below HZ96.out B0.out) 7
                  refine value_ (w1 := w') (v := .agg #[.int .u64 xo.f0, .int .u64 xo.f1, .int .i64 xo.f2, .int .i64 xo.f3, .int .u64 xo.f4, .bool xo.f5, .int .i64 xo.f6, .slice Ao xo.f7.length co]) (wanted_on rfl rfl rfl (e70.trans (by first | rfl | (simp [*]; done)))) rfl ?_ ?_
                  · go_simp
                    (try simp only [i64_w])
                    try rfl
                  refine hK.out _ _ ⟨(by rw [ha.out]; exact putSel_upk 13 hb_ rfl rfl rfl), Q_B0⟩
                refine steps_cons ?_ ?_
                · rintro b a w' ⟨ha, Q_B0⟩ hb_ hon hoff
                  refine ⟨_, rfl, fun K hK => ?_⟩
                  have e6 : a.tmps[6]? = some (.slice (some ad) cur.length cw) := by rw [ha]; exact (putSel_off rfl).trans rfl
                  have e70 : a.tmps[70]? = some (.bool false) := by rw [ha]; exact putSel_on (e := (12, 70, .bool false)) 12 rfl rfl (hon 12 (by kernel_rfl)) rfl
                  replace ha := Aside0.mk ha
                  have B0 := Aside0.mk Q_B0
                  refine value_ (w1 := w') (v := .slice (some ad) cur.length cw) (wanted_on rfl rfl rfl (e70.trans (by first | rfl | (simp [*]; done)))) rfl ?_ ?_
                  · go_simp
                    (try simp only [i64_w])
                    try rfl
                  refine hK.out _ _ ⟨(by rw [ha.out]; exact putSel_upk 14 hb_ rfl rfl rfl), Q_B0⟩
                refine steps_cons ?_ ?_
                · rintro b a w' ⟨ha, Q_B0⟩ hb_ hon hoff
                  refine ⟨_, rfl, fun K hK => ?_⟩
                  have e11 : a.tmps[11]? = some (.int .i64 (lk : Int)) := by rw [ha]; exact (putSel_off rfl).trans rfl
                  have e70 : a.tmps[70]? = some (.bool false) := by rw [ha]; exact putSel_on (e := (12, 70, .bool false)) 12 rfl rfl (hon 12 (by kernel_rfl)) rfl
                  replace ha := Aside0.mk ha
                  have B0 := Aside0.mk Q_B0
                  refine value_ (w1 := w') (v := .int .i64 (lk : Int)) (wanted_on rfl rfl rfl (e70.trans (by first | rfl | (simp [*]; done)))) rfl ?_ ?_
                  · go_simp
                    (try simp only [i64_w])
                    try rfl
                  refine hK.out _ _ ⟨(by rw [ha.out]; exact putSel_upk 15 hb_ rfl rfl rfl), Q_B0⟩
                refine steps_cons ?_ ?_
                · rintro b a w' ⟨ha, Q_B0⟩ hb_ hon hoff
                  refine ⟨_, rfl, fun K hK => ?_⟩
                  have e72 : a.tmps[72]? = some (.slice (some ad) cur.length cw) := by rw [ha]; exact putSel_on (e := (14, 72, .slice (some ad) cur.length cw)) 14 rfl rfl (hon 14 (by kernel_rfl)) rfl
                  have e73 : a.tmps[73]? = some (.int .i64 (lk : Int)) := by rw [ha]; exact putSel_on (e := (15, 73, .int .i64 (lk : Int))) 15 rfl rfl (hon 15 (by kernel_rfl)) rfl
                  have e70 : a.tmps[70]? = some (.bool false) := by rw [ha]; exact putSel_on (e := (12, 70, .bool false)) 12 rfl rfl (hon 12 (by kernel_rfl)) rfl
                  replace ha := Aside0.mk ha
                  have B0 := Aside0.mk Q_B0
                  refine value_ (w1 := w') (v := .pointer (some (ad.add (lk * 8)))) (wanted_on rfl rfl rfl (e70.trans (by first | rfl | (simp [*]; done)))) rfl ?_ ?_
                  · go_simp
                    (try simp only [i64_w])
                    try rfl
                  refine hK.out _ _ ⟨(by rw [ha.out]; exact putSel_upk 16 hb_ rfl rfl rfl), Q_B0⟩
                refine steps_cons ?_ ?_
                · rintro b a w' ⟨ha, Q_B0⟩ hb_ hon hoff
                  refine ⟨_, rfl, fun K hK => ?_⟩
                  have e74 : a.tmps[74]? = some (.pointer (some (ad.add (lk * 8)))) := by rw [ha]; exact putSel_on (e := (16, 74, .pointer (some (ad.add (lk * 8))))) 16 rfl rfl (hon 16 (by kernel_rfl)) rfl
                  have e70 : a.tmps[70]? = some (.bool false) := by rw [ha]; exact putSel_on (e := (12, 70, .bool false)) 12 rfl rfl (hon 12 (by kernel_rfl)) rfl
                  replace ha := Aside0.mk ha
                  have B0 := Aside0.mk Q_B0
                  have x0_ := pw_cell_below B0.out HX6C.out.1
                  have x1_ := pw_cell_below B0.out HX6C.out.2.1
                  have x2_ := pw_cell_below B0.out HX6C.out.2.2.1
                  have x3_ := pw_cell_below B0.out HX6C.out.2.2.2.1
                  have x4_ := pw_cell_below B0.out HX6C.out.2.2.2.2.1
                  have x5_ := pw_cell_below B0.out HX6C.out.2.2.2.2.2.1
                  have x6_ := pw_cell_below B0.out HX6C.out.2.2.2.2.2.2.1
                  have x7_ := pw_cell_below B0.out HX6C.out.2.2.2.2.2.2.2
                  refine value_ (w1 := w') (v := .agg #[.int .u64 xo.f0, .int .u64 xo.f1, .int .i64 xo.f2, .int .i64 xo.f3, .int .u64 xo.f4, .bool xo.f5, .int .i64 xo.f6, .slice Ap xo.f7.length cpq]) (wanted_on rfl rfl rfl (e70.trans (by first | rfl | (simp [*]; done)))) rfl ?_ ?_
                  · go_simp
                    (try simp only [i64_w])
                    try rfl
                  refine hK.out _ _ ⟨(by rw [ha.out]; exact putSel_upk 17 hb_ rfl rfl rfl), Q_B0⟩
                refine steps_cons ?_ ?_
                · rintro b a w' ⟨ha, Q_B0⟩ hb_ hon hoff
                  refine ⟨_, rfl, fun K hK => ?_⟩
                  have e71 : a.tmps[71]? = some (.agg #[.int .u64 xo.f0, .int .u64 xo.f1, .int .i64 xo.f2, .int .i64 xo.f3, .int .u64 xo.f4, .bool xo.f5, .int .i64 xo.f6, .slice Ao xo.f7.length co]) := by rw [ha]; exact putSel_on (e := (13, 71, .agg #[.int .u64 xo.f0, .int .u64 xo.f1, .int .i64 xo.f2, .int .i64 xo.f3, .int .u64 xo.f4, .bool xo.f5, .int .i64 xo.f6, .slice Ao xo.f7.length co])) 13 rfl rfl (hon 13 (by kernel_rfl)) rfl
                  have e75 : a.tmps[75]? = some (.agg #[.int .u64 xo.f0, .int .u64 xo.f1, .int .i64 xo.f2, .int .i64 xo.f3, .int .u64 xo.f4, .bool xo.f5, .int .i64 xo.f6, .slice Ap xo.f7.length cpq]) := by rw [ha]; exact putSel_on (e := (17, 75, .agg #[.int .u64 xo.f0, .int .u64 xo.f1, .int .i64 xo.f2, .int .i64 xo.f3, .int .u64 xo.f4, .bool xo.f5, .int .i64 xo.f6, .slice Ap xo.f7.length cpq])) 17 rfl rfl (hon 17 (by kernel_rfl)) rfl
                  have e70 : a.tmps[70]? = some (.bool false) := by rw [ha]; exact putSel_on (e := (12, 70, .bool false)) 12 rfl rfl (hon 12 (by kernel_rfl)) rfl
                  replace ha := Aside0.mk ha
                  have B0 := Aside0.mk Q_B0
                  refine goes_ Try.func11 (by kernel_rfl) rfl #[.agg #[.int .u64 xo.f0, .int .u64 xo.f1, .int .i64 xo.f2, .int .i64 xo.f3, .int .u64 xo.f4, .bool xo.f5, .int .i64 xo.f6, .slice Ao xo.f7.length co], .agg #[.int .u64 xo.f0, .int .u64 xo.f1, .int .i64 xo.f2, .int .i64 xo.f3, .int .u64 xo.f4, .bool xo.f5, .int .i64 xo.f6, .slice Ap xo.f7.length cpq]] (wanted_on rfl rfl rfl (e70.trans rfl)) rfl rfl (by first | (simp only [List.map_toArray, List.map_cons, List.map_nil, Act.eval, Array.getD_eq_getD_getElem?, Option.getD_some, e71, e75, e70]; done) | (simp only [List.map_toArray, List.map_cons, List.map_nil, Act.eval, Array.getD_eq_getD_getElem?, Option.getD_some, e71, e75, e70]; rfl)) ?_
                  with_reducible refine (osame_calls xo (by have := HXO.out; omega) Ao co Ap cpq w' (Kd.C_below HO6.out B0.out) HO4.out.2 (Kd.C_below HWP.out.1 B0.out) HWP.out.2).mono ?_
                  rintro e w2 ⟨rfl, hb⟩
                  refine ⟨_, rfl, ?_⟩
                  refine hK.out _ _ ⟨(by rw [ha.out]; exact putSel_upk 18 hb_ rfl rfl rfl), below_then B0.out B0.out.size hb⟩
                refine steps_cons ?_ ?_
                · rintro b a w' ⟨ha, Q_B0⟩ hb_ hon hoff
                  refine ⟨_, rfl, fun K hK => ?_⟩
                  have e76 : a.tmps[76]? = some (.bool true) := by rw [ha]; exact putSel_on (e := (18, 76, .bool true)) 18 rfl rfl (hon 18 (by kernel_rfl)) rfl
                  have e70 : a.tmps[70]? = some (.bool false) := by rw [ha]; exact putSel_on (e := (12, 70, .bool false)) 12 rfl rfl (hon 12 (by kernel_rfl)) rfl
                  replace ha := Aside0.mk ha
                  have B0 := Aside0.mk Q_B0
                  refine value_ (w1 := w') (v := .bool false) (wanted_on rfl rfl rfl (e70.trans (by first | rfl | (simp [*]; done)))) rfl ?_ ?_
                  · go_simp
                    (try simp only [i64_w])
                    try rfl
                  refine hK.out _ _ ⟨(by rw [ha.out]; exact putSel_upk 19 hb_ rfl rfl rfl), Q_B0⟩
                refine steps_cons ?_ ?_
                · rintro b a w' ⟨ha, Q_B0⟩ hb_ hon hoff
                  refine ⟨_, rfl, fun K hK => ?_⟩
                  have e70 : a.tmps[70]? = some (.bool false) := by rw [ha]; exact putSel_on (e := (12, 70, .bool false)) 12 rfl rfl (hon 12 (by kernel_rfl)) rfl
                  have e77 : a.tmps[77]? = some (.bool false) := by rw [ha]; exact putSel_on (e := (19, 77, .bool false)) 19 rfl rfl (hon 19 (by kernel_rfl)) rfl
                  have e67 : a.tmps[67]? = some (.bool true) := by rw [ha]; exact putSel_on (e := (9, 67, .bool true)) 9 rfl rfl (hon 9 (by kernel_rfl)) rfl
                  replace ha := Aside0.mk ha
                  have B0 := Aside0.mk Q_B0
                  refine value_ (w1 := w') (v := .bool false) (wanted_on rfl rfl rfl (e67.trans (by first | rfl | (simp [*]; done)))) rfl ?_ ?_
                  · go_simp
                    (try simp only [i64_w])
                    try rfl
                  refine hK.out _ _ ⟨(by rw [ha.out]; exact putSel_upk 20 hb_ rfl rfl rfl), Q_B0⟩
                refine steps_cons ?_ ?_
                · rintro b a w' ⟨ha, Q_B0⟩ hb_ hon hoff
                  refine ⟨_, rfl, fun K hK => ?_⟩
                  have e67 : a.tmps[67]? = some (.bool true) := by rw [ha]; exact putSel_on (e := (9, 67, .bool true)) 9 rfl rfl (hon 9 (by kernel_rfl)) rfl
                  have e78 : a.tmps[78]? = some (.bool false) := by rw [ha]; exact putSel_on (e := (20, 78, .bool false)) 20 rfl rfl (hon 20 (by kernel_rfl)) rfl
                  have e64 : a.tmps[64]? = some (.bool false) := by rw [ha]; exact putSel_on (e := (6, 64, .bool false)) 6 rfl rfl (hon 6 (by kernel_rfl)) rfl
                  replace ha := Aside0.mk ha
                  have B0 := Aside0.mk Q_B0
                  refine value_ (w1 := w') (v := .bool false) (wanted_on rfl rfl rfl (e64.trans (by first | rfl | (simp [*]; done)))) rfl ?_ ?_
                  · go_simp
                    (try simp only [i64_w])
                    try rfl
                  refine hK.out _ _ ⟨(by rw [ha.out]; exact putSel_upk 21 hb_ rfl rfl rfl), Q_B0⟩
                refine steps_cons ?_ ?_
                · rintro b a w' ⟨ha, Q_B0⟩ hb_ hon hoff
                  refine ⟨_, rfl, fun K hK => ?_⟩
                  have e64 : a.tmps[64]? = some (.bool false) := by rw [ha]; exact putSel_on (e := (6, 64, .bool false)) 6 rfl rfl (hon 6 (by kernel_rfl)) rfl
                  have e79 : a.tmps[79]? = some (.bool false) := by rw [ha]; exact putSel_on (e := (21, 79, .bool false)) 21 rfl rfl (hon 21 (by kernel_rfl)) rfl
                  replace ha := Aside0.mk ha
                  have B0 := Aside0.mk Q_B0
                  refine value_ (w1 := w') (v := .bool false) (by rfl) rfl ?_ ?_
                  · go_simp
                    (try simp only [i64_w])
                    try rfl
                  refine hK.out _ _ ⟨(by rw [ha.out]; exact putSel_upk 22 hb_ rfl rfl rfl), Q_B0⟩
                exact steps_nil
              rintro b a w7 hall ⟨ha, Q_B0⟩
              clear B0
              have hb0_ := hall 0 (by kernel_rfl)
              have hb1_ := hall 1 (by kernel_rfl)
              have hb2_ := hall 2 (by kernel_rfl)
              have hb3_ := hall 3 (by kernel_rfl)
              have hb4_ := hall 4 (by kernel_rfl)
              have hb5_ := hall 5 (by kernel_rfl)
              have hb6_ := hall 6 (by kernel_rfl)
              have hb7_ := hall 7 (by kernel_rfl)
              have hb8_ := hall 8 (by kernel_rfl)
              have hb9_ := hall 9 (by kernel_rfl)
              have hb10_ := hall 10 (by kernel_rfl)
              have hb11_ := hall 11 (by kernel_rfl)
              have hb12_ := hall 12 (by kernel_rfl)
              have hb13_ := hall 13 (by kernel_rfl)
              have hb14_ := hall 14 (by kernel_rfl)
              have hb15_ := hall 15 (by kernel_rfl)
              have hb16_ := hall 16 (by kernel_rfl)
              have hb17_ := hall 17 (by kernel_rfl)
              have hb18_ := hall 18 (by kernel_rfl)
              have hb19_ := hall 19 (by kernel_rfl)
              have hb20_ := hall 20 (by kernel_rfl)
              have hb21_ := hall 21 (by kernel_rfl)
              have hb22_ := hall 22 (by kernel_rfl)
              subst ha
              simp only [putSel, hb0_, hb1_, hb2_, hb3_, hb4_, hb5_, hb6_, hb7_, hb8_, hb9_, hb10_, hb11_, hb12_, hb13_, hb14_, hb15_, hb16_, hb17_, hb18_, hb19_, hb20_, hb21_, hb22_, if_true, Act.put, List.setIfInBounds_toArray, List.set_cons_zero, List.set_cons_succ]
              have B0 := Aside0.mk Q_B0
              clear Q_B0
              clear hall hb0_ hb1_ hb2_ hb3_ hb4_ hb5_ hb6_ hb7_ hb8_ hb9_ hb10_ hb11_ hb12_ hb13_ hb14_ hb15_ hb16_ hb17_ hb18_ hb19_ hb20_ hb21_ hb22_
              have hb := B0.out
              have HX7 := Aside0.mk (HX6.out.below hb)
              have HW7 := Aside0.mk (HW6.out.below hb)
              have HB7 := Aside0.mk (below_then HB6.out HB6.out.size hb)
              have HZ7 := Aside0.mk (blk_below HZ6.out hb)
              clear hb
              have t7 : decide ((lk : Int) ≥ 0) = true := decide_eq_true (by omega)
              clear p1 q1 B0 HO6 HZ96 HX6C HWP HO4
              go_upto_region 17 with fail
              clear t7
              obtain ⟨dl, hdl⟩ : ∃ dl, dl = dropAt cur lk := ⟨_, rfl⟩
              have HDL := Aside0.mk hdl
              obtain ⟨A91, hA91⟩ : ∃ A91, A91 = (if cw = lk + 1 then some ad else (some ad).map (·.add ((lk + 1) * 8))) := ⟨_, rfl⟩
              have HS91 : Aside0 (∀ W, (Instr.slice 22 (.slice (some ad) cur.length cw) (some (.int .i64 ((lk : Int) + 1))) none none).run Try.prog W = .ok (.slice A91 (cur.length - (lk + 1)) (cw - (lk + 1))) W) := ⟨fun W => by rw [hA91]; exact slice_fromA (some ad) cur.length cw (lk + 1) (by have := HXO.out; omega) _ (by omega) W⟩
              have HS86 : Aside0 (∀ W, (Instr.slice 22 (.slice (some ad) cur.length cw) none (some (.int .i64 (lk : Int))) none).run Try.prog W = .ok (.slice (some ad) lk cw) W) := ⟨fun W => slice_to (some ad) cur.length cw lk (by have := HXO.out; have := HW7.out.1; omega) W⟩
              have HF91 : Aside0 (∀ w' : World, Below w7.heap.size w7 w' → Kd.F k29 w' (fun k => Off g0 r4 k ∧ k < w7.heap.size) (some ad) lk (cur.take lk) ∧ Kd.F k29 w' (fun k => Off g0 r4 k ∧ k < w7.heap.size) A91 (cur.length - (lk + 1)) (cur.drop (lk + 1))) := ⟨fun w' hb => by
                have h := Kd.F_old HW7.out.2 hb
                refine ⟨F_takeN h (by have := HXO.out; omega), ?_⟩
                rw [hA91]
                exact F_dropN h (by have := HXO.out; omega) HW7.out.1⟩
              have HOF : Aside0 (∀ k, w7.heap.size ≤ k → Off g0 r4 k) := ⟨fun k hk => ⟨by have := HX7.out.lt.2.1; omega, fun e => by have := (HX7.out.lt.2.2 k e.symm).2; omega⟩⟩
              have HCL : Aside0 (lk ≤ 40 ∧ cur.length ≤ 40) := ⟨by have := HXO.out; have := HGN.out; omega⟩
              have B0 := Aside0.mk (below_drew1 (Below.refl w7.heap.size w7))
              clear hdl hA91
              have N0 := True.intro
              have N1 := True.intro
              have N2 := True.intro
              refine start_ (n := 11) (S := fun w' => True) (ds := []) #[false, false, false, false, false, false, false, false, false, false, false] (by kernel_rfl) rfl rfl trivial (fun hHeld => ?_)
              refine with_tabW ido17.tab17 ido17.bits17 (fun HT_ HW_ => ?_)
              generalize w7.drew = wq at B0 hHeld ⊢
              refine inv_at [0, 1, 2, 3, 4, 5, 6, 7, 8, 9, 10] (fun a0_ b a w' => ∃ (gz : Nat) (v87 : Value) (v92 : Value) (m0_ : Value) (m10_ : Value), a = putSel a0_ b [(0, 83, m0_), (1, 84, .slice (some ad) cur.length cw), (2, 85, .int .i64 (lk : Int)), (3, 86, .slice (some ad) lk cw), (4, 87, v87), (5, 88, .slice (some ad) cur.length cw), (6, 89, .int .i64 (lk : Int)), (7, 90, .int .i64 ((lk : Int) + 1)), (8, 91, .slice A91 (cur.length - (lk + 1)) (cw - (lk + 1))), (9, 92, v92), (10, 6, m10_)] ∧ (Below w7.heap.size w7 w') ∧ (b 0 = true → b 4 = false → Kd.N k29 29 w' w7.heap.size (Off g0 r4) (.slice (some ⟨gz, 0, none⟩) 0 0) ([])) ∧ (b 4 = true → b 9 = false → Kd.N k29 29 w' w7.heap.size (Off g0 r4) (v87) ([] ++ cur.take lk)) ∧ (b 9 = true → Kd.N k29 29 w' w7.heap.size (Off g0 r4) (v92) (dl)) ∧ (b 0 = true → (m0_ : Value) = .slice (some ⟨gz, 0, none⟩) 0 0) ∧ (b 10 = true → (m10_ : Value) = v92)) HT_.out HW_.out (by kernel_rfl) (by kernel_rfl) ?_ ?_ ?_
              · exact ⟨0, .bool false, .bool false, .bool false, .bool false, by simp only [putSel, Bool.false_eq_true, if_false], B0.out, fun h_ => absurd h_ (by decide), fun h_ => absurd h_ (by decide), fun h_ => absurd h_ (by decide), fun h_ => absurd h_ (by decide), fun h_ => absurd h_ (by decide)⟩
              · skip
                clear B0
                refine steps_cons ?_ ?_
                · rintro b a w' ⟨gz, v87, v92, m0_, m10_, ha, Q_B0, Q_N0, Q_N1, Q_N2, Q_X0_, Q_X10_⟩ hb_ hon hoff
                  refine ⟨_, rfl, fun K hK => ?_⟩
                  replace ha := Aside0.mk ha
                  have B0 := Aside0.mk Q_B0
                  refine value_ (w1 := w'.alloc (Obj.cells #[] 29)) (v := .slice (some ⟨w'.heap.size, 0, none⟩) 0 0) (by rfl) rfl (by first | (go_simp; done) | (go_simp; rfl)) ?_
                  have hb := below_alloc (Below.refl w'.heap.size w') (Obj.cells #[] 29)
                  refine hK.out _ _ ⟨w'.heap.size, v87, v92, (.slice (some ⟨w'.heap.size, 0, none⟩) 0 0), m10_, (by rw [ha.out]; exact putSel_upk 0 hb_ rfl rfl rfl), below_then B0.out B0.out.size hb, fun _ _ => N_empty w' w7.heap.size (Off g0 r4) B0.out.size (HOF.out _ B0.out.size), fun h0_ _ => absurd ((hoff 4 (by kernel_rfl)).symm.trans h0_) (by decide), fun h0_ => absurd ((hoff 9 (by kernel_rfl)).symm.trans h0_) (by decide), fun _ => rfl, fun h0_ => absurd ((hoff 10 (by kernel_rfl)).symm.trans h0_) (by decide)⟩
                refine steps_cons ?_ ?_
                · rintro b a w' ⟨gz, v87, v92, m0_, m10_, ha, Q_B0, Q_N0, Q_N1, Q_N2, Q_X0_, Q_X10_⟩ hb_ hon hoff
                  refine ⟨_, rfl, fun K hK => ?_⟩
                  have e6 : a.tmps[6]? = some (.slice (some ad) cur.length cw) := by rw [ha]; exact (putSel_not (hoff 10 (by kernel_rfl)) rfl).trans rfl
                  replace ha := Aside0.mk ha
                  have B0 := Aside0.mk Q_B0
                  refine value_ (w1 := w') (v := .slice (some ad) cur.length cw) (by rfl) rfl ?_ ?_
                  · go_simp
                    (try simp only [i64_w])
                    try rfl
                  refine hK.out _ _ ⟨gz, v87, v92, m0_, m10_, (by rw [ha.out]; exact putSel_upk 1 hb_ rfl rfl rfl), Q_B0, Q_N0, fun h0_ _ => absurd ((hoff 4 (by kernel_rfl)).symm.trans h0_) (by decide), fun h0_ => absurd ((hoff 9 (by kernel_rfl)).symm.trans h0_) (by decide), Q_X0_, fun h0_ => absurd ((hoff 10 (by kernel_rfl)).symm.trans h0_) (by decide)⟩
                refine steps_cons ?_ ?_
                · rintro b a w' ⟨gz, v87, v92, m0_, m10_, ha, Q_B0, Q_N0, Q_N1, Q_N2, Q_X0_, Q_X10_⟩ hb_ hon hoff
                  refine ⟨_, rfl, fun K hK => ?_⟩
                  have e11 : a.tmps[11]? = some (.int .i64 (lk : Int)) := by rw [ha]; exact (putSel_off rfl).trans rfl
                  replace ha := Aside0.mk ha
                  have B0 := Aside0.mk Q_B0
                  refine value_ (w1 := w') (v := .int .i64 (lk : Int)) (by rfl) rfl ?_ ?_
                  · go_simp
                    (try simp only [i64_w])
                    try rfl
                  refine hK.out _ _ ⟨gz, v87, v92, m0_, m10_, (by rw [ha.out]; exact putSel_upk 2 hb_ rfl rfl rfl), Q_B0, Q_N0, fun h0_ _ => absurd ((hoff 4 (by kernel_rfl)).symm.trans h0_) (by decide), fun h0_ => absurd ((hoff 9 (by kernel_rfl)).symm.trans h0_) (by decide), Q_X0_, fun h0_ => absurd ((hoff 10 (by kernel_rfl)).symm.trans h0_) (by decide)⟩
                refine steps_cons ?_ ?_
                · rintro b a w' ⟨gz, v87, v92, m0_, m10_, ha, Q_B0, Q_N0, Q_N1, Q_N2, Q_X0_, Q_X10_⟩ hb_ hon hoff
                  refine ⟨_, rfl, fun K hK => ?_⟩
                  have e84 : a.tmps[84]? = some (.slice (some ad) cur.length cw) := by rw [ha]; exact putSel_on (e := (1, 84, .slice (some ad) cur.length cw)) 1 rfl rfl (hon 1 (by kernel_rfl)) rfl
                  have e85 : a.tmps[85]? = some (.int .i64 (lk : Int)) := by rw [ha]; exact putSel_on (e := (2, 85, .int .i64 (lk : Int))) 2 rfl rfl (hon 2 (by kernel_rfl)) rfl
                  replace ha := Aside0.mk ha
                  have B0 := Aside0.mk Q_B0
                  have q_ := HS86.out
                  refine value_ (w1 := w') (v := .slice (some ad) lk cw) (by rfl) rfl ?_ ?_
                  · go_simp
                    (try simp only [i64_w])
                    try rfl
                  refine hK.out _ _ ⟨gz, v87, v92, m0_, m10_, (by rw [ha.out]; exact putSel_upk 3 hb_ rfl rfl rfl), Q_B0, Q_N0, fun h0_ _ => absurd ((hoff 4 (by kernel_rfl)).symm.trans h0_) (by decide), fun h0_ => absurd ((hoff 9 (by kernel_rfl)).symm.trans h0_) (by decide), Q_X0_, fun h0_ => absurd ((hoff 10 (by kernel_rfl)).symm.trans h0_) (by decide)⟩
                refine steps_cons ?_ ?_
                · rintro b a w' ⟨gz, v87, v92, m0_, m10_, ha, Q_B0, Q_N0, Q_N1, Q_N2, Q_X0_, Q_X10_⟩ hb_ hon hoff
                  refine ⟨_, rfl, fun K hK => ?_⟩
                  have e83 : a.tmps[83]? = some (m0_) := by rw [ha]; exact putSel_on (e := (0, 83, m0_)) 0 rfl rfl (hon 0 (by kernel_rfl)) rfl
                  rw [Q_X0_ (hon 0 (by kernel_rfl))] at e83
                  have e86 : a.tmps[86]? = some (.slice (some ad) lk cw) := by rw [ha]; exact putSel_on (e := (3, 86, .slice (some ad) lk cw)) 3 rfl rfl (hon 3 (by kernel_rfl)) rfl
                  replace ha := Aside0.mk ha
                  have B0 := Aside0.mk Q_B0
                  have N0 := Aside0.mk (Q_N0 (hon 0 (by kernel_rfl)) hb_)
                  refine Kd.N_append_rows_step k29 w7.heap.size (by rfl) (.tmp 83) (.tmp 86) 22 29 _ 80 rfl Try.underlying22 inf_rec rfl (by decide) (by decide) (.slice (some ⟨gz, 0, none⟩) 0 0) ([]) (cur.take lk) (some ad) (lk) (cw) (Off g0 r4) (fun k => Off g0 r4 k ∧ k < w7.heap.size) (by simp [Act.eval, e83]) (by simp [Act.eval, e86]) N0.out (HF91.out w' B0.out).1 (fun k hk => ⟨hk.1, fun e_ => by have h1_ := Kd.N_base N0.out k e_.symm; have h2_ := hk.2; omega⟩) (fun k hk => HOF.out k (Nat.le_trans B0.out.size hk)) B0.out B0.out.size (by have h9_ := HCL.out; rw [List.length_nil]; omega) ?_
                  intro v_ w2_ hN9_ hB9_ hg9_ hat9_
                  refine hK.out _ _ ⟨gz, v_, v92, m0_, m10_, (by rw [ha.out]; exact putSel_upk 4 hb_ rfl rfl rfl), hB9_, fun _ h1_ => absurd ((up_self b 4).symm.trans h1_) (by decide), fun _ _ => hN9_, fun h0_ => absurd ((hoff 9 (by kernel_rfl)).symm.trans h0_) (by decide), Q_X0_, fun h0_ => absurd ((hoff 10 (by kernel_rfl)).symm.trans h0_) (by decide)⟩
                refine steps_cons ?_ ?_
                · rintro b a w' ⟨gz, v87, v92, m0_, m10_, ha, Q_B0, Q_N0, Q_N1, Q_N2, Q_X0_, Q_X10_⟩ hb_ hon hoff
                  refine ⟨_, rfl, fun K hK => ?_⟩
                  have e6 : a.tmps[6]? = some (.slice (some ad) cur.length cw) := by rw [ha]; exact (putSel_not (hoff 10 (by kernel_rfl)) rfl).trans rfl
                  replace ha := Aside0.mk ha
                  have B0 := Aside0.mk Q_B0
                  refine value_ (w1 := w') (v := .slice (some ad) cur.length cw) (by rfl) rfl ?_ ?_
                  · go_simp
                    (try simp only [i64_w])
                    try rfl
                  refine hK.out _ _ ⟨gz, v87, v92, m0_, m10_, (by rw [ha.out]; exact putSel_upk 5 hb_ rfl rfl rfl), Q_B0, Q_N0, Q_N1, fun h0_ => absurd ((hoff 9 (by kernel_rfl)).symm.trans h0_) (by decide), Q_X0_, fun h0_ => absurd ((hoff 10 (by kernel_rfl)).symm.trans h0_) (by decide)⟩
                refine steps_cons ?_ ?_
                · rintro b a w' ⟨gz, v87, v92, m0_, m10_, ha, Q_B0, Q_N0, Q_N1, Q_N2, Q_X0_, Q_X10_⟩ hb_ hon hoff
                  refine ⟨_, rfl, fun K hK => ?_⟩
                  have e11 : a.tmps[11]? = some (.int .i64 (lk : Int)) := by rw [ha]; exact (putSel_off rfl).trans rfl
                  replace ha := Aside0.mk ha
                  have B0 := Aside0.mk Q_B0
                  refine value_ (w1 := w') (v := .int .i64 (lk : Int)) (by rfl) rfl ?_ ?_
                  · go_simp
                    (try simp only [i64_w])
                    try rfl
                  refine hK.out _ _ ⟨gz, v87, v92, m0_, m10_, (by rw [ha.out]; exact putSel_upk 6 hb_ rfl rfl rfl), Q_B0, Q_N0, Q_N1, fun h0_ => absurd ((hoff 9 (by kernel_rfl)).symm.trans h0_) (by decide), Q_X0_, fun h0_ => absurd ((hoff 10 (by kernel_rfl)).symm.trans h0_) (by decide)⟩
                refine steps_cons ?_ ?_
                · rintro b a w' ⟨gz, v87, v92, m0_, m10_, ha, Q_B0, Q_N0, Q_N1, Q_N2, Q_X0_, Q_X10_⟩ hb_ hon hoff
                  refine ⟨_, rfl, fun K hK => ?_⟩
                  have e89 : a.tmps[89]? = some (.int .i64 (lk : Int)) := by rw [ha]; exact putSel_on (e := (6, 89, .int .i64 (lk : Int))) 6 rfl rfl (hon 6 (by kernel_rfl)) rfl
                  replace ha := Aside0.mk ha
                  have B0 := Aside0.mk Q_B0
                  have q_ : IntKind.i64.wrap ((lk : Int) + 1) = (lk : Int) + 1 := by have h9_ := HCL.out; rw [IntKind.wrap_i64]; omega
                  refine value_ (w1 := w') (v := .int .i64 ((lk : Int) + 1)) (by rfl) rfl ?_ ?_
                  · go_simp
                    (try simp only [i64_w])
                    try rfl
                  refine hK.out _ _ ⟨gz, v87, v92, m0_, m10_, (by rw [ha.out]; exact putSel_upk 7 hb_ rfl rfl rfl), Q_B0, Q_N0, Q_N1, fun h0_ => absurd ((hoff 9 (by kernel_rfl)).symm.trans h0_) (by decide), Q_X0_, fun h0_ => absurd ((hoff 10 (by kernel_rfl)).symm.trans h0_) (by decide)⟩
                refine steps_cons ?_ ?_
                · rintro b a w' ⟨gz, v87, v92, m0_, m10_, ha, Q_B0, Q_N0, Q_N1, Q_N2, Q_X0_, Q_X10_⟩ hb_ hon hoff
                  refine ⟨_, rfl, fun K hK => ?_⟩
                  have e88 : a.tmps[88]? = some (.slice (some ad) cur.length cw) := by rw [ha]; exact putSel_on (e := (5, 88, .slice (some ad) cur.length cw)) 5 rfl rfl (hon 5 (by kernel_rfl)) rfl
                  have e90 : a.tmps[90]? = some (.int .i64 ((lk : Int) + 1)) := by rw [ha]; exact putSel_on (e := (7, 90, .int .i64 ((lk : Int) + 1))) 7 rfl rfl (hon 7 (by kernel_rfl)) rfl
                  replace ha := Aside0.mk ha
                  have B0 := Aside0.mk Q_B0
                  have q_ := HS91.out
                  refine value_ (w1 := w') (v := .slice A91 (cur.length - (lk + 1)) (cw - (lk + 1))) (by rfl) rfl ?_ ?_
                  · go_simp
                    (try simp only [i64_w])
                    try rfl
                  refine hK.out _ _ ⟨gz, v87, v92, m0_, m10_, (by rw [ha.out]; exact putSel_upk 8 hb_ rfl rfl rfl), Q_B0, Q_N0, Q_N1, fun h0_ => absurd ((hoff 9 (by kernel_rfl)).symm.trans h0_) (by decide), Q_X0_, fun h0_ => absurd ((hoff 10 (by kernel_rfl)).symm.trans h0_) (by decide)⟩
                refine steps_cons ?_ ?_
                · rintro b a w' ⟨gz, v87, v92, m0_, m10_, ha, Q_B0, Q_N0, Q_N1, Q_N2, Q_X0_, Q_X10_⟩ hb_ hon hoff
                  refine ⟨_, rfl, fun K hK => ?_⟩
                  have e87 : a.tmps[87]? = some (v87) := by rw [ha]; exact putSel_on (e := (4, 87, v87)) 4 rfl rfl (hon 4 (by kernel_rfl)) rfl
                  have e91 : a.tmps[91]? = some (.slice A91 (cur.length - (lk + 1)) (cw - (lk + 1))) := by rw [ha]; exact putSel_on (e := (8, 91, .slice A91 (cur.length - (lk + 1)) (cw - (lk + 1)))) 8 rfl rfl (hon 8 (by kernel_rfl)) rfl
                  replace ha := Aside0.mk ha
                  have B0 := Aside0.mk Q_B0
                  have N1 := Aside0.mk (Q_N1 (hon 4 (by kernel_rfl)) hb_)
                  refine Kd.N_append_rows_step k29 w7.heap.size (by rfl) (.tmp 87) (.tmp 91) 22 29 _ 80 rfl Try.underlying22 inf_rec rfl (by decide) (by decide) (v87) ([] ++ cur.take lk) (cur.drop (lk + 1)) (A91) (cur.length - (lk + 1)) (cw - (lk + 1)) (Off g0 r4) (fun k => Off g0 r4 k ∧ k < w7.heap.size) (by simp [Act.eval, e87]) (by simp [Act.eval, e91]) N1.out (HF91.out w' B0.out).2 (fun k hk => ⟨hk.1, fun e_ => by have h1_ := Kd.N_base N1.out k e_.symm; have h2_ := hk.2; omega⟩) (fun k hk => HOF.out k (Nat.le_trans B0.out.size hk)) B0.out B0.out.size (by have h9_ := HCL.out; rw [List.nil_append, List.length_take]; omega) ?_
                  intro v_ w2_ hN9_ hB9_ hg9_ hat9_
                  refine hK.out _ _ ⟨gz, v87, v_, m0_, m10_, (by rw [ha.out]; exact putSel_upk 9 hb_ rfl rfl rfl), hB9_, fun _ h1_ => absurd ((hon 4 (by kernel_rfl)).symm.trans h1_) (by decide), fun _ h1_ => absurd ((up_self b 9).symm.trans h1_) (by decide), fun _ => (by rw [HDL.out]; exact hN9_), Q_X0_, fun h0_ => absurd ((hoff 10 (by kernel_rfl)).symm.trans h0_) (by decide)⟩
                refine steps_cons ?_ ?_
                · rintro b a w' ⟨gz, v87, v92, m0_, m10_, ha, Q_B0, Q_N0, Q_N1, Q_N2, Q_X0_, Q_X10_⟩ hb_ hon hoff
                  refine ⟨_, rfl, fun K hK => ?_⟩
                  have e92 : a.tmps[92]? = some (v92) := by rw [ha]; exact putSel_on (e := (9, 92, v92)) 9 rfl rfl (hon 9 (by kernel_rfl)) rfl
                  replace ha := Aside0.mk ha
                  have B0 := Aside0.mk Q_B0
                  have N2 := Aside0.mk (Q_N2 (hon 9 (by kernel_rfl)))
                  refine value_ (w1 := w') (v := v92) (by rfl) rfl ?_ ?_
                  · go_simp
                    (try simp only [i64_w])
                    try rfl
                  refine hK.out _ _ ⟨gz, v87, v92, m0_, (v92), (by rw [ha.out]; exact putSel_upk 10 hb_ rfl rfl rfl), Q_B0, fun _ h1_ => absurd ((hon 4 (by kernel_rfl)).symm.trans h1_) (by decide), fun _ h1_ => absurd ((hon 9 (by kernel_rfl)).symm.trans h1_) (by decide), Q_N2, Q_X0_, fun _ => rfl⟩
                exact steps_nil
              rintro b a w9 hall ⟨gz, v87, v92, m0_, m10_, ha, Q_B0, Q_N0, Q_N1, Q_N2, Q_X0_, Q_X10_⟩
              clear B0
              have hb0_ := hall 0 (by kernel_rfl)
              have hb1_ := hall 1 (by kernel_rfl)
              have hb2_ := hall 2 (by kernel_rfl)
              have hb3_ := hall 3 (by kernel_rfl)
              have hb4_ := hall 4 (by kernel_rfl)
              have hb5_ := hall 5 (by kernel_rfl)
              have hb6_ := hall 6 (by kernel_rfl)
              have hb7_ := hall 7 (by kernel_rfl)
              have hb8_ := hall 8 (by kernel_rfl)
              have hb9_ := hall 9 (by kernel_rfl)
              have hb10_ := hall 10 (by kernel_rfl)
              subst ha
              obtain rfl := Q_X0_ hb0_
              obtain rfl := Q_X10_ hb10_
              simp only [putSel, hb0_, hb1_, hb2_, hb3_, hb4_, hb5_, hb6_, hb7_, hb8_, hb9_, hb10_, if_true, Act.put, List.setIfInBounds_toArray, List.set_cons_zero, List.set_cons_succ]
              have B0 := Aside0.mk Q_B0
              clear Q_B0
              clear Q_N0
              clear Q_N1
              have N2 := Aside0.mk (Q_N2 hb9_)
              clear Q_N2
              clear hall hb0_ hb1_ hb2_ hb3_ hb4_ hb5_ hb6_ hb7_ hb8_ hb9_ hb10_
              obtain ⟨A92, c92, e92⟩ := Kd.N_slice N2.out
              subst e92
              have hb := B0.out
              have HX9 := Aside0.mk (HX7.out.below hb)
              have HW9 := Aside0.mk (HW7.out.below hb)
              have HB9 := Aside0.mk (below_then HB7.out HB7.out.size hb)
              have HZ9 := Aside0.mk (blk_below HZ7.out hb)
              clear hb
              have hg9 : GoodL dl (i + 1) := by rw [HDL.out]; exact HG.out.drop (by have := HGN.out; omega) HXO.out.2.1
              have hW9 : Want w9 g0 r4 A92 c92 dl := ⟨(Kd.N_reads' N2.out).2.1, Kd.N_F N2.out⟩
              have hX9 : IXr w9 w.heap.size g0 dl r4 := by rw [HDL.out]; exact HX9.out
              replace HX9 := Aside0.mk hX9
              replace HW9 := Aside0.mk hW9
              have HG9 := Aside0.mk hg9
              clear hX9 hW9 hg9 N2
              go_wp2_with fail
              go_meet
              exact ⟨dl, A92, c92, r4, rfl, HG9, HX9, HW9, HB9, HZ9⟩
          | false =>
            clear hk
            have y1 := blk_cell HZ1.out 1
            have y2 := blk_cell HZ1.out 2
            have y3 := blk_cell HZ1.out 3
            have y4 := blk_cell HZ1.out 4
            have y5 := blk_cell HZ1.out 5
            have y6 := blk_cell HZ1.out 6
            have y7 := blk_cell HZ1.out 7
            have y8 := blk_cell HZ1.out 8
            obtain ⟨nx, hnx⟩ : ∃ nx, nx = (putP cur x.f1).1 := ⟨_, rfl⟩
            obtain ⟨ob, hob⟩ : ∃ ob, ob = (putP cur x.f1).2 := ⟨_, rfl⟩
            have HRP := Aside0.mk (rput_calls cur x.f1 (by have := HGN.out; omega) (by have := HPL.out; omega) Aw cw A8 c8 W1 (Off g0 r) (fun k => k < w.heap.size) (Kd.V_mk HW1.out.1 HW1.out.2) (Kd.V_mk HLP.out (args_F HCP.out HB1.out)))
            rw [← hnx, ← hob] at HRP
            have HPP := Aside0.mk (And.intro hnx hob)
            clear hnx hob
            go_upto_region 19 with (go_at_call 8; refine HRP.out.mono ?_; rintro e w4 ⟨v, rfl, hV, hb⟩; obtain ⟨Av, cv, rfl⟩ := Kd.V_slice hV; have HV4 := Aside0.mk hV; have HX4 := Aside0.mk (HX1.out.below hb); have HB4 := Aside0.mk (below_then HB1.out HB1.out.size hb); have HZ4 := Aside0.mk (blk_below HZ1.out hb); clear hb hV)
            have HW4 : Aside0 (Want w4 g0 r Av cv nx) := ⟨Want.put HV4.out HX1.out.lt.1 HX1.out.lt.2.1 HX1.out.lt.2.2⟩
            have HC4 := Aside0.mk (Kd.C_below HCP.out HB4.out)
            clear HRP HV4 y1 y2 y3 y4 y5 y6 y7 y8
            have y1 := blk_cell HZ4.out 1
            have y2 := blk_cell HZ4.out 2
            have y3 := blk_cell HZ4.out 3
            have y4 := blk_cell HZ4.out 4
            have y5 := blk_cell HZ4.out 5
            have y6 := blk_cell HZ4.out 6
            have y7 := blk_cell HZ4.out 7
            have y8 := blk_cell HZ4.out 8
            cases hm : mayB x.f1 with
            | false =>
              have HPN := Aside0.mk (put_no HX4.out.ix x.f1 A8 c8 HC4.out (by have := HPL.out; omega) HG.out.1 (by have := HGN.out; omega) (fun h => by rw [hm] at h; cases h))
              rw [hm] at HPN
              have HE : Aside0 (nx = cur ∧ ob = false) := ⟨by have h := HPP.out; unfold putP at h; rw [hm] at h; exact h⟩
              have HM : Aside0 (mayB x.f1 = false) := ⟨hm⟩
              clear hm
              replace HPN : Aside0 (Calls Try.prog 17 #[.pointer (some ⟨g0, 0, none⟩), ragg x.f1 A8 c8] w4 fun e w' => e = .returned (.int .i64 3) ∧ Below w4.heap.size w4 w') := ⟨HPN.out⟩
              unfold ragg at HPN
              obtain ⟨rfl, rfl⟩ := HE.out
              go_upto_region 20 with (go_at_call 17; refine HPN.out.mono ?_; rintro e w5 ⟨rfl, hb⟩; have HC5 := Aside0.mk (Kd.C_below HC4.out hb); have HX5 := Aside0.mk (HX4.out.below hb); have HW5 := Aside0.mk (HW4.out.below hb); have HB5 := Aside0.mk (below_then HB4.out HB4.out.size hb); have HZ5 := Aside0.mk (blk_below HZ4.out hb); clear hb)
              clear y1 y2 y3 y4 y5 y6 y7 y8
              have HMY := Aside0.mk (rmay_calls x.f1 (by have := HPL.out; omega) A8 c8 w5 HC5.out HLP.out)
              rw [HM.out] at HMY
              have y1 := blk_cell HZ5.out 1
              have y2 := blk_cell HZ5.out 2
              have y3 := blk_cell HZ5.out 3
              have y4 := blk_cell HZ5.out 4
              have y5 := blk_cell HZ5.out 5
              have y6 := blk_cell HZ5.out 6
              have y7 := blk_cell HZ5.out 7
              have y8 := blk_cell HZ5.out 8
              go_wp2_with (go_at_call 18; refine HMY.out.mono ?_; rintro e w6 ⟨rfl, hb⟩; have HX6 := Aside0.mk (HX5.out.below hb); have HW6 := Aside0.mk (HW5.out.below hb); have HB6 := Aside0.mk (below_then HB5.out HB5.out.size hb); have HZ6 := Aside0.mk (blk_below HZ5.out hb); clear hb)
              go_meet
              exact ⟨nx, Av, cv, r, rfl, ⟨HG.out.more (by have := HGN.out; omega)⟩, HX6, HW6, HB6, HZ6⟩
            | true =>
              cases hh : hasKey keyR cur x.f1.f0 with
              | true =>
                have HPN := Aside0.mk (put_no HX4.out.ix x.f1 A8 c8 HC4.out (by have := HPL.out; omega) HG.out.1 (by have := HGN.out; omega) (fun _ => hh))
                rw [hm] at HPN
                have HE : Aside0 (nx = cur ∧ ob = false) := ⟨by have h := HPP.out; unfold putP at h; rw [hm, hh] at h; exact h⟩
                have HM : Aside0 (mayB x.f1 = true) := ⟨hm⟩
                clear hm hh
                replace HPN : Aside0 (Calls Try.prog 17 #[.pointer (some ⟨g0, 0, none⟩), ragg x.f1 A8 c8] w4 fun e w' => e = .returned (.int .i64 15) ∧ Below w4.heap.size w4 w') := ⟨HPN.out⟩
                unfold ragg at HPN
                obtain ⟨rfl, rfl⟩ := HE.out
                go_upto_region 20 with (go_at_call 17; refine HPN.out.mono ?_; rintro e w5 ⟨rfl, hb⟩; have HC5 := Aside0.mk (Kd.C_below HC4.out hb); have HX5 := Aside0.mk (HX4.out.below hb); have HW5 := Aside0.mk (HW4.out.below hb); have HB5 := Aside0.mk (below_then HB4.out HB4.out.size hb); have HZ5 := Aside0.mk (blk_below HZ4.out hb); clear hb)
                clear y1 y2 y3 y4 y5 y6 y7 y8
                have HMY := Aside0.mk (rmay_calls x.f1 (by have := HPL.out; omega) A8 c8 w5 HC5.out HLP.out)
                rw [HM.out] at HMY
                have y1 := blk_cell HZ5.out 1
                have y2 := blk_cell HZ5.out 2
                have y3 := blk_cell HZ5.out 3
                have y4 := blk_cell HZ5.out 4
                have y5 := blk_cell HZ5.out 5
                have y6 := blk_cell HZ5.out 6
                have y7 := blk_cell HZ5.out 7
                have y8 := blk_cell HZ5.out 8
                go_wp2_with (go_at_call 18; refine HMY.out.mono ?_; rintro e w6 ⟨rfl, hb⟩; have HX6 := Aside0.mk (HX5.out.below hb); have HW6 := Aside0.mk (HW5.out.below hb); have HB6 := Aside0.mk (below_then HB5.out HB5.out.size hb); have HZ6 := Aside0.mk (blk_below HZ5.out hb); clear hb)
                go_meet
                exact ⟨nx, Av, cv, r, rfl, ⟨HG.out.more (by have := HGN.out; omega)⟩, HX6, HW6, HB6, HZ6⟩
              | false =>
                have HPN := Aside0.mk (put_any HX4.out x.f1 A8 c8 HC4.out (by have := HPL.out; omega) hm HG.out.1 (by have := HGN.out; omega) rfl hh)
                have HE : Aside0 (nx = putAt cur (low keyR cur x.f1.f0) x.f1 ∧ ob = true) := ⟨by have h := HPP.out; unfold putP at h; rw [hm, hh] at h; exact h⟩
                have HM : Aside0 (mayB x.f1 = true) := ⟨hm⟩
                have hgp := HG.out.put (by have := HGN.out; omega) HPL.out hh
                rw [← HE.out.1] at HPN hgp
                have HGP := Aside0.mk hgp
                have hob := HE.out.2
                subst hob
                clear hm hh hgp HE
                unfold ragg at HPN
                go_upto_region 20 with (go_at_call 17; refine HPN.out.mono ?_; rintro e w5 ⟨rfl, hPT, hb⟩; have HPT := Aside0.mk hPT; have HB5 := Aside0.mk (HB4.out.trans hb); clear hPT hb)
                obtain ⟨⟨r5, hX5, hr5⟩, hfr⟩ := HPT.out
                have HX5 := Aside0.mk hX5
                have HW5 : Aside0 (Want w5 g0 r5 Av cv nx) := ⟨HW4.out.moved hfr hr5⟩
                have HZ5 : Aside0 (w5.heap[g8]? = some (.cells #[.int .i64 x.f0, .int .u64 x.f1.f0, .int .u64 x.f1.f1, .int .i64 x.f1.f2, .int .i64 x.f1.f3, .int .u64 x.f1.f4, .bool x.f1.f5, .int .i64 x.f1.f6, .slice A8 x.f1.f7.length c8, .int .u64 x.f2] 41 (0, 0))) := ⟨(hfr g8 (blk_lt HZ4.out) HG8.out.2.1 HG8.out.2.2).trans HZ4.out⟩
                have HC5 := Aside0.mk (Kd.C_below HCP.out HB5.out)
                have HMY := Aside0.mk (rmay_calls x.f1 (by have := HPL.out; omega) A8 c8 w5 HC5.out HLP.out)
                rw [HM.out] at HMY
                clear hX5 hr5 hfr HPT y1 y2 y3 y4 y5 y6 y7 y8
                have y1 := blk_cell HZ5.out 1
                have y2 := blk_cell HZ5.out 2
                have y3 := blk_cell HZ5.out 3
                have y4 := blk_cell HZ5.out 4
                have y5 := blk_cell HZ5.out 5
                have y6 := blk_cell HZ5.out 6
                have y7 := blk_cell HZ5.out 7
                have y8 := blk_cell HZ5.out 8
                go_wp2_with (go_at_call 18; refine HMY.out.mono ?_; rintro e w6 ⟨rfl, hb⟩; have HX6 := Aside0.mk (HX5.out.below hb); have HW6 := Aside0.mk (HW5.out.below hb); have HB6 := Aside0.mk (below_then HB5.out HB5.out.size hb); have HZ6 := Aside0.mk (blk_below HZ5.out hb); clear hb)
                go_meet
                exact ⟨nx, Av, cv, r5, rfl, HGP, HX6, HW6, HB6, HZ6⟩
        case rest =>
          obtain ⟨cu, Au, cq, ru, rfl, HG2, HX2, HW2, HB2, HZ2⟩ := hcut
          obtain ⟨w2, hw2⟩ : ∃ w2 : World, w2 = wc := ⟨_, rfl⟩
          subst hw2
          clear HX1 HW1 HB1 HZ1 HG HGN HG8
          have HCN : Aside0 (cu.length ≤ 40 ∧ i ≤ 39) := ⟨by have h1 := HG2.out; have h2 := HI2.out; unfold GoodL at h1; omega⟩
          have HWI : Aside0 (IntKind.i64.wrap ((i : Int) + 1) = ((i + 1 : Nat) : Int)) := ⟨by have := HCN.out; rw [i64_w]; unfold wrap64; omega⟩
          have y9 := blk_cell HZ2.out 9
          cases hh : hasKey keyR cu x.f2 with
          | false =>
            have HDR := Aside0.mk (find_no HX2.out.ix HG2.out.1 (by have := HCN.out; omega) x.f2 hh)
            have HFP : Aside0 (findP cu x.f2 = -1) := ⟨by unfold findP; rw [hh]; rfl⟩
            clear hh
            go_upto_region 24 with (go_at_call 19; refine HDR.out.mono ?_; rintro e w4 ⟨rfl, hb⟩; have HX4 := Aside0.mk (HX2.out.below hb); have HW4 := Aside0.mk (HW2.out.below hb); have HB4 := Aside0.mk (below_then HB2.out HB2.out.size hb); have HZ4 := Aside0.mk (blk_below HZ2.out hb); clear hb)
            clear HDR y9
            have hb := below_alloc (Below.refl w4.heap.size w4) (.cells #[.int .u64 0, .int .u64 0, .int .i64 0, .int .i64 0, .int .u64 0, .bool false, .int .i64 0, .slice none 0 0] 29)
            generalize w4.alloc (.cells #[.int .u64 0, .int .u64 0, .int .i64 0, .int .i64 0, .int .u64 0, .bool false, .int .i64 0, .slice none 0 0] 29) = W5 at hb ⊢
            have HX5 := Aside0.mk (HX4.out.below hb)
            have HW5 := Aside0.mk (HW4.out.below hb)
            have HB5 := Aside0.mk (below_then HB4.out HB4.out.size hb)
            have HZ5 := Aside0.mk (blk_below HZ4.out hb)
            clear hb
            have y9 := blk_cell HZ5.out 9
            have HFN := Aside0.mk (rfind_calls cu x.f2 (by have := HCN.out; omega) HG2.out.1 Au cq W5 HW5.out.1 (Kd.F_now HW5.out.2))
            rw [HFP.out] at HFN
            go_upto_region 25 with (go_at_call 16; refine HFN.out.mono ?_; rintro e w6 ⟨rfl, hb⟩; have HX6 := Aside0.mk (HX5.out.below hb); have HW6 := Aside0.mk (HW5.out.below hb); have HB6 := Aside0.mk (below_then HB5.out HB5.out.size hb); have HZ6 := Aside0.mk (blk_below HZ5.out hb); clear hb)
            clear HFN y9
            have B0 := Aside0.mk (below_drew1 (Below.refl w6.heap.size w6))
            refine start_ (n := 16) (S := fun w' => True) (ds := []) #[false, false, false, false, false, false, false, false, false, false, false, false, false, false, false, false] (by kernel_rfl) rfl rfl trivial (fun hHeld => ?_)
            refine with_tabW ido25n.tab25 ido25n.bits25 (fun HT_ HW_ => ?_)
            generalize w6.drew = wq at B0 hHeld ⊢
            refine inv_at [0, 1, 2, 3, 4, 5, 6, 7, 8, 9, 10, 11, 12, 13, 14, 15] (fun a0_ b a w' => a = putSel a0_ b [(0, 144, .bool false), (1, 145, .int .i64 (-1)), (2, 146, .bool false), (3, 147, .bool false), (4, 148, .bool false), (5, 149, .bool false), (6, 150, .bool false), (7, 151, undef), (8, 152, undef), (9, 153, undef), (10, 154, undef), (11, 155, undef), (12, 156, undef), (13, 157, undef), (14, 158, .bool false), (15, 159, .bool false)] ∧ (Below w6.heap.size w6 w')) HT_.out HW_.out (by kernel_rfl) (by kernel_rfl) ?_ ?_ ?_
            · exact ⟨by simp only [putSel, Bool.false_eq_true, if_false], B0.out⟩
            · skip
              clear B0
              refine steps_cons ?_ ?_
              · rintro b a w' ⟨ha, Q_B0⟩ hb_ hon hoff
                refine ⟨_, rfl, fun K hK => ?_⟩
                have e16 : a.tmps[16]? = some (.bool false) := by rw [ha]; exact (putSel_off rfl).trans rfl
                replace ha := Aside0.mk ha
                have B0 := Aside0.mk Q_B0
                refine value_ (w1 := w') (v := .bool false) (by rfl) rfl ?_ ?_
                · go_simp
                  (try simp only [i64_w])
                  try rfl
                refine hK.out _ _ ⟨(by rw [ha.out]; exact putSel_upk 0 hb_ rfl rfl rfl), Q_B0⟩
              refine steps_cons ?_ ?_
              · rintro b a w' ⟨ha, Q_B0⟩ hb_ hon hoff
                refine ⟨_, rfl, fun K hK => ?_⟩
                have e17 : a.tmps[17]? = some (.int .i64 (-1)) := by rw [ha]; exact (putSel_off rfl).trans rfl
                replace ha := Aside0.mk ha
                have B0 := Aside0.mk Q_B0
                refine value_ (w1 := w') (v := .int .i64 (-1)) (by rfl) rfl ?_ ?_
                · go_simp
                  (try simp only [i64_w])
                  try rfl
                refine hK.out _ _ ⟨(by rw [ha.out]; exact putSel_upk 1 hb_ rfl rfl rfl), Q_B0⟩
              refine steps_cons ?_ ?_
              · rintro b a w' ⟨ha, Q_B0⟩ hb_ hon hoff
                refine ⟨_, rfl, fun K hK => ?_⟩
                have e145 : a.tmps[145]? = some (.int .i64 (-1)) := by rw [ha]; exact putSel_on (e := (1, 145, .int .i64 (-1))) 1 rfl rfl (hon 1 (by kernel_rfl)) rfl
                replace ha := Aside0.mk ha
                have B0 := Aside0.mk Q_B0
                refine value_ (w1 := w') (v := .bool false) (by rfl) rfl ?_ ?_
                · go_simp
                  (try simp only [i64_w])
                  try rfl
                refine hK.out _ _ ⟨(by rw [ha.out]; exact putSel_upk 2 hb_ rfl rfl rfl), Q_B0⟩
              refine steps_cons ?_ ?_
              · rintro b a w' ⟨ha, Q_B0⟩ hb_ hon hoff
                refine ⟨_, rfl, fun K hK => ?_⟩
                have e144 : a.tmps[144]? = some (.bool false) := by rw [ha]; exact putSel_on (e := (0, 144, .bool false)) 0 rfl rfl (hon 0 (by kernel_rfl)) rfl
                have e146 : a.tmps[146]? = some (.bool false) := by rw [ha]; exact putSel_on (e := (2, 146, .bool false)) 2 rfl rfl (hon 2 (by kernel_rfl)) rfl
                replace ha := Aside0.mk ha
                have B0 := Aside0.mk Q_B0
                refine value_ (w1 := w') (v := .bool false) (by rfl) rfl ?_ ?_
                · go_simp
                  (try simp only [i64_w])
                  try rfl
                refine hK.out _ _ ⟨(by rw [ha.out]; exact putSel_upk 3 hb_ rfl rfl rfl), Q_B0⟩
              refine steps_cons ?_ ?_
              · rintro b a w' ⟨ha, Q_B0⟩ hb_ hon hoff
                refine ⟨_, rfl, fun K hK => ?_⟩
                have e147 : a.tmps[147]? = some (.bool false) := by rw [ha]; exact putSel_on (e := (3, 147, .bool false)) 3 rfl rfl (hon 3 (by kernel_rfl)) rfl
                replace ha := Aside0.mk ha
                have B0 := Aside0.mk Q_B0
                refine value_ (w1 := w') (v := .bool false) (by rfl) rfl ?_ ?_
                · go_simp
                  (try simp only [i64_w])
                  try rfl
                refine hK.out _ _ ⟨(by rw [ha.out]; exact putSel_upk 4 hb_ rfl rfl rfl), Q_B0⟩
              refine steps_cons ?_ ?_
              · rintro b a w' ⟨ha, Q_B0⟩ hb_ hon hoff
                refine ⟨_, rfl, fun K hK => ?_⟩
                have e16 : a.tmps[16]? = some (.bool false) := by rw [ha]; exact (putSel_off rfl).trans rfl
                have e148 : a.tmps[148]? = some (.bool false) := by rw [ha]; exact putSel_on (e := (4, 148, .bool false)) 4 rfl rfl (hon 4 (by kernel_rfl)) rfl
                replace ha := Aside0.mk ha
                have B0 := Aside0.mk Q_B0
                refine value_ (w1 := w') (v := .bool false) (wanted_on rfl rfl rfl (e148.trans (by first | rfl | (simp [*]; done)))) rfl ?_ ?_
                · go_simp
                  (try simp only [i64_w])
                  try rfl
                refine hK.out _ _ ⟨(by rw [ha.out]; exact putSel_upk 5 hb_ rfl rfl rfl), Q_B0⟩
              refine steps_cons ?_ ?_
              · rintro b a w' ⟨ha, Q_B0⟩ hb_ hon hoff
                refine ⟨_, rfl, fun K hK => ?_⟩
                have e149 : a.tmps[149]? = some (.bool false) := by rw [ha]; exact putSel_on (e := (5, 149, .bool false)) 5 rfl rfl (hon 5 (by kernel_rfl)) rfl
                have e148 : a.tmps[148]? = some (.bool false) := by rw [ha]; exact putSel_on (e := (4, 148, .bool false)) 4 rfl rfl (hon 4 (by kernel_rfl)) rfl
                replace ha := Aside0.mk ha
                have B0 := Aside0.mk Q_B0
                refine value_ (w1 := w') (v := .bool false) (wanted_on rfl rfl rfl (e148.trans (by first | rfl | (simp [*]; done)))) rfl ?_ ?_
                · go_simp
                  (try simp only [i64_w])
                  try rfl
                refine hK.out _ _ ⟨(by rw [ha.out]; exact putSel_upk 6 hb_ rfl rfl rfl), Q_B0⟩
              refine steps_cons ?_ ?_
              · rintro b a w' ⟨ha, Q_B0⟩ hb_ hon hoff
                refine ⟨_, rfl, fun K hK => ?_⟩
                have e150 : a.tmps[150]? = some (.bool false) := by rw [ha]; exact putSel_on (e := (6, 150, .bool false)) 6 rfl rfl (hon 6 (by kernel_rfl)) rfl
                replace ha := Aside0.mk ha
                have B0 := Aside0.mk Q_B0
                refine off_ (wanted_off rfl rfl rfl (e150.trans (by first | rfl | (simp [*]; done)))) ?_
                refine hK.out _ _ ⟨(by rw [ha.out]; exact putSel_upk 7 hb_ rfl rfl rfl), Q_B0⟩
              refine steps_cons ?_ ?_
              · rintro b a w' ⟨ha, Q_B0⟩ hb_ hon hoff
                refine ⟨_, rfl, fun K hK => ?_⟩
                have e150 : a.tmps[150]? = some (.bool false) := by rw [ha]; exact putSel_on (e := (6, 150, .bool false)) 6 rfl rfl (hon 6 (by kernel_rfl)) rfl
                replace ha := Aside0.mk ha
                have B0 := Aside0.mk Q_B0
                refine off_ (wanted_off rfl rfl rfl (e150.trans (by first | rfl | (simp [*]; done)))) ?_
                refine hK.out _ _ ⟨(by rw [ha.out]; exact putSel_upk 8 hb_ rfl rfl rfl), Q_B0⟩
              refine steps_cons ?_ ?_
              · rintro b a w' ⟨ha, Q_B0⟩ hb_ hon hoff
                refine ⟨_, rfl, fun K hK => ?_⟩
                have e150 : a.tmps[150]? = some (.bool false) := by rw [ha]; exact putSel_on (e := (6, 150, .bool false)) 6 rfl rfl (hon 6 (by kernel_rfl)) rfl
                replace ha := Aside0.mk ha
                have B0 := Aside0.mk Q_B0
                refine off_ (wanted_off rfl rfl rfl (e150.trans (by first | rfl | (simp [*]; done)))) ?_
                refine hK.out _ _ ⟨(by rw [ha.out]; exact putSel_upk 9 hb_ rfl rfl rfl), Q_B0⟩
              refine steps_cons ?_ ?_
              · rintro b a w' ⟨ha, Q_B0⟩ hb_ hon hoff
                refine ⟨_, rfl, fun K hK => ?_⟩
                have e150 : a.tmps[150]? = some (.bool false) := by rw [ha]; exact putSel_on (e := (6, 150, .bool false)) 6 rfl rfl (hon 6 (by kernel_rfl)) rfl
                replace ha := Aside0.mk ha
                have B0 := Aside0.mk Q_B0
                refine off_ (wanted_off rfl rfl rfl (e150.trans (by first | rfl | (simp [*]; done)))) ?_
                refine hK.out _ _ ⟨(by rw [ha.out]; exact putSel_upk 10 hb_ rfl rfl rfl), Q_B0⟩
              refine steps_cons ?_ ?_
              · rintro b a w' ⟨ha, Q_B0⟩ hb_ hon hoff
                refine ⟨_, rfl, fun K hK => ?_⟩
                have e150 : a.tmps[150]? = some (.bool false) := by rw [ha]; exact putSel_on (e := (6, 150, .bool false)) 6 rfl rfl (hon 6 (by kernel_rfl)) rfl
                replace ha := Aside0.mk ha
                have B0 := Aside0.mk Q_B0
                refine off_ (wanted_off rfl rfl rfl (e150.trans (by first | rfl | (simp [*]; done)))) ?_
                refine hK.out _ _ ⟨(by rw [ha.out]; exact putSel_upk 11 hb_ rfl rfl rfl), Q_B0⟩
              refine steps_cons ?_ ?_
              · rintro b a w' ⟨ha, Q_B0⟩ hb_ hon hoff
                refine ⟨_, rfl, fun K hK => ?_⟩
                have e150 : a.tmps[150]? = some (.bool false) := by rw [ha]; exact putSel_on (e := (6, 150, .bool false)) 6 rfl rfl (hon 6 (by kernel_rfl)) rfl
                replace ha := Aside0.mk ha
                have B0 := Aside0.mk Q_B0
                refine off_ (wanted_off rfl rfl rfl (e150.trans (by first | rfl | (simp [*]; done)))) ?_
                refine hK.out _ _ ⟨(by rw [ha.out]; exact putSel_upk 12 hb_ rfl rfl rfl), Q_B0⟩
              refine steps_cons ?_ ?_
              · rintro b a w' ⟨ha, Q_B0⟩ hb_ hon hoff
                refine ⟨_, rfl, fun K hK => ?_⟩
                have e150 : a.tmps[150]? = some (.bool false) := by rw [ha]; exact putSel_on (e := (6, 150, .bool false)) 6 rfl rfl (hon 6 (by kernel_rfl)) rfl
                replace ha := Aside0.mk ha
                have B0 := Aside0.mk Q_B0
                refine off_ (wanted_off rfl rfl rfl (e150.trans (by first | rfl | (simp [*]; done)))) ?_
                refine hK.out _ _ ⟨(by rw [ha.out]; exact putSel_upk 13 hb_ rfl rfl rfl), Q_B0⟩
              refine steps_cons ?_ ?_
              · rintro b a w' ⟨ha, Q_B0⟩ hb_ hon hoff
                refine ⟨_, rfl, fun K hK => ?_⟩
                have e150 : a.tmps[150]? = some (.bool false) := by rw [ha]; exact putSel_on (e := (6, 150, .bool false)) 6 rfl rfl (hon 6 (by kernel_rfl)) rfl
                have e157 : a.tmps[157]? = some (undef) := by rw [ha]; exact putSel_on (e := (13, 157, undef)) 13 rfl rfl (hon 13 (by kernel_rfl)) rfl
                have e148 : a.tmps[148]? = some (.bool false) := by rw [ha]; exact putSel_on (e := (4, 148, .bool false)) 4 rfl rfl (hon 4 (by kernel_rfl)) rfl
                replace ha := Aside0.mk ha
                have B0 := Aside0.mk Q_B0
                refine value_ (w1 := w') (v := .bool false) (wanted_on rfl rfl rfl (e148.trans (by first | rfl | (simp [*]; done)))) rfl ?_ ?_
                · go_simp
                  (try simp only [i64_w])
                  try rfl
                refine hK.out _ _ ⟨(by rw [ha.out]; exact putSel_upk 14 hb_ rfl rfl rfl), Q_B0⟩
              refine steps_cons ?_ ?_
              · rintro b a w' ⟨ha, Q_B0⟩ hb_ hon hoff
                refine ⟨_, rfl, fun K hK => ?_⟩
                have e148 : a.tmps[148]? = some (.bool false) := by rw [ha]; exact putSel_on (e := (4, 148, .bool false)) 4 rfl rfl (hon 4 (by kernel_rfl)) rfl
                have e158 : a.tmps[158]? = some (.bool false) := by rw [ha]; exact putSel_on (e := (14, 158, .bool false)) 14 rfl rfl (hon 14 (by kernel_rfl)) rfl
                replace ha := Aside0.mk ha
                have B0 := Aside0.mk Q_B0
                refine value_ (w1 := w') (v := .bool false) (by rfl) rfl ?_ ?_
                · go_simp
                  (try simp only [i64_w])
                  try rfl
                refine hK.out _ _ ⟨(by rw [ha.out]; exact putSel_upk 15 hb_ rfl rfl rfl), Q_B0⟩
              exact steps_nil
            rintro b a w7 hall ⟨ha, Q_B0⟩
            clear B0
            have hb0_ := hall 0 (by kernel_rfl)
            have hb1_ := hall 1 (by kernel_rfl)
            have hb2_ := hall 2 (by kernel_rfl)
            have hb3_ := hall 3 (by kernel_rfl)
            have hb4_ := hall 4 (by kernel_rfl)
            have hb5_ := hall 5 (by kernel_rfl)
            have hb6_ := hall 6 (by kernel_rfl)
            have hb7_ := hall 7 (by kernel_rfl)
            have hb8_ := hall 8 (by kernel_rfl)
            have hb9_ := hall 9 (by kernel_rfl)
            have hb10_ := hall 10 (by kernel_rfl)
            have hb11_ := hall 11 (by kernel_rfl)
            have hb12_ := hall 12 (by kernel_rfl)
            have hb13_ := hall 13 (by kernel_rfl)
            have hb14_ := hall 14 (by kernel_rfl)
            have hb15_ := hall 15 (by kernel_rfl)
            subst ha
            simp only [putSel, hb0_, hb1_, hb2_, hb3_, hb4_, hb5_, hb6_, hb7_, hb8_, hb9_, hb10_, hb11_, hb12_, hb13_, hb14_, hb15_, if_true, Act.put, List.setIfInBounds_toArray, List.set_cons_zero, List.set_cons_succ]
            have B0 := Aside0.mk Q_B0
            clear Q_B0
            clear hall hb0_ hb1_ hb2_ hb3_ hb4_ hb5_ hb6_ hb7_ hb8_ hb9_ hb10_ hb11_ hb12_ hb13_ hb14_ hb15_
            have hb := B0.out
            have HX7 := Aside0.mk (HX6.out.below hb)
            have HW7 := Aside0.mk (HW6.out.below hb)
            have HB7 := Aside0.mk (below_then HB6.out HB6.out.size hb)
            have HZ7 := Aside0.mk (blk_below HZ6.out hb)
            clear hb
            have t9 := HWI.out
            go_wp2_with fail
            go_roundg (l.length - i)
            case measure => have := HI.out; have := HI2.out; omega
            case rel => exact ⟨i + 1, cu, Au, cq, ru, rfl, by first | rfl | (rw [← i64_w, HWI.out]) | (simp; unfold wrap64; have := HCN.out; omega), ⟨by have := HI2.out; omega, by have := HI.out; have := HI2.out; omega⟩, HG2, HX7, HW7, HB7⟩
          | true =>
            obtain ⟨xo, hxo, hlo⟩ := hasKey_get hh
            have HDR := Aside0.mk (find_yes HX2.out.ix HG2.out.1 (by have := HCN.out; omega) x.f2 hh xo hxo (by have := HG2.out.2.2.2 xo (List.mem_of_getElem? hxo); omega))
            have HFP : Aside0 (findP cu x.f2 = (low keyR cu x.f2 : Int)) := ⟨by unfold findP; rw [hh]; rfl⟩
            have HXO := Aside0.mk (And.intro hxo (And.intro hlo (HG2.out.2.2.2 xo (List.mem_of_getElem? hxo))))
            obtain ⟨lk, hlk⟩ : ∃ k, k = low keyR cu x.f2 := ⟨_, rfl⟩
            rw [← hlk] at HFP HXO
            clear hh hxo hlo hlk
            go_upto_region 24 with (go_at_call 19; refine HDR.out.mono ?_; rintro e w4 ⟨Ao, co, rfl, hRo, hb⟩; have HO4 := Aside0.mk (And.intro (Kd.R_reads' hRo).2.2 (Kd.R_reads' hRo).2.1); clear hRo; have HX4 := Aside0.mk (HX2.out.below hb); have HW4 := Aside0.mk (HW2.out.below hb); have HB4 := Aside0.mk (below_then HB2.out HB2.out.size hb); have HZ4 := Aside0.mk (blk_below HZ2.out hb); clear hb)
            clear HDR y9
            have hz9 := heap_alloc_new w4 (.cells #[.int .u64 xo.f0, .int .u64 xo.f1, .int .i64 xo.f2, .int .i64 xo.f3, .int .u64 xo.f4, .bool xo.f5, .int .i64 xo.f6, .slice Ao xo.f7.length co] 29)
            have hb := below_alloc (Below.refl w4.heap.size w4) (.cells #[.int .u64 xo.f0, .int .u64 xo.f1, .int .i64 xo.f2, .int .i64 xo.f3, .int .u64 xo.f4, .bool xo.f5, .int .i64 xo.f6, .slice Ao xo.f7.length co] 29)
            obtain ⟨g9, hg9⟩ : ∃ g, g = w4.heap.size := ⟨_, rfl⟩
            generalize w4.alloc (.cells #[.int .u64 xo.f0, .int .u64 xo.f1, .int .i64 xo.f2, .int .i64 xo.f3, .int .u64 xo.f4, .bool xo.f5, .int .i64 xo.f6, .slice Ao xo.f7.length co] 29) = W5 at hz9 hb ⊢
            rw [← hg9] at hz9 ⊢
            have HO5 := Aside0.mk (Kd.C_below HO4.out.1 hb)
            have HZ95 := Aside0.mk hz9
            clear hz9 hg9
            have HX5 := Aside0.mk (HX4.out.below hb)
            have HW5 := Aside0.mk (HW4.out.below hb)
            have HB5 := Aside0.mk (below_then HB4.out HB4.out.size hb)
            have HZ5 := Aside0.mk (blk_below HZ4.out hb)
            clear hb
            have y9 := blk_cell HZ5.out 9
            have HFN := Aside0.mk (rfind_calls cu x.f2 (by have := HCN.out; omega) HG2.out.1 Au cq W5 HW5.out.1 (Kd.F_now HW5.out.2))
            rw [HFP.out] at HFN
            go_upto_region 25 with (go_at_call 16; refine HFN.out.mono ?_; rintro e w6 ⟨rfl, hb⟩; have HO6 := Aside0.mk (Kd.C_below HO5.out hb); have HZ96 := Aside0.mk (blk_below HZ95.out hb); have HX6 := Aside0.mk (HX5.out.below hb); have HW6 := Aside0.mk (HW5.out.below hb); have HB6 := Aside0.mk (below_then HB5.out HB5.out.size hb); have HZ6 := Aside0.mk (blk_below HZ5.out hb); clear hb)
            clear HFN y9 HX5 HW5 HB5 HZ5 HZ95 HO5 HX4 HW4 HB4 HZ4
            obtain ⟨adw, Ap, cpq, hA, x0, x1, x2, x3, x4, x5, x6, x7, hlp, hCp⟩ := C_at (Kd.F_now HW6.out.2) HXO.out.1
            subst hA
            have HWP := Aside0.mk (And.intro hCp hlp)
            have HX6C := Aside0.mk (And.intro x0 (And.intro x1 (And.intro x2 (And.intro x3 (And.intro x4 (And.intro x5 (And.intro x6 x7)))))))
            have p1 := eq_true (show (0 : Int) ≤ (lk : Int) by omega)
            have q1 := eq_true (show (lk : Int) < ((cu.length : Nat) : Int) by have := HXO.out; omega)
            have B0 := Aside0.mk (below_drew1 (Below.refl w6.heap.size w6))
            clear hCp hlp x0 x1 x2 x3 x4 x5 x6 x7
            refine start_ (n := 16) (S := fun w' => True) (ds := []) #[false, false, false, false, false, false, false, false, false, false, false, false, false, false, false, false] (by kernel_rfl) rfl rfl trivial (fun hHeld => ?_)
            refine with_tabW ido25y.tab25 ido25y.bits25 (fun HT_ HW_ => ?_)
            generalize w6.drew = wq at B0 hHeld ⊢
            refine inv_at [0, 1, 2, 3, 4, 5, 6, 7, 8, 9, 10, 11, 12, 13, 14, 15] (fun a0_ b a w' => a = putSel a0_ b [(0, 144, .bool true), (1, 145, .int .i64 (lk : Int)), (2, 146, .bool true), (3, 147, .bool false), (4, 148, .bool false), (5, 149, .bool true), (6, 150, .bool true), (7, 151, .agg #[.int .u64 xo.f0, .int .u64 xo.f1, .int .i64 xo.f2, .int .i64 xo.f3, .int .u64 xo.f4, .bool xo.f5, .int .i64 xo.f6, .slice Ao xo.f7.length co]), (8, 152, .slice (some adw) cu.length cq), (9, 153, .int .i64 (lk : Int)), (10, 154, .pointer (some (adw.add (lk * 8)))), (11, 155, .agg #[.int .u64 xo.f0, .int .u64 xo.f1, .int .i64 xo.f2, .int .i64 xo.f3, .int .u64 xo.f4, .bool xo.f5, .int .i64 xo.f6, .slice Ap xo.f7.length cpq]), (12, 156, .bool true), (13, 157, .bool false), (14, 158, .bool false), (15, 159, .bool false)] ∧ (Below w6.heap.size w6 w')) HT_.out HW_.out (by kernel_rfl) (by kernel_rfl) ?_ ?_ ?_
            · exact ⟨by simp only [putSel, Bool.false_eq_true, if_false], B0.out⟩
            · skip
              clear B0
              refine steps_cons ?_ ?_
              · rintro b a w' ⟨ha, Q_B0⟩ hb_ hon hoff
                refine ⟨_, rfl, fun K hK => ?_⟩
                have e16 : a.tmps[16]? = some (.bool true) := by rw [ha]; exact (putSel_off rfl).trans rfl
                replace ha := Aside0.mk ha
                have B0 := Aside0.mk Q_B0
                refine value_ (w1 := w') (v := .bool true) (by rfl) rfl ?_ ?_
                · go_simp
                  (try simp only [i64_w])
                  try rfl
                refine hK.out _ _ ⟨(by rw [ha.out]; exact putSel_upk 0 hb_ rfl rfl rfl), Q_B0⟩
              refine steps_cons ?_ ?_
              · rintro b a w' ⟨ha, Q_B0⟩ hb_ hon hoff
                refine ⟨_, rfl, fun K hK => ?_⟩
                have e17 : a.tmps[17]? = some (.int .i64 (lk : Int)) := by rw [ha]; exact (putSel_off rfl).trans rfl
                replace ha := Aside0.mk ha
                have B0 := Aside0.mk Q_B0
                refine value_ (w1 := w') (v := .int .i64 (lk : Int)) (by rfl) rfl ?_ ?_
                · go_simp
                  (try simp only [i64_w])
                  try rfl
                refine hK.out _ _ ⟨(by rw [ha.out]; exact putSel_upk 1 hb_ rfl rfl rfl), Q_B0⟩
              refine steps_cons ?_ ?_
              · rintro b a w' ⟨ha, Q_B0⟩ hb_ hon hoff
                refine ⟨_, rfl, fun K hK => ?_⟩
                have e145 : a.tmps[145]? = some (.int .i64 (lk : Int)) := by rw [ha]; exact putSel_on (e := (1, 145, .int .i64 (lk : Int))) 1 rfl rfl (hon 1 (by kernel_rfl)) rfl
                replace ha := Aside0.mk ha
                have B0 := Aside0.mk Q_B0
                refine value_ (w1 := w') (v := .bool true) (by rfl) rfl ?_ ?_
                · go_simp
                  (try simp only [i64_w])
                  try rfl
                refine hK.out _ _ ⟨(by rw [ha.out]; exact putSel_upk 2 hb_ rfl rfl rfl), Q_B0⟩
              refine steps_cons ?_ ?_
              · rintro b a w' ⟨ha, Q_B0⟩ hb_ hon hoff
                refine ⟨_, rfl, fun K hK => ?_⟩
                have e144 : a.tmps[144]? = some (.bool true) := by rw [ha]; exact putSel_on (e := (0, 144, .bool true)) 0 rfl rfl (hon 0 (by kernel_rfl)) rfl
                have e146 : a.tmps[146]? = some (.bool true) := by rw [ha]; exact putSel_on (e := (2, 146, .bool true)) 2 rfl rfl (hon 2 (by kernel_rfl)) rfl
                replace ha := Aside0.mk ha
                have B0 := Aside0.mk Q_B0
                refine value_ (w1 := w') (v := .bool false) (by rfl) rfl ?_ ?_
                · go_simp
                  (try simp only [i64_w])
                  try rfl
                refine hK.out _ _ ⟨(by rw [ha.out]; exact putSel_upk 3 hb_ rfl rfl rfl), Q_B0⟩
              refine steps_cons ?_ ?_
              · rintro b a w' ⟨ha, Q_B0⟩ hb_ hon hoff
                refine ⟨_, rfl, fun K hK => ?_⟩
                have e147 : a.tmps[147]? = some (.bool false) := by rw [ha]; exact putSel_on (e := (3, 147, .bool false)) 3 rfl rfl (hon 3 (by kernel_rfl)) rfl
                replace ha := Aside0.mk ha
                have B0 := Aside0.mk Q_B0
                refine value_ (w1 := w') (v := .bool false) (by rfl) rfl ?_ ?_
                · go_simp
                  (try simp only [i64_w])
                  try rfl
                refine hK.out _ _ ⟨(by rw [ha.out]; exact putSel_upk 4 hb_ rfl rfl rfl), Q_B0⟩
              refine steps_cons ?_ ?_
              · rintro b a w' ⟨ha, Q_B0⟩ hb_ hon hoff
                refine ⟨_, rfl, fun K hK => ?_⟩
                have e16 : a.tmps[16]? = some (.bool true) := by rw [ha]; exact (putSel_off rfl).trans rfl
                have e148 : a.tmps[148]? = some (.bool false) := by rw [ha]; exact putSel_on (e := (4, 148, .bool false)) 4 rfl rfl (hon 4 (by kernel_rfl)) rfl
                replace ha := Aside0.mk ha
                have B0 := Aside0.mk Q_B0
                refine value_ (w1 := w') (v := .bool true) (wanted_on rfl rfl rfl (e148.trans (by first | rfl | (simp [*]; done)))) rfl ?_ ?_
                · go_simp
                  (try simp only [i64_w])
                  try rfl
                refine hK.out _ _ ⟨(by rw [ha.out]; exact putSel_upk 5 hb_ rfl rfl rfl), Q_B0⟩
              refine steps_cons ?_ ?_
              · rintro b a w' ⟨ha, Q_B0⟩ hb_ hon hoff
                refine ⟨_, rfl, fun K hK => ?_⟩
                have e149 : a.tmps[149]? = some (.bool true) := by rw [ha]; exact putSel_on (e := (5, 149, .bool true)) 5 rfl rfl (hon 5 (by kernel_rfl)) rfl
                have e148 : a.tmps[148]? = some (.bool false) := by rw [ha]; exact putSel_on (e := (4, 148, .bool false)) 4 rfl rfl (hon 4 (by kernel_rfl)) rfl
                replace ha := Aside0.mk ha
                have B0 := Aside0.mk Q_B0
                refine value_ (w1 := w') (v := .bool true) (wanted_on rfl rfl rfl (e148.trans (by first | rfl | (simp [*]; done)))) rfl ?_ ?_
                · go_simp
                  (try simp only [i64_w])
                  try rfl
                refine hK.out _ _ ⟨(by rw [ha.out]; exact putSel_upk 6 hb_ rfl rfl rfl), Q_B0⟩
              refine steps_cons ?_ ?_
              · rintro b a w' ⟨ha, Q_B0⟩ hb_ hon hoff
                refine ⟨_, rfl, fun K hK => ?_⟩
                have e15 : a.tmps[15]? = some (.pointer (some ⟨g9, 0, none⟩)) := by rw [ha]; exact (putSel_off rfl).trans rfl
                have e150 : a.tmps[150]? = some (.bool true) := by rw [ha]; exact putSel_on (e := (6, 150, .bool true)) 6 rfl rfl (hon 6 (by kernel_rfl)) rfl
                replace ha := Aside0.mk ha
                have B0 := Aside0.mk Q_B0
                have c0_ := blk_cell (blk_below HZ96.out B0.out) 0
                have c1_ := blk_cell (blk_below HZ96.out B0.out) 1
                have c2_ := blk_cell (blk_below HZ96.out B0.out) 2
                have c3_ := blk_cell (blk_below HZ96.out B0.out) 3
                have c4_ := blk_cell (blk_below HZ96.out B0.out) 4
                have c5_ := blk_cell (blk_below HZ96.out B0.out) 5
                have c6_ := blk_cell (blk_below HZ96.out B0.out) 6
                have c7_ := blk_cell (blk_below HZ96.out B0.out) 7
                refine value_ (w1 := w') (v := .agg #[.int .u64 xo.f0, .int .u64 xo.f1, .int .i64 xo.f2, .int .i64 xo.f3, .int .u64 xo.f4, .bool xo.f5, .int .i64 xo.f6, .slice Ao xo.f7.length co]) (wanted_on rfl rfl rfl (e150.trans (by first | rfl | (simp [*]; done)))) rfl ?_ ?_
                · go_simp
                  (try simp only [i64_w])
                  try rfl
                refine hK.out _ _ ⟨(by rw [ha.out]; exact putSel_upk 7 hb_ rfl rfl rfl), Q_B0⟩
              refine steps_cons ?_ ?_
              · rintro b a w' ⟨ha, Q_B0⟩ hb_ hon hoff
                refine ⟨_, rfl, fun K hK => ?_⟩
                have e6 : a.tmps[6]? = some (.slice (some adw) cu.length cq) := by rw [ha]; exact (putSel_off rfl).trans rfl
                have e150 : a.tmps[150]? = some (.bool true) := by rw [ha]; exact putSel_on (e := (6, 150, .bool true)) 6 rfl rfl (hon 6 (by kernel_rfl)) rfl
                replace ha := Aside0.mk ha
                have B0 := Aside0.mk Q_B0
                refine value_ (w1 := w') (v := .slice (some adw) cu.length cq) (wanted_on rfl rfl rfl (e150.trans (by first | rfl | (simp [*]; done)))) rfl ?_ ?_
                · go_simp
                  (try simp only [i64_w])
                  try rfl
                refine hK.out _ _ ⟨(by rw [ha.out]; exact putSel_upk 8 hb_ rfl rfl rfl), Q_B0⟩
              refine steps_cons ?_ ?_
              · rintro b a w' ⟨ha, Q_B0⟩ hb_ hon hoff
                refine ⟨_, rfl, fun K hK => ?_⟩
                have e17 : a.tmps[17]? = some (.int .i64 (lk : Int)) := by rw [ha]; exact (putSel_off rfl).trans rfl
                have e150 : a.tmps[150]? = some (.bool true) := by rw [ha]; exact putSel_on (e := (6, 150, .bool true)) 6 rfl rfl (hon 6 (by kernel_rfl)) rfl
                replace ha := Aside0.mk ha
                have B0 := Aside0.mk Q_B0
                refine value_ (w1 := w') (v := .int .i64 (lk : Int)) (wanted_on rfl rfl rfl (e150.trans (by first | rfl | (simp [*]; done)))) rfl ?_ ?_
                · go_simp
                  (try simp only [i64_w])
                  try rfl
                refine hK.out _ _ ⟨(by rw [ha.out]; exact putSel_upk 9 hb_ rfl rfl rfl), Q_B0⟩
              refine steps_cons ?_ ?_
              · rintro b a w' ⟨ha, Q_B0⟩ hb_ hon hoff
                refine ⟨_, rfl, fun K hK => ?_⟩
                have e152 : a.tmps[152]? = some (.slice (some adw) cu.length cq) := by rw [ha]; exact putSel_on (e := (8, 152, .slice (some adw) cu.length cq)) 8 rfl rfl (hon 8 (by kernel_rfl)) rfl
                have e153 : a.tmps[153]? = some (.int .i64 (lk : Int)) := by rw [ha]; exact putSel_on (e := (9, 153, .int .i64 (lk : Int))) 9 rfl rfl (hon 9 (by kernel_rfl)) rfl
                have e150 : a.tmps[150]? = some (.bool true) := by rw [ha]; exact putSel_on (e := (6, 150, .bool true)) 6 rfl rfl (hon 6 (by kernel_rfl)) rfl
                replace ha := Aside0.mk ha
                have B0 := Aside0.mk Q_B0
                refine value_ (w1 := w') (v := .pointer (some (adw.add (lk * 8)))) (wanted_on rfl rfl rfl (e150.trans (by first | rfl | (simp [*]; done)))) rfl ?_ ?_
                · go_simp
                  (try simp only [i64_w])
                  try rfl
                refine hK.out _ _ ⟨(by rw [ha.out]; exact putSel_upk 10 hb_ rfl rfl rfl), Q_B0⟩
              refine steps_cons ?_ ?_
              · rintro b a w' ⟨ha, Q_B0⟩ hb_ hon hoff
                refine ⟨_, rfl, fun K hK => ?_⟩
                have e154 : a.tmps[154]? = some (.pointer (some (adw.add (lk * 8)))) := by rw [ha]; exact putSel_on (e := (10, 154, .pointer (some (adw.add (lk * 8))))) 10 rfl rfl (hon 10 (by kernel_rfl)) rfl
                have e150 : a.tmps[150]? = some (.bool true) := by rw [ha]; exact putSel_on (e := (6, 150, .bool true)) 6 rfl rfl (hon 6 (by kernel_rfl)) rfl
                replace ha := Aside0.mk ha
                have B0 := Aside0.mk Q_B0
                have x0_ := pw_cell_below B0.out HX6C.out.1
                have x1_ := pw_cell_below B0.out HX6C.out.2.1
                have x2_ := pw_cell_below B0.out HX6C.out.2.2.1
                have x3_ := pw_cell_below B0.out HX6C.out.2.2.2.1
                have x4_ := pw_cell_below B0.out HX6C.out.2.2.2.2.1
                have x5_ := pw_cell_below B0.out HX6C.out.2.2.2.2.2.1
                have x6_ := pw_cell_below B0.out HX6C.out.2.2.2.2.2.2.1
                have x7_ := pw_cell_below B0.out HX6C.out.2.2.2.2.2.2.2
                refine value_ (w1 := w') (v := .agg #[.int .u64 xo.f0, .int .u64 xo.f1, .int .i64 xo.f2, .int .i64 xo.f3, .int .u64 xo.f4, .bool xo.f5, .int .i64 xo.f6, .slice Ap xo.f7.length cpq]) (wanted_on rfl rfl rfl (e150.trans (by first | rfl | (simp [*]; done)))) rfl ?_ ?_
                · go_simp
                  (try simp only [i64_w])
                  try rfl
                refine hK.out _ _ ⟨(by rw [ha.out]; exact putSel_upk 11 hb_ rfl rfl rfl), Q_B0⟩
              refine steps_cons ?_ ?_
              · rintro b a w' ⟨ha, Q_B0⟩ hb_ hon hoff
                refine ⟨_, rfl, fun K hK => ?_⟩
                have e151 : a.tmps[151]? = some (.agg #[.int .u64 xo.f0, .int .u64 xo.f1, .int .i64 xo.f2, .int .i64 xo.f3, .int .u64 xo.f4, .bool xo.f5, .int .i64 xo.f6, .slice Ao xo.f7.length co]) := by rw [ha]; exact putSel_on (e := (7, 151, .agg #[.int .u64 xo.f0, .int .u64 xo.f1, .int .i64 xo.f2, .int .i64 xo.f3, .int .u64 xo.f4, .bool xo.f5, .int .i64 xo.f6, .slice Ao xo.f7.length co])) 7 rfl rfl (hon 7 (by kernel_rfl)) rfl
                have e155 : a.tmps[155]? = some (.agg #[.int .u64 xo.f0, .int .u64 xo.f1, .int .i64 xo.f2, .int .i64 xo.f3, .int .u64 xo.f4, .bool xo.f5, .int .i64 xo.f6, .slice Ap xo.f7.length cpq]) := by rw [ha]; exact putSel_on (e := (11, 155, .agg #[.int .u64 xo.f0, .int .u64 xo.f1, .int .i64 xo.f2, .int .i64 xo.f3, .int .u64 xo.f4, .bool xo.f5, .int .i64 xo.f6, .slice Ap xo.f7.length cpq])) 11 rfl rfl (hon 11 (by kernel_rfl)) rfl
                have e150 : a.tmps[150]? = some (.bool true) := by rw [ha]; exact putSel_on (e := (6, 150, .bool true)) 6 rfl rfl (hon 6 (by kernel_rfl)) rfl
                replace ha := Aside0.mk ha
                have B0 := Aside0.mk Q_B0
                refine goes_ Try.func11 (by kernel_rfl) rfl #[.agg #[.int .u64 xo.f0, .int .u64 xo.f1, .int .i64 xo.f2, .int .i64 xo.f3, .int .u64 xo.f4, .bool xo.f5, .int .i64 xo.f6, .slice Ao xo.f7.length co], .agg #[.int .u64 xo.f0, .int .u64 xo.f1, .int .i64 xo.f2, .int .i64 xo.f3, .int .u64 xo.f4, .bool xo.f5, .int .i64 xo.f6, .slice Ap xo.f7.length cpq]] (wanted_on rfl rfl rfl (e150.trans rfl)) rfl rfl (by first | (simp only [List.map_toArray, List.map_cons, List.map_nil, Act.eval, Array.getD_eq_getD_getElem?, Option.getD_some, e151, e155, e150]; done) | (simp only [List.map_toArray, List.map_cons, List.map_nil, Act.eval, Array.getD_eq_getD_getElem?, Option.getD_some, e151, e155, e150]; rfl)) ?_
                with_reducible refine (osame_calls xo (by have := HXO.out; omega) Ao co Ap cpq w' (Kd.C_below HO6.out B0.out) HO4.out.2 (Kd.C_below HWP.out.1 B0.out) HWP.out.2).mono ?_
                rintro e w2 ⟨rfl, hb⟩
                refine ⟨_, rfl, ?_⟩
                refine hK.out _ _ ⟨(by rw [ha.out]; exact putSel_upk 12 hb_ rfl rfl rfl), below_then B0.out B0.out.size hb⟩
              refine steps_cons ?_ ?_
              · rintro b a w' ⟨ha, Q_B0⟩ hb_ hon hoff
                refine ⟨_, rfl, fun K hK => ?_⟩
                have e156 : a.tmps[156]? = some (.bool true) := by rw [ha]; exact putSel_on (e := (12, 156, .bool true)) 12 rfl rfl (hon 12 (by kernel_rfl)) rfl
                have e150 : a.tmps[150]? = some (.bool true) := by rw [ha]; exact putSel_on (e := (6, 150, .bool true)) 6 rfl rfl (hon 6 (by kernel_rfl)) rfl
                replace ha := Aside0.mk ha
                have B0 := Aside0.mk Q_B0
                refine value_ (w1 := w') (v := .bool false) (wanted_on rfl rfl rfl (e150.trans (by first | rfl | (simp [*]; done)))) rfl ?_ ?_
                · go_simp
                  (try simp only [i64_w])
                  try rfl
                refine hK.out _ _ ⟨(by rw [ha.out]; exact putSel_upk 13 hb_ rfl rfl rfl), Q_B0⟩
              refine steps_cons ?_ ?_
              · rintro b a w' ⟨ha, Q_B0⟩ hb_ hon hoff
                refine ⟨_, rfl, fun K hK => ?_⟩
                have e150 : a.tmps[150]? = some (.bool true) := by rw [ha]; exact putSel_on (e := (6, 150, .bool true)) 6 rfl rfl (hon 6 (by kernel_rfl)) rfl
                have e157 : a.tmps[157]? = some (.bool false) := by rw [ha]; exact putSel_on (e := (13, 157, .bool false)) 13 rfl rfl (hon 13 (by kernel_rfl)) rfl
                have e148 : a.tmps[148]? = some (.bool false) := by rw [ha]; exact putSel_on (e := (4, 148, .bool false)) 4 rfl rfl (hon 4 (by kernel_rfl)) rfl
                replace ha := Aside0.mk ha
                have B0 := Aside0.mk Q_B0
                refine value_ (w1 := w') (v := .bool false) (wanted_on rfl rfl rfl (e148.trans (by first | rfl | (simp [*]; done)))) rfl ?_ ?_
                · go_simp
                  (try simp only [i64_w])
                  try rfl
                refine hK.out _ _ ⟨(by rw [ha.out]; exact putSel_upk 14 hb_ rfl rfl rfl), Q_B0⟩
              refine steps_cons ?_ ?_
              · rintro b a w' ⟨ha, Q_B0⟩ hb_ hon hoff
                refine ⟨_, rfl, fun K hK => ?_⟩
                have e148 : a.tmps[148]? = some (.bool false) := by rw [ha]; exact putSel_on (e := (4, 148, .bool false)) 4 rfl rfl (hon 4 (by kernel_rfl)) rfl
                have e158 : a.tmps[158]? = some (.bool false) := by rw [ha]; exact putSel_on (e := (14, 158, .bool false)) 14 rfl rfl (hon 14 (by kernel_rfl)) rfl
                replace ha := Aside0.mk ha
                have B0 := Aside0.mk Q_B0
                refine value_ (w1 := w') (v := .bool false) (by rfl) rfl ?_ ?_
                · go_simp
                  (try simp only [i64_w])
                  try rfl
                refine hK.out _ _ ⟨(by rw [ha.out]; exact putSel_upk 15 hb_ rfl rfl rfl), Q_B0⟩
              exact steps_nil
            rintro b a w7 hall ⟨ha, Q_B0⟩
            clear B0
            have hb0_ := hall 0 (by kernel_rfl)
            have hb1_ := hall 1 (by kernel_rfl)
            have hb2_ := hall 2 (by kernel_rfl)
            have hb3_ := hall 3 (by kernel_rfl)
            have hb4_ := hall 4 (by kernel_rfl)
            have hb5_ := hall 5 (by kernel_rfl)
            have hb6_ := hall 6 (by kernel_rfl)
            have hb7_ := hall 7 (by kernel_rfl)
            have hb8_ := hall 8 (by kernel_rfl)
            have hb9_ := hall 9 (by kernel_rfl)
            have hb10_ := hall 10 (by kernel_rfl)
            have hb11_ := hall 11 (by kernel_rfl)
            have hb12_ := hall 12 (by kernel_rfl)
            have hb13_ := hall 13 (by kernel_rfl)
            have hb14_ := hall 14 (by kernel_rfl)
            have hb15_ := hall 15 (by kernel_rfl)
            subst ha
            simp only [putSel, hb0_, hb1_, hb2_, hb3_, hb4_, hb5_, hb6_, hb7_, hb8_, hb9_, hb10_, hb11_, hb12_, hb13_, hb14_, hb15_, if_true, Act.put, List.setIfInBounds_toArray, List.set_cons_zero, List.set_cons_succ]
            have B0 := Aside0.mk Q_B0
            clear Q_B0
            clear hall hb0_ hb1_ hb2_ hb3_ hb4_ hb5_ hb6_ hb7_ hb8_ hb9_ hb10_ hb11_ hb12_ hb13_ hb14_ hb15_
            have hb := B0.out
            have HX7 := Aside0.mk (HX6.out.below hb)
            have HW7 := Aside0.mk (HW6.out.below hb)
            have HB7 := Aside0.mk (below_then HB6.out HB6.out.size hb)
            have HZ7 := Aside0.mk (blk_below HZ6.out hb)
            clear hb
            clear p1 q1
            go_wp2_with fail
            go_roundg (l.length - i)
            case measure => have := HI.out; have := HI2.out; omega
            case rel => exact ⟨i + 1, cu, some adw, cq, ru, rfl, by first | rfl | (rw [← i64_w, HWI.out]) | (simp; unfold wrap64; have := HCN.out; omega), ⟨by have := HI2.out; omega, by have := HI.out; have := HI2.out; omega⟩, HG2, HX7, HW7, HB7⟩
end Go.Proofs.Ytaepbgieahedjaa.QS
namespace Go.Proofs.Ytaepbgieahedjaa.Hp
open Go.RowKit Go.Proofs.YtaepbgieahedjaaW.PrintWords Go.Proofs.YtaepbgieahedjaaW.PrintLast Go.Proofs.YtaepbgieahedjaaW.PrintMore
attribute [local go_sem] max2_int min2_int max_two min_two max_three min_three max_four min_four   -- for this text's walks alone
set_option linter.unusedVariables false
set_option linter.unusedSimpArgs false
def wagtaillaw27_IndexDoes.f (l : List S41) (now : Int) : Option Bool := if l.length ≤ 9223372036854775807 then some true else none
set_option maxHeartbeats 8000000 in
set_option maxRecDepth 100000 in
theorem wagtaillaw27_IndexDoes.calls (A0 : Option Addr) (c0 : Nat) (l0 : List (S41)) (a1 : Int) (r : Bool) (w : World) (hr0 : Kd.C k41 w A0 l0.length l0) (hc0 : l0.length ≤ c0) (h : wagtaillaw27_IndexDoes.f l0 a1 = some r) :
    Calls Try.prog 4 #[.slice A0 l0.length c0, .int .u64 a1] w fun e w' => e = .returned (.bool r) ∧ Below w.heap.size w w' := by
  unfold wagtaillaw27_IndexDoes.f at h
  by_cases hc : l0.length ≤ 9223372036854775807
  case neg => rw [if_neg hc] at h; cases h
  rw [if_pos hc] at h
  obtain rfl := Option.some.inj h
  exact QS.does_calls l0 A0 c0 a1 w hr0 hc
end Go.Proofs.Ytaepbgieahedjaa.Hp
namespace Go.Proofs.Ytaepbgieahedjaa.Hp
open Go.RowKit Go.Proofs.YtaepbgieahedjaaW.PrintWords
def ok29 (x : S29) : Prop := ((Lit.int .u64 x.f0).wf = true) ∧ ((Lit.int .u64 x.f1).wf = true) ∧ ((Lit.int .i64 x.f2).wf = true) ∧ ((Lit.int .i64 x.f3).wf = true) ∧ ((Lit.int .u64 x.f4).wf = true) ∧ (True) ∧ ((Lit.int .i64 x.f6).wf = true) ∧ (x.f7.length ≤ 9223372036854775807 ∧ ∀ x_ ∈ x.f7, (Lit.int .i64 x_).wf = true)
theorem tk29 : Tk Try.prog k29 29 ok29 :=
  Tk.imp (Tk.iso (Tk.struct Try.underlying29 (by kernel_rfl) (Tks.cons (Tk.int Try.underlying23) rfl (by kernel_rfl) (Tks.cons (Tk.int Try.underlying23) rfl (by kernel_rfl) (Tks.cons (Tk.int Try.underlying3) rfl (by kernel_rfl) (Tks.cons (Tk.int Try.underlying3) rfl (by kernel_rfl) (Tks.cons (Tk.int Try.underlying23) rfl (by kernel_rfl) (Tks.cons (Tk.bool Try.underlying4) rfl (by kernel_rfl) (Tks.cons (Tk.int Try.underlying3) rfl (by kernel_rfl) (Tks.last (Tk.slice (Tk.int Try.underlying3) Try.underlying27 (by kernel_rfl)) rfl (by kernel_rfl)))))))))) (fun x : S29 => (x.f0, x.f1, x.f2, x.f3, x.f4, x.f5, x.f6, x.f7)) (fun p => ⟨p.1, p.2.1, p.2.2.1, p.2.2.2.1, p.2.2.2.2.1, p.2.2.2.2.2.1, p.2.2.2.2.2.2.1, p.2.2.2.2.2.2.2⟩) (fun _ => rfl)) (fun x h => h)
def ok41 (x : S41) : Prop := ((Lit.int .i64 x.f0).wf = true) ∧ (ok29 x.f1) ∧ ((Lit.int .u64 x.f2).wf = true)
theorem tk41 : Tk Try.prog k41 41 ok41 :=
  Tk.imp (Tk.iso (Tk.struct Try.underlying41 (by kernel_rfl) (Tks.cons (Tk.int Try.underlying3) rfl (by kernel_rfl) (Tks.cons tk29 rfl (by kernel_rfl) (Tks.last (Tk.int Try.underlying23) rfl (by kernel_rfl))))) (fun x : S41 => (x.f0, x.f1, x.f2)) (fun p => ⟨p.1, p.2.1, p.2.2⟩) (fun _ => rfl)) (fun x h => h)
end Go.Proofs.Ytaepbgieahedjaa.Hp
namespace Go.Proofs.Ytaepbgieahedjaa.Hp
open Go.RowKit Go.Proofs.YtaepbgieahedjaaW.PrintWords
def wagtaillaw27_IndexDoes.Pure : Prop := ∀ (l0 : List (S41)) (a1 : Int), (l0.length ≤ 9223372036854775807 ∧ ∀ x_ ∈ l0, ok41 x_) → ((Lit.int .u64 a1).wf = true) → ∃ _k : Nat, wagtaillaw27_IndexDoes.f l0 a1 = some true
end Go.Proofs.Ytaepbgieahedjaa.Hp
namespace Go.Proofs.Ytaepbgieahedjaa.Pure
set_option linter.unusedVariables false
open Go.RowKit Go.Proofs.Ytaepbgieahedjaa.Hp Go.Proofs.YtaepbgieahedjaaW.PrintWords Go.Proofs.YtaepbgieahedjaaW.PrintLast
theorem IndexDoes : wagtaillaw27_IndexDoes.Pure := by
  intro l now hl
  intros
  exact ⟨0, if_pos hl.1⟩
end Go.Proofs.Ytaepbgieahedjaa.Pure
namespace Go.Proofs.YtaepbgieahedjaaW.PrintWords
open Go.ChangeShapes Go.WideShapes
end Go.Proofs.YtaepbgieahedjaaW.PrintWords
namespace Go.Proofs.Ytaepbgieahedjaa.indexDoes
open Go.ChangeShapes Go.WideShapes Go.ChangeAt Go.RowKit Go.Proofs.YtaepbgieahedjaaW.PrintWords Go.Proofs.Ytaepbgieahedjaa.Hp
open Go.ChangeMaps (open_string shut_string)
set_option linter.unusedVariables false
set_option linter.unusedSimpArgs false
theorem own : ownKnob Try.prog.godebug = none := by kernel_rfl
theorem laidOut : laidOutB Try.prog = true := by kernel_rfl
set_option maxRecDepth 100000 in
theorem lifted (os : Os) (started : os.Started) (H : Type) (enc : TypeId × Value → H) :
    ReturnsInHanded {} Try.checked os 4 .any (Rows.indexDoesSpec.pre6 enc Try.prog Try.f4 Rows.indexDoesRow.domain false) (Rows.indexDoesSpec.post enc Try.prog Try.f4 false true false false) := by
  refine returnsInHanded_of_change_sized (C := Try.checked) own started (by kernel_rfl) Try.func4
    (ChangeSpec.witness6 (enc := enc) (C := Try.checked) false ⟨#[], #[.slice none 0 0, .int .u64 0], []⟩ 8 (by kernel_rfl) (by kernel_rfl) (by kernel_rfl) (by kernel_rfl)) ?_
  intro W base args ds gs before hval0 hW hcnd hsz0 _
  have hsz : (DataW.weightsEach Try.prog (Try.f4.params.toList ++ Rows.indexDoesSpec.plain.varTypes Try.prog) (ds ++ gs)).all (· ≤ reachBytes) = true := hsz0
  have hval : ∀ (j : Nat) t v, Try.f4.params[j]? = some t → args[j]? = some v → Value.okWide Try.prog W .any base t v := hval0
  have hW' := hW
  obtain ⟨p, q, hA0, hV, rfl, hfz, hnd⟩ := hW
  have hA : DataW.TrodAll enc Try.prog W 0 (fun _ => true) true Try.f4.params.toList args.toList ds p := hA0
  rw [Try.params4] at hA hval hsz
  obtain ⟨v0, vs0, d0, ds0, p0, q0, hargs, rfl, rfl, h0, r0⟩ := trodAll_cons hA
  obtain ⟨v1, vs1, d1, ds1, p1, q1, rfl, rfl, rfl, h1, r1⟩ := trodAll_cons r0
  obtain ⟨rfl, rfl, rfl⟩ := trodAll_nil r1
  obtain rfl : args = #[v0, v1] := by cases args; simp_all
  obtain ⟨rfl, rfl⟩ := trodVars_none hV
  have k0 := h0
  have lt0 : ∀ x ∈ p0, x.block < W.heap.size := by obtain ⟨m, hm⟩ := k0; exact DataW.trod_lt m _ _ _ hm
  obtain ⟨a0, len0, cap0, rfl⟩ := okWide_slice Try.underlying39 (hval 0 39 v0 rfl rfl)
  obtain ⟨l0, ⟨A0, c0, e0, hc0, hr0⟩, g0⟩ := (show ∃ y, (Kd.slice 41 k41).K W y [.slice a0 len0 cap0] ∧ (y.length ≤ 9223372036854775807 ∧ ∀ x_ ∈ y, ok41 x_) from by obtain ⟨fuel, hf⟩ := h0; exact ((Tk.slice tk41 Try.underlying39 (by kernel_rfl))).go hf)
  injection e0 with e0
  injection e0 with ea0 el0 ec0
  subst ea0 el0 ec0
  have k1 := h1
  have lt1 : ∀ x ∈ p1, x.block < W.heap.size := by obtain ⟨m, hm⟩ := k1; exact DataW.trod_lt m _ _ _ hm
  obtain ⟨a1, rfl, _, _, g1⟩ := open_int Try.underlying23 (hval 1 23 v1 rfl rfl) h1
  clear hA0 hval0 hsz0 hsz
  obtain ⟨kk, hk⟩ := Pure.IndexDoes l0 a1 g0 g1
  refine (wagtaillaw27_IndexDoes.calls a0 cap0 l0 a1 true W hr0 hc0 hk).mono fun e W' ⟨he, bel0⟩ => ?_
  have bel : Below W.heap.size W W' := bel0
  subst he
  exact ⟨_, rfl, _, _, _, [], _, [], hW', trodAll_mk1 (shut_bool Try.underlying4 _), (trodAll_cons_mk (Below.trod laidOut (by kernel_rfl) (of_decide_eq_true (by kernel_rfl)) k0 bel lt0) (trodAll_cons_mk (Below.trod laidOut (by kernel_rfl) (of_decide_eq_true (by kernel_rfl)) k1 bel lt1) trodAll_mk0)), rfl, bel.frame _, fun h => by cases h⟩
theorem over : Rows.indexDoesRow.holds Try.pinned (OpenSpec.ofChange Rows.indexDoesSpec) :=
  OpenClaim.holds_of_wide 4 Try.f4 rfl rfl rfl rfl rfl rfl rfl ⟨rfl, rfl, rfl, rfl, rfl⟩ rfl rfl rfl rfl rfl (by kernel_rfl) Try.func4 (by kernel_rfl)
    (of_decide_eq_true (by kernel_rfl)) (by unfold Func.isWrapper; first | (rw [if_pos (by decide +kernel)]; kernel_rfl) | (rw [if_neg (by decide +kernel)]; exact ⟨rfl, rfl⟩))
    (fun os started H enc _ => lifted os started H enc)
theorem proved : Rows.IndexDoesSaid := over
#print axioms proved
end Go.Proofs.Ytaepbgieahedjaa.indexDoes
namespace Go.Proofs.Ytaepbgieahedjaa
theorem indexDoes_holds : Rows.IndexDoesSaid := indexDoes.proved
end Go.Proofs.Ytaepbgieahedjaa
