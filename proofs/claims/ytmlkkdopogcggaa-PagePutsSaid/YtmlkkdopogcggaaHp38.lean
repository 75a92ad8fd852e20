-- Laid by this workplace's own program hprint.py (functions marked by hand are ours; the others are printed out of the translation). Not trusted: Lean checks it.
import Derived.Test.YtmlkkdopogcggaaHp0
import Derived.Test.YtmlkkdopogcggaaHp37
import Derived.Test.YtmlkkdopogcggaaPGW
namespace Go.Proofs.Ytmlkkdopogcggaa.Hp
open Go.RowKit Go.Proofs.YtmlkkdopogcggaaW.PrintWords Go.Proofs.YtmlkkdopogcggaaW.PrintLast Go.Proofs.YtmlkkdopogcggaaW.PrintMore
attribute [local go_sem] max2_int min2_int max_two min_two max_three min_three max_four min_four   -- for this text's walks alone
set_option linter.unusedVariables false
set_option linter.unusedSimpArgs false

/-! ### wagtaillaw15_PagePuts: function 9 -/
-- a function whose text and proof are by hand
-- IMPORT PGW
def wagtaillaw15_PagePuts.f (k i c b o l n : Int) (d : ByteArray) : Option Bool := if 0 ≤ b ∧ 0 ≤ o then some true else none
def wagtaillaw15_PagePuts.T10 : Bool × List (List Nat × List Nat) := (true, [([], []), ([0, 0], [0]), ([1], [1]), ([2, 1], [1, 2]), ([1, 3], [1, 3]), ([4, 1], [4]), ([5], [5]), ([6, 5], [5, 6]), ([5], [5]), ([5], [5]), ([8, 9, 5, 5], [5, 8, 9]), ([7, 10, 5], [5, 7, 10]), ([5, 11], [5, 11]), ([12, 10], [12]), ([13], [13]), ([13], [13]), ([14, 15, 13], [13, 14, 15]), ([13, 16], [13, 16]), ([17, 13], [17]), ([18], [18]), ([18], [18]), ([19, 20, 18], [18, 19, 20]), ([18, 21], [18, 21]), ([22, 18], [22]), ([23], [23]), ([24, 23], [23, 24]), ([23, 25], [23, 25]), ([26, 23], [26]), ([27], [27]), ([28, 27, 27], [27, 28]), ([29, 27], [27, 29]), ([27, 30], [27, 30]), ([31, 29, 0, 1, 2, 3, 4, 5, 6, 7, 8, 9, 10, 11, 12, 13, 14, 15, 16, 17, 18, 19, 20, 21, 22, 23, 24, 25, 26, 27, 28, 29, 30, 31], [31])])
def wagtaillaw15_PagePuts.B10 : List Nat := [0, 1, 3, 7, 15, 31, 63, 127, 63, 63, 831, 2047, 4095, 8191, 16383, 16383, 65535, 131071, 262143, 524287, 524287, 2097151, 4194303, 8388607, 16777215, 33554431, 67108863, 134217727, 268435455, 536870911, 1073741823, 2147483647, 4294967295]
theorem wagtaillaw15_PagePuts.tab10 : rtab .any (opsOf Try.f9 10) = wagtaillaw15_PagePuts.T10 := by kernel_rfl
theorem wagtaillaw15_PagePuts.bits10 : waitsOk wagtaillaw15_PagePuts.T10.2 wagtaillaw15_PagePuts.B10 = true := by kernel_rfl
set_option maxHeartbeats 8000000 in
set_option maxRecDepth 100000 in
theorem wagtaillaw15_PagePuts.calls (a0_0 : Int) (a0_1 : Int) (a0_2 : Int) (a0_3 : Int) (a0_4 : Int) (a0_5 : Int) (a0_6 : Int) (a1 : ByteArray) (r : Bool) (w : World) (h : wagtaillaw15_PagePuts.f a0_0 a0_1 a0_2 a0_3 a0_4 a0_5 a0_6 a1 = some r) :
    Calls Try.prog 9 #[.agg #[.int .i64 a0_0, .int .i64 a0_1, .int .i64 a0_2, .int .u64 a0_3, .int .u64 a0_4, .int .i64 a0_5, .int .i64 a0_6], .string a1] w fun e w' => e = .returned (.bool r) ∧ Below w.heap.size w w' := by
  unfold wagtaillaw15_PagePuts.f at h
  by_cases hc : 0 ≤ a0_3 ∧ 0 ≤ a0_4
  case neg => rw [if_neg hc] at h; cases h
  rw [if_pos hc] at h
  obtain rfl := Option.some.inj h
  obtain ⟨hb0, ho0⟩ := hc
  clear h
  by_cases hl : 400 < (a1.size : Int)
  · have t1 : decide (400 < (a1.size : Int)) = true := decide_eq_true hl
    have t2 : decide (400 < a1.size) = true := decide_eq_true (by omega)
    clear hl
    go_enter Try.func9, Try.ntmps9
    go_wp2_with ((go_at_call 36); (with_reducible refine (PG.awake_calls _).mono ?_); rintro e w2 ⟨rfl, hb⟩; have HB := Aside0.mk (below_then (below_alloc (Below.refl w.heap.size w) _) (below_alloc (Below.refl w.heap.size w) _).size hb); clear hb)
    go_ret
    exact ⟨rfl, HB.out⟩
  have t1 : decide (400 < (a1.size : Int)) = false := decide_eq_false hl
  have t2 : decide (400 < a1.size) = false := decide_eq_false (by omega)
  clear hl
  go_enter Try.func9, Try.ntmps9
  go_upto_region 3 with fail
  have BB := Aside0.mk (below_alloc (Below.refl w.heap.size w) (Obj.cells #[Value.int IntKind.i64 a0_0, Value.int IntKind.i64 a0_1, Value.int IntKind.i64 a0_2, Value.int IntKind.u64 a0_3, Value.int IntKind.u64 a0_4, Value.int IntKind.i64 a0_5, Value.int IntKind.i64 a0_6] 50))
  have hz := Aside0.mk (heap_alloc_new w (Obj.cells #[Value.int IntKind.i64 a0_0, Value.int IntKind.i64 a0_1, Value.int IntKind.i64 a0_2, Value.int IntKind.u64 a0_3, Value.int IntKind.u64 a0_4, Value.int IntKind.i64 a0_5, Value.int IntKind.i64 a0_6] 50))
  generalize (w.alloc (Obj.cells #[Value.int IntKind.i64 a0_0, Value.int IntKind.i64 a0_1, Value.int IntKind.i64 a0_2, Value.int IntKind.u64 a0_3, Value.int IntKind.u64 a0_4, Value.int IntKind.i64 a0_5, Value.int IntKind.i64 a0_6] 50)) = W1 at BB hz ⊢
  have c0 := blk_cell hz.out 0
  have c1 := blk_cell hz.out 1
  have c2 := blk_cell hz.out 2
  have c3 := blk_cell hz.out 3
  have c4 := blk_cell hz.out 4
  have c5 := blk_cell hz.out 5
  have c6 := blk_cell hz.out 6
  clear t1 t2
  by_cases hm : headMay a0_0 a0_1 a0_2 a0_3 a0_4 a0_5 a0_6 = true
  case neg =>
    have hmf : headMay a0_0 a0_1 a0_2 a0_3 a0_4 a0_5 a0_6 = false := by simpa using hm
    have HP := Aside0.mk (PG.pput_bad_calls a0_0 a0_1 a0_2 a0_3 a0_4 a0_5 a0_6 a1 (.inl hmf))
    have HM := Aside0.mk (PG.may_calls a0_0 a0_1 a0_2 a0_3 a0_4 a0_5 a0_6 false hmf)
    have HC := Aside0.mk (PG.check_calls a0_0 a0_1 a0_2 a0_3 a0_4 a0_5 a0_6 3 (by rw [hmf]; rfl))
    clear hm hmf hb0 ho0
    go_wp2_with (first
      | ((go_at_call 37); (with_reducible refine (HP.out _).mono ?_); rintro e w2 ⟨Ab, cb, rfl, hb⟩; clear c0 c1 c2 c3 c4 c5 c6; replace hz := Aside0.mk (blk_below hz.out hb); replace BB := Aside0.mk (below_then BB.out BB.out.size hb); have c0 := blk_cell hz.out 0; have c1 := blk_cell hz.out 1; have c2 := blk_cell hz.out 2; have c3 := blk_cell hz.out 3; have c4 := blk_cell hz.out 4; have c5 := blk_cell hz.out 5; have c6 := blk_cell hz.out 6; clear hb)
      | ((go_at_call 38); (with_reducible refine (HM.out _).mono ?_); rintro e w2 ⟨rfl, hb⟩; clear c0 c1 c2 c3 c4 c5 c6; replace hz := Aside0.mk (blk_below hz.out hb); replace BB := Aside0.mk (below_then BB.out BB.out.size hb); have c0 := blk_cell hz.out 0; have c1 := blk_cell hz.out 1; have c2 := blk_cell hz.out 2; have c3 := blk_cell hz.out 3; have c4 := blk_cell hz.out 4; have c5 := blk_cell hz.out 5; have c6 := blk_cell hz.out 6; clear hb)
      | ((go_at_call 39); (with_reducible refine (HC.out _).mono ?_); rintro e w2 ⟨rfl, hb⟩; clear c0 c1 c2 c3 c4 c5 c6; replace hz := Aside0.mk (blk_below hz.out hb); replace BB := Aside0.mk (below_then BB.out BB.out.size hb); have c0 := blk_cell hz.out 0; have c1 := blk_cell hz.out 1; have c2 := blk_cell hz.out 2; have c3 := blk_cell hz.out 3; have c4 := blk_cell hz.out 4; have c5 := blk_cell hz.out 5; have c6 := blk_cell hz.out 6; clear hb)
      | ((go_at_call 36); (with_reducible refine (PG.awake_calls _).mono ?_); rintro e w2 ⟨rfl, hb⟩; clear c0 c1 c2 c3 c4 c5 c6; replace hz := Aside0.mk (blk_below hz.out hb); replace BB := Aside0.mk (below_then BB.out BB.out.size hb); have c0 := blk_cell hz.out 0; have c1 := blk_cell hz.out 1; have c2 := blk_cell hz.out 2; have c3 := blk_cell hz.out 3; have c4 := blk_cell hz.out 4; have c5 := blk_cell hz.out 5; have c6 := blk_cell hz.out 6; clear hb))
    go_ret
    exact ⟨rfl, BB.out⟩
  case pos =>
    by_cases hd : (a1.size : Int) = a0_6
    case neg =>
      have HP := Aside0.mk (PG.pput_bad_calls a0_0 a0_1 a0_2 a0_3 a0_4 a0_5 a0_6 a1 (.inr hd))
      have HM := Aside0.mk (PG.may_calls a0_0 a0_1 a0_2 a0_3 a0_4 a0_5 a0_6 true hm)
      have HC := Aside0.mk (PG.check_calls a0_0 a0_1 a0_2 a0_3 a0_4 a0_5 a0_6 0 (by rw [hm]; rfl))
      have d1 : ((a1.size : Int) != a0_6) = true := by simpa using hd
      have d2 : ((a1.size : Int) == a0_6) = false := by simpa using hd
      clear hm hd hb0 ho0
      go_wp2_with (first
        | ((go_at_call 37); (with_reducible refine (HP.out _).mono ?_); rintro e w2 ⟨Ab, cb, rfl, hb⟩; clear c0 c1 c2 c3 c4 c5 c6; replace hz := Aside0.mk (blk_below hz.out hb); replace BB := Aside0.mk (below_then BB.out BB.out.size hb); have c0 := blk_cell hz.out 0; have c1 := blk_cell hz.out 1; have c2 := blk_cell hz.out 2; have c3 := blk_cell hz.out 3; have c4 := blk_cell hz.out 4; have c5 := blk_cell hz.out 5; have c6 := blk_cell hz.out 6; clear hb)
        | ((go_at_call 38); (with_reducible refine (HM.out _).mono ?_); rintro e w2 ⟨rfl, hb⟩; clear c0 c1 c2 c3 c4 c5 c6; replace hz := Aside0.mk (blk_below hz.out hb); replace BB := Aside0.mk (below_then BB.out BB.out.size hb); have c0 := blk_cell hz.out 0; have c1 := blk_cell hz.out 1; have c2 := blk_cell hz.out 2; have c3 := blk_cell hz.out 3; have c4 := blk_cell hz.out 4; have c5 := blk_cell hz.out 5; have c6 := blk_cell hz.out 6; clear hb)
        | ((go_at_call 39); (with_reducible refine (HC.out _).mono ?_); rintro e w2 ⟨rfl, hb⟩; clear c0 c1 c2 c3 c4 c5 c6; replace hz := Aside0.mk (blk_below hz.out hb); replace BB := Aside0.mk (below_then BB.out BB.out.size hb); have c0 := blk_cell hz.out 0; have c1 := blk_cell hz.out 1; have c2 := blk_cell hz.out 2; have c3 := blk_cell hz.out 3; have c4 := blk_cell hz.out 4; have c5 := blk_cell hz.out 5; have c6 := blk_cell hz.out 6; clear hb)
        | ((go_at_call 36); (with_reducible refine (PG.awake_calls _).mono ?_); rintro e w2 ⟨rfl, hb⟩; clear c0 c1 c2 c3 c4 c5 c6; replace hz := Aside0.mk (blk_below hz.out hb); replace BB := Aside0.mk (below_then BB.out BB.out.size hb); have c0 := blk_cell hz.out 0; have c1 := blk_cell hz.out 1; have c2 := blk_cell hz.out 2; have c3 := blk_cell hz.out 3; have c4 := blk_cell hz.out 4; have c5 := blk_cell hz.out 5; have c6 := blk_cell hz.out 6; clear hb))
      go_ret
      exact ⟨rfl, BB.out⟩
    case pos =>
      have hrg := wagtailref15_Put.headMay_range hm
      have hdl : ((bytesOf a1).length : Int) = a0_6 := by rw [bytesOf_length]; exact hd
      have hby := PG.page_bytes a0_0 a0_1 a0_2 a0_3 a0_4 a0_5 a0_6 (bytesOf a1) (wagtailref15_Put.bytes_isBytes a1)
      have hlen := PG.page_len a0_0 a0_1 a0_2 a0_3 a0_4 a0_5 a0_6 (bytesOf a1) (by omega)
      have hgo := PG.page_get a0_0 a0_1 a0_2 a0_3 a0_4 a0_5 a0_6 (bytesOf a1) hm hb0 ho0 hdl
      rw [wagtailref15_Put.str_bytes] at hgo
      have hcl := PG.page_cls a0_0 a0_1 a0_2 a0_3 a0_4 a0_5 a0_6 (bytesOf a1) hm hb0 ho0 hdl
      have HP := PG.pput_calls a0_0 a0_1 a0_2 a0_3 a0_4 a0_5 a0_6 a1 hm hb0 ho0 hd
      obtain ⟨xp, hxp⟩ : ∃ x, x = strOfNums (PG.pageL a0_0 a0_1 a0_2 a0_3 a0_4 a0_5 a0_6 (bytesOf a1)) := ⟨_, rfl⟩
      have HPUT := Aside0.mk (PG.rput_calls a0_0 a0_1 a0_2 a0_3 a0_4 a0_5 a0_6 a1 hm hb0 ho0 hd xp hxp)
      generalize PG.pageL a0_0 a0_1 a0_2 a0_3 a0_4 a0_5 a0_6 (bytesOf a1) = L at hby hlen hgo hcl HP hxp
      replace HP := Aside0.mk HP
      have HGET := Aside0.mk (show ∀ (A : Option Addr) (cp : Nat), 256 ≤ cp → ∀ W : World, Kd.C (Kd.int .u8) W A 256 L → Calls Try.prog 40 #[.slice A 256 cp] W fun e w' => e = .returned (.tuple #[.agg #[.int .i64 a0_0, .int .i64 a0_1, .int .i64 a0_2, .int .u64 a0_3, .int .u64 a0_4, .int .i64 a0_5, .int .i64 a0_6], .string a1, .int .i64 0]) ∧ Below W.heap.size W w' from
        fun A cp hcp W hC => by
          have h := PG.get_calls L hby (by omega) A cp (by omega) _ _ _ _ _ _ _ _ _ hgo W
          rw [hlen] at h
          exact h hC)
      have HCL := Aside0.mk (show ∀ (A : Option Addr) (cp : Nat), 256 ≤ cp → ∀ W : World, Kd.C (Kd.int .u8) W A 256 L → Calls Try.prog 42 #[.slice A 256 cp] W fun e w' => e = .returned (.int .i64 1) ∧ Below W.heap.size W w' from
        fun A cp hcp W hC => by
          have h := PG.class_calls L hby (by omega) A cp (by omega) 1 hcl W
          rw [hlen] at h
          exact h hC)
      have HM := Aside0.mk (PG.may_calls a0_0 a0_1 a0_2 a0_3 a0_4 a0_5 a0_6 true hm)
      have HC := Aside0.mk (PG.check_calls a0_0 a0_1 a0_2 a0_3 a0_4 a0_5 a0_6 0 (by rw [hm]; rfl))
      have d1 : ((a1.size : Int) != a0_6) = false := by simpa using hd
      have d2 : ((a1.size : Int) == a0_6) = true := by simpa using hd
      have HXP := Aside0.mk hxp
      clear hm hd hb0 ho0 hrg hdl hby hlen hgo hcl hxp
      go_upto_region 9 with (first
        | ((go_at_call 37); (with_reducible refine (HP.out _).mono ?_); rintro e w2 ⟨Ab, cb, rfl, hcb, hCb, hb⟩; have HCB := Aside0.mk hcb; have HCC := Aside0.mk hCb; clear hcb hCb; clear c0 c1 c2 c3 c4 c5 c6; replace hz := Aside0.mk (blk_below hz.out hb); replace BB := Aside0.mk (below_then BB.out BB.out.size hb); have c0 := blk_cell hz.out 0; have c1 := blk_cell hz.out 1; have c2 := blk_cell hz.out 2; have c3 := blk_cell hz.out 3; have c4 := blk_cell hz.out 4; have c5 := blk_cell hz.out 5; have c6 := blk_cell hz.out 6; clear hb)
        | ((go_at_call 38); (with_reducible refine (HM.out _).mono ?_); rintro e w2 ⟨rfl, hb⟩; replace HCC := Aside0.mk (Kd.C_below HCC.out hb); clear c0 c1 c2 c3 c4 c5 c6; replace hz := Aside0.mk (blk_below hz.out hb); replace BB := Aside0.mk (below_then BB.out BB.out.size hb); have c0 := blk_cell hz.out 0; have c1 := blk_cell hz.out 1; have c2 := blk_cell hz.out 2; have c3 := blk_cell hz.out 3; have c4 := blk_cell hz.out 4; have c5 := blk_cell hz.out 5; have c6 := blk_cell hz.out 6; clear hb)
        | ((go_at_call 39); (with_reducible refine (HC.out _).mono ?_); rintro e w2 ⟨rfl, hb⟩; replace HCC := Aside0.mk (Kd.C_below HCC.out hb); clear c0 c1 c2 c3 c4 c5 c6; replace hz := Aside0.mk (blk_below hz.out hb); replace BB := Aside0.mk (below_then BB.out BB.out.size hb); have c0 := blk_cell hz.out 0; have c1 := blk_cell hz.out 1; have c2 := blk_cell hz.out 2; have c3 := blk_cell hz.out 3; have c4 := blk_cell hz.out 4; have c5 := blk_cell hz.out 5; have c6 := blk_cell hz.out 6; clear hb))
      clear HP HM HC c0 c1 c2 c3 c4 c5 c6
      go_upto_region 10 with ((go_at_call 40); (with_reducible refine (HGET.out _ _ HCB.out _ HCC.out).mono ?_); rintro e w3 ⟨rfl, hb⟩; replace HCC := Aside0.mk (Kd.C_below HCC.out hb); replace hz := Aside0.mk (blk_below hz.out hb); replace BB := Aside0.mk (below_then BB.out BB.out.size hb); clear hb)
      have hst := And.intro (below_alloc (Below.refl w3.heap.size w3) (Obj.cells #[Value.int IntKind.i64 a0_0, Value.int IntKind.i64 a0_1, Value.int IntKind.i64 a0_2, Value.int IntKind.u64 a0_3, Value.int IntKind.u64 a0_4, Value.int IntKind.i64 a0_5, Value.int IntKind.i64 a0_6] 50)) (And.intro (heap_alloc_new w3 (Obj.cells #[Value.int IntKind.i64 a0_0, Value.int IntKind.i64 a0_1, Value.int IntKind.i64 a0_2, Value.int IntKind.u64 a0_3, Value.int IntKind.u64 a0_4, Value.int IntKind.i64 a0_5, Value.int IntKind.i64 a0_6] 50)) trivial)
      generalize w3.alloc (Obj.cells #[Value.int IntKind.i64 a0_0, Value.int IntKind.i64 a0_1, Value.int IntKind.i64 a0_2, Value.int IntKind.u64 a0_3, Value.int IntKind.u64 a0_4, Value.int IntKind.i64 a0_5, Value.int IntKind.i64 a0_6] 50) = W0 at hst ⊢
      have HBX := Aside0.mk (blk_below hz.out hst.1)
      have HBG := Aside0.mk hst.2.1
      have HSTR := Aside0.mk (PG.str_of_C (cp := cb) (Kd.C_below HCC.out hst.1) xp HXP.out)
      have HB1 := Aside0.mk (below_then BB.out BB.out.size hst.1)
      have HCLS := Aside0.mk (fun (W : World) (hW : Below W0.heap.size W0 W) => HCL.out Ab cb HCB.out W (Kd.C_below (Kd.C_below HCC.out hst.1) hW))
      generalize w3.heap.size = gb at HBG ⊢
      clear hst hz HCC BB HGET HCL HXP
      have B0 := Aside0.mk (below_drew1 (Below.refl W0.heap.size W0))
      refine start_ (n := 33) (S := fun w' => True) (ds := []) #[false, false, false, false, false, false, false, false, false, false, false, false, false, false, false, false, false, false, false, false, false, false, false, false, false, false, false, false, false, false, false, false, false] (by kernel_rfl) rfl rfl trivial (fun hHeld => ?_)
      refine with_tabW wagtaillaw15_PagePuts.tab10 wagtaillaw15_PagePuts.bits10 (fun HT_ HW_ => ?_)
      generalize W0.drew = wq at B0 hHeld ⊢
      refine inv_at [0, 1, 2, 3, 4, 5, 6, 7, 8, 9, 10, 11, 12, 13, 14, 15, 16, 17, 18, 19, 20, 21, 22, 23, 24, 25, 26, 27, 28, 29, 30, 31, 32] (fun a0_ b a w' => a = putSel a0_ b [(0, 53, .bool true), (1, 54, .bool true), (2, 55, .int .i64 0), (3, 56, .bool true), (4, 57, .bool true), (5, 58, .bool true), (6, 59, .slice Ab 256 cb), (7, 60, .string xp), (8, 61, .agg #[.int .i64 a0_0, .int .i64 a0_1, .int .i64 a0_2, .int .u64 a0_3, .int .u64 a0_4, .int .i64 a0_5, .int .i64 a0_6]), (9, 62, .string a1), (10, 63, .string xp), (11, 64, .bool true), (12, 65, .bool true), (13, 66, .bool true), (14, 67, .agg #[.int .i64 a0_0, .int .i64 a0_1, .int .i64 a0_2, .int .u64 a0_3, .int .u64 a0_4, .int .i64 a0_5, .int .i64 a0_6]), (15, 68, .agg #[.int .i64 a0_0, .int .i64 a0_1, .int .i64 a0_2, .int .u64 a0_3, .int .u64 a0_4, .int .i64 a0_5, .int .i64 a0_6]), (16, 69, .bool true), (17, 70, .bool true), (18, 71, .bool true), (19, 72, .string a1), (20, 73, .string a1), (21, 74, .bool true), (22, 75, .bool true), (23, 76, .bool true), (24, 77, .int .i64 0), (25, 78, .bool true), (26, 79, .bool true), (27, 80, .bool true), (28, 81, .slice Ab 256 cb), (29, 82, .int .i64 1), (30, 83, .bool true), (31, 84, .bool true), (32, 4, .bool true)] ∧ (Below W0.heap.size W0 w')) HT_.out HW_.out (by kernel_rfl) (by kernel_rfl) ?_ ?_ ?_
      · exact ⟨by simp only [putSel, Bool.false_eq_true, if_false], B0.out⟩
      · skip
        clear B0
        refine steps_cons ?_ ?_
        · rintro b a w' ⟨ha, Q_B0⟩ hb_ hon hoff
          refine ⟨_, rfl, fun K hK => ?_⟩
          replace ha := Aside0.mk ha
          have B0 := Aside0.mk Q_B0
          refine goes_ Try.func36 (by kernel_rfl) rfl #[] (by rfl) rfl rfl (by first | (simp only [List.map_toArray, List.map_cons, List.map_nil, Act.eval, Array.getD_eq_getD_getElem?, Option.getD_some]; done) | (simp only [List.map_toArray, List.map_cons, List.map_nil, Act.eval, Array.getD_eq_getD_getElem?, Option.getD_some]; rfl)) ?_
          with_reducible refine (PG.awake_calls _).mono ?_
          rintro e w2 ⟨rfl, hb⟩
          refine ⟨_, rfl, ?_⟩
          refine hK.out _ _ ⟨(by rw [ha.out]; exact putSel_upk 0 hb_ rfl rfl rfl), below_then B0.out B0.out.size hb⟩
        refine steps_cons ?_ ?_
        · rintro b a w' ⟨ha, Q_B0⟩ hb_ hon hoff
          refine ⟨_, rfl, fun K hK => ?_⟩
          have e53 : a.tmps[53]? = some (.bool true) := by rw [ha]; exact putSel_on (e := (0, 53, .bool true)) 0 rfl rfl (hon 0 (by kernel_rfl)) rfl
          replace ha := Aside0.mk ha
          have B0 := Aside0.mk Q_B0
          refine value_ (w1 := w') (v := .bool true) (by rfl) rfl ?_ ?_
          · go_simp
            (try simp only [i64_w])
            try rfl
          refine hK.out _ _ ⟨(by rw [ha.out]; exact putSel_upk 1 hb_ rfl rfl rfl), Q_B0⟩
        refine steps_cons ?_ ?_
        · rintro b a w' ⟨ha, Q_B0⟩ hb_ hon hoff
          refine ⟨_, rfl, fun K hK => ?_⟩
          have e6 : a.tmps[6]? = some (.int .i64 0) := by rw [ha]; exact (putSel_off rfl).trans rfl
          have e54 : a.tmps[54]? = some (.bool true) := by rw [ha]; exact putSel_on (e := (1, 54, .bool true)) 1 rfl rfl (hon 1 (by kernel_rfl)) rfl
          replace ha := Aside0.mk ha
          have B0 := Aside0.mk Q_B0
          refine value_ (w1 := w') (v := .int .i64 0) (wanted_on rfl rfl rfl (e54.trans (by first | rfl | (simp [*]; done)))) rfl ?_ ?_
          · go_simp
            (try simp only [i64_w])
            try rfl
          refine hK.out _ _ ⟨(by rw [ha.out]; exact putSel_upk 2 hb_ rfl rfl rfl), Q_B0⟩
        refine steps_cons ?_ ?_
        · rintro b a w' ⟨ha, Q_B0⟩ hb_ hon hoff
          refine ⟨_, rfl, fun K hK => ?_⟩
          have e55 : a.tmps[55]? = some (.int .i64 0) := by rw [ha]; exact putSel_on (e := (2, 55, .int .i64 0)) 2 rfl rfl (hon 2 (by kernel_rfl)) rfl
          have e54 : a.tmps[54]? = some (.bool true) := by rw [ha]; exact putSel_on (e := (1, 54, .bool true)) 1 rfl rfl (hon 1 (by kernel_rfl)) rfl
          replace ha := Aside0.mk ha
          have B0 := Aside0.mk Q_B0
          refine value_ (w1 := w') (v := .bool true) (wanted_on rfl rfl rfl (e54.trans (by first | rfl | (simp [*]; done)))) rfl ?_ ?_
          · go_simp
            (try simp only [i64_w])
            try rfl
          refine hK.out _ _ ⟨(by rw [ha.out]; exact putSel_upk 3 hb_ rfl rfl rfl), Q_B0⟩
        refine steps_cons ?_ ?_
        · rintro b a w' ⟨ha, Q_B0⟩ hb_ hon hoff
          refine ⟨_, rfl, fun K hK => ?_⟩
          have e54 : a.tmps[54]? = some (.bool true) := by rw [ha]; exact putSel_on (e := (1, 54, .bool true)) 1 rfl rfl (hon 1 (by kernel_rfl)) rfl
          have e56 : a.tmps[56]? = some (.bool true) := by rw [ha]; exact putSel_on (e := (3, 56, .bool true)) 3 rfl rfl (hon 3 (by kernel_rfl)) rfl
          replace ha := Aside0.mk ha
          have B0 := Aside0.mk Q_B0
          refine value_ (w1 := w') (v := .bool true) (by rfl) rfl ?_ ?_
          · go_simp
            (try simp only [i64_w])
            try rfl
          refine hK.out _ _ ⟨(by rw [ha.out]; exact putSel_upk 4 hb_ rfl rfl rfl), Q_B0⟩
        refine steps_cons ?_ ?_
        · rintro b a w' ⟨ha, Q_B0⟩ hb_ hon hoff
          refine ⟨_, rfl, fun K hK => ?_⟩
          have e57 : a.tmps[57]? = some (.bool true) := by rw [ha]; exact putSel_on (e := (4, 57, .bool true)) 4 rfl rfl (hon 4 (by kernel_rfl)) rfl
          replace ha := Aside0.mk ha
          have B0 := Aside0.mk Q_B0
          refine value_ (w1 := w') (v := .bool true) (by rfl) rfl ?_ ?_
          · go_simp
            (try simp only [i64_w])
            try rfl
          refine hK.out _ _ ⟨(by rw [ha.out]; exact putSel_upk 5 hb_ rfl rfl rfl), Q_B0⟩
        refine steps_cons ?_ ?_
        · rintro b a w' ⟨ha, Q_B0⟩ hb_ hon hoff
          refine ⟨_, rfl, fun K hK => ?_⟩
          have e5 : a.tmps[5]? = some (.slice Ab 256 cb) := by rw [ha]; exact (putSel_off rfl).trans rfl
          have e58 : a.tmps[58]? = some (.bool true) := by rw [ha]; exact putSel_on (e := (5, 58, .bool true)) 5 rfl rfl (hon 5 (by kernel_rfl)) rfl
          replace ha := Aside0.mk ha
          have B0 := Aside0.mk Q_B0
          refine value_ (w1 := w') (v := .slice Ab 256 cb) (wanted_on rfl rfl rfl (e58.trans (by first | rfl | (simp [*]; done)))) rfl ?_ ?_
          · go_simp
            (try simp only [i64_w])
            try rfl
          refine hK.out _ _ ⟨(by rw [ha.out]; exact putSel_upk 6 hb_ rfl rfl rfl), Q_B0⟩
        refine steps_cons ?_ ?_
        · rintro b a w' ⟨ha, Q_B0⟩ hb_ hon hoff
          refine ⟨_, rfl, fun K hK => ?_⟩
          have e59 : a.tmps[59]? = some (.slice Ab 256 cb) := by rw [ha]; exact putSel_on (e := (6, 59, .slice Ab 256 cb)) 6 rfl rfl (hon 6 (by kernel_rfl)) rfl
          have e58 : a.tmps[58]? = some (.bool true) := by rw [ha]; exact putSel_on (e := (5, 58, .bool true)) 5 rfl rfl (hon 5 (by kernel_rfl)) rfl
          replace ha := Aside0.mk ha
          have B0 := Aside0.mk Q_B0
          have hs_ := (HSTR.out.step B0.out).here
          refine value_ (w1 := w') (v := .string xp) (wanted_on rfl rfl rfl (e58.trans (by first | rfl | (simp [*]; done)))) rfl ?_ ?_
          · go_simp
            (try simp only [i64_w])
            try rfl
          refine hK.out _ _ ⟨(by rw [ha.out]; exact putSel_upk 7 hb_ rfl rfl rfl), Q_B0⟩
        refine steps_cons ?_ ?_
        · rintro b a w' ⟨ha, Q_B0⟩ hb_ hon hoff
          refine ⟨_, rfl, fun K hK => ?_⟩
          have e2 : a.tmps[2]? = some (.pointer (some ⟨w.heap.size, 0, none⟩)) := by rw [ha]; exact (putSel_off rfl).trans rfl
          have e58 : a.tmps[58]? = some (.bool true) := by rw [ha]; exact putSel_on (e := (5, 58, .bool true)) 5 rfl rfl (hon 5 (by kernel_rfl)) rfl
          replace ha := Aside0.mk ha
          have B0 := Aside0.mk Q_B0
          have hb_ := blk_below HBX.out B0.out
          have c0_ := blk_cell hb_ 0
          have c1_ := blk_cell hb_ 1
          have c2_ := blk_cell hb_ 2
          have c3_ := blk_cell hb_ 3
          have c4_ := blk_cell hb_ 4
          have c5_ := blk_cell hb_ 5
          have c6_ := blk_cell hb_ 6
          clear hb_
          refine value_ (w1 := w') (v := .agg #[.int .i64 a0_0, .int .i64 a0_1, .int .i64 a0_2, .int .u64 a0_3, .int .u64 a0_4, .int .i64 a0_5, .int .i64 a0_6]) (wanted_on rfl rfl rfl (e58.trans (by first | rfl | (simp [*]; done)))) rfl ?_ ?_
          · go_simp
            (try simp only [i64_w])
            try rfl
          refine hK.out _ _ ⟨(by rw [ha.out]; exact putSel_upk 8 hb_ rfl rfl rfl), Q_B0⟩
        refine steps_cons ?_ ?_
        · rintro b a w' ⟨ha, Q_B0⟩ hb_ hon hoff
          refine ⟨_, rfl, fun K hK => ?_⟩
          have e1 : a.tmps[1]? = some (.string a1) := by rw [ha]; exact (putSel_off rfl).trans rfl
          have e58 : a.tmps[58]? = some (.bool true) := by rw [ha]; exact putSel_on (e := (5, 58, .bool true)) 5 rfl rfl (hon 5 (by kernel_rfl)) rfl
          replace ha := Aside0.mk ha
          have B0 := Aside0.mk Q_B0
          refine value_ (w1 := w') (v := .string a1) (wanted_on rfl rfl rfl (e58.trans (by first | rfl | (simp [*]; done)))) rfl ?_ ?_
          · go_simp
            (try simp only [i64_w])
            try rfl
          refine hK.out _ _ ⟨(by rw [ha.out]; exact putSel_upk 9 hb_ rfl rfl rfl), Q_B0⟩
        refine steps_cons ?_ ?_
        · rintro b a w' ⟨ha, Q_B0⟩ hb_ hon hoff
          refine ⟨_, rfl, fun K hK => ?_⟩
          have e61 : a.tmps[61]? = some (.agg #[.int .i64 a0_0, .int .i64 a0_1, .int .i64 a0_2, .int .u64 a0_3, .int .u64 a0_4, .int .i64 a0_5, .int .i64 a0_6]) := by rw [ha]; exact putSel_on (e := (8, 61, .agg #[.int .i64 a0_0, .int .i64 a0_1, .int .i64 a0_2, .int .u64 a0_3, .int .u64 a0_4, .int .i64 a0_5, .int .i64 a0_6])) 8 rfl rfl (hon 8 (by kernel_rfl)) rfl
          have e62 : a.tmps[62]? = some (.string a1) := by rw [ha]; exact putSel_on (e := (9, 62, .string a1)) 9 rfl rfl (hon 9 (by kernel_rfl)) rfl
          have e58 : a.tmps[58]? = some (.bool true) := by rw [ha]; exact putSel_on (e := (5, 58, .bool true)) 5 rfl rfl (hon 5 (by kernel_rfl)) rfl
          replace ha := Aside0.mk ha
          have B0 := Aside0.mk Q_B0
          refine goes_ Try.func41 (by kernel_rfl) rfl #[.agg #[.int .i64 a0_0, .int .i64 a0_1, .int .i64 a0_2, .int .u64 a0_3, .int .u64 a0_4, .int .i64 a0_5, .int .i64 a0_6], .string a1] (wanted_on rfl rfl rfl (e58.trans rfl)) rfl rfl (by first | (simp only [List.map_toArray, List.map_cons, List.map_nil, Act.eval, Array.getD_eq_getD_getElem?, Option.getD_some, e61, e62, e58]; done) | (simp only [List.map_toArray, List.map_cons, List.map_nil, Act.eval, Array.getD_eq_getD_getElem?, Option.getD_some, e61, e62, e58]; rfl)) ?_
          with_reducible refine (HPUT.out _).mono ?_
          rintro e w2 ⟨rfl, hb⟩
          refine ⟨_, rfl, ?_⟩
          refine hK.out _ _ ⟨(by rw [ha.out]; exact putSel_upk 10 hb_ rfl rfl rfl), below_then B0.out B0.out.size hb⟩
        refine steps_cons ?_ ?_
        · rintro b a w' ⟨ha, Q_B0⟩ hb_ hon hoff
          refine ⟨_, rfl, fun K hK => ?_⟩
          have e60 : a.tmps[60]? = some (.string xp) := by rw [ha]; exact putSel_on (e := (7, 60, .string xp)) 7 rfl rfl (hon 7 (by kernel_rfl)) rfl
          have e63 : a.tmps[63]? = some (.string xp) := by rw [ha]; exact putSel_on (e := (10, 63, .string xp)) 10 rfl rfl (hon 10 (by kernel_rfl)) rfl
          have e58 : a.tmps[58]? = some (.bool true) := by rw [ha]; exact putSel_on (e := (5, 58, .bool true)) 5 rfl rfl (hon 5 (by kernel_rfl)) rfl
          replace ha := Aside0.mk ha
          have B0 := Aside0.mk Q_B0
          refine value_ (w1 := w') (v := .bool true) (wanted_on rfl rfl rfl (e58.trans (by first | rfl | (simp [*]; done)))) rfl ?_ ?_
          · go_simp
            (try simp only [i64_w])
            try rfl
          refine hK.out _ _ ⟨(by rw [ha.out]; exact putSel_upk 11 hb_ rfl rfl rfl), Q_B0⟩
        refine steps_cons ?_ ?_
        · rintro b a w' ⟨ha, Q_B0⟩ hb_ hon hoff
          refine ⟨_, rfl, fun K hK => ?_⟩
          have e58 : a.tmps[58]? = some (.bool true) := by rw [ha]; exact putSel_on (e := (5, 58, .bool true)) 5 rfl rfl (hon 5 (by kernel_rfl)) rfl
          have e64 : a.tmps[64]? = some (.bool true) := by rw [ha]; exact putSel_on (e := (11, 64, .bool true)) 11 rfl rfl (hon 11 (by kernel_rfl)) rfl
          replace ha := Aside0.mk ha
          have B0 := Aside0.mk Q_B0
          refine value_ (w1 := w') (v := .bool true) (by rfl) rfl ?_ ?_
          · go_simp
            (try simp only [i64_w])
            try rfl
          refine hK.out _ _ ⟨(by rw [ha.out]; exact putSel_upk 12 hb_ rfl rfl rfl), Q_B0⟩
        refine steps_cons ?_ ?_
        · rintro b a w' ⟨ha, Q_B0⟩ hb_ hon hoff
          refine ⟨_, rfl, fun K hK => ?_⟩
          have e65 : a.tmps[65]? = some (.bool true) := by rw [ha]; exact putSel_on (e := (12, 65, .bool true)) 12 rfl rfl (hon 12 (by kernel_rfl)) rfl
          replace ha := Aside0.mk ha
          have B0 := Aside0.mk Q_B0
          refine value_ (w1 := w') (v := .bool true) (by rfl) rfl ?_ ?_
          · go_simp
            (try simp only [i64_w])
            try rfl
          refine hK.out _ _ ⟨(by rw [ha.out]; exact putSel_upk 13 hb_ rfl rfl rfl), Q_B0⟩
        refine steps_cons ?_ ?_
        · rintro b a w' ⟨ha, Q_B0⟩ hb_ hon hoff
          refine ⟨_, rfl, fun K hK => ?_⟩
          have e8 : a.tmps[8]? = some (.pointer (some ⟨gb, 0, none⟩)) := by rw [ha]; exact (putSel_off rfl).trans rfl
          have e66 : a.tmps[66]? = some (.bool true) := by rw [ha]; exact putSel_on (e := (13, 66, .bool true)) 13 rfl rfl (hon 13 (by kernel_rfl)) rfl
          replace ha := Aside0.mk ha
          have B0 := Aside0.mk Q_B0
          have hb_ := blk_below HBG.out B0.out
          have c0_ := blk_cell hb_ 0
          have c1_ := blk_cell hb_ 1
          have c2_ := blk_cell hb_ 2
          have c3_ := blk_cell hb_ 3
          have c4_ := blk_cell hb_ 4
          have c5_ := blk_cell hb_ 5
          have c6_ := blk_cell hb_ 6
          clear hb_
          refine value_ (w1 := w') (v := .agg #[.int .i64 a0_0, .int .i64 a0_1, .int .i64 a0_2, .int .u64 a0_3, .int .u64 a0_4, .int .i64 a0_5, .int .i64 a0_6]) (wanted_on rfl rfl rfl (e66.trans (by first | rfl | (simp [*]; done)))) rfl ?_ ?_
          · go_simp
            (try simp only [i64_w])
            try rfl
          refine hK.out _ _ ⟨(by rw [ha.out]; exact putSel_upk 14 hb_ rfl rfl rfl), Q_B0⟩
        refine steps_cons ?_ ?_
        · rintro b a w' ⟨ha, Q_B0⟩ hb_ hon hoff
          refine ⟨_, rfl, fun K hK => ?_⟩
          have e2 : a.tmps[2]? = some (.pointer (some ⟨w.heap.size, 0, none⟩)) := by rw [ha]; exact (putSel_off rfl).trans rfl
          have e66 : a.tmps[66]? = some (.bool true) := by rw [ha]; exact putSel_on (e := (13, 66, .bool true)) 13 rfl rfl (hon 13 (by kernel_rfl)) rfl
          replace ha := Aside0.mk ha
          have B0 := Aside0.mk Q_B0
          have hb_ := blk_below HBX.out B0.out
          have c0_ := blk_cell hb_ 0
          have c1_ := blk_cell hb_ 1
          have c2_ := blk_cell hb_ 2
          have c3_ := blk_cell hb_ 3
          have c4_ := blk_cell hb_ 4
          have c5_ := blk_cell hb_ 5
          have c6_ := blk_cell hb_ 6
          clear hb_
          refine value_ (w1 := w') (v := .agg #[.int .i64 a0_0, .int .i64 a0_1, .int .i64 a0_2, .int .u64 a0_3, .int .u64 a0_4, .int .i64 a0_5, .int .i64 a0_6]) (wanted_on rfl rfl rfl (e66.trans (by first | rfl | (simp [*]; done)))) rfl ?_ ?_
          · go_simp
            (try simp only [i64_w])
            try rfl
          refine hK.out _ _ ⟨(by rw [ha.out]; exact putSel_upk 15 hb_ rfl rfl rfl), Q_B0⟩
        refine steps_cons ?_ ?_
        · rintro b a w' ⟨ha, Q_B0⟩ hb_ hon hoff
          refine ⟨_, rfl, fun K hK => ?_⟩
          have e67 : a.tmps[67]? = some (.agg #[.int .i64 a0_0, .int .i64 a0_1, .int .i64 a0_2, .int .u64 a0_3, .int .u64 a0_4, .int .i64 a0_5, .int .i64 a0_6]) := by rw [ha]; exact putSel_on (e := (14, 67, .agg #[.int .i64 a0_0, .int .i64 a0_1, .int .i64 a0_2, .int .u64 a0_3, .int .u64 a0_4, .int .i64 a0_5, .int .i64 a0_6])) 14 rfl rfl (hon 14 (by kernel_rfl)) rfl
          have e68 : a.tmps[68]? = some (.agg #[.int .i64 a0_0, .int .i64 a0_1, .int .i64 a0_2, .int .u64 a0_3, .int .u64 a0_4, .int .i64 a0_5, .int .i64 a0_6]) := by rw [ha]; exact putSel_on (e := (15, 68, .agg #[.int .i64 a0_0, .int .i64 a0_1, .int .i64 a0_2, .int .u64 a0_3, .int .u64 a0_4, .int .i64 a0_5, .int .i64 a0_6])) 15 rfl rfl (hon 15 (by kernel_rfl)) rfl
          have e66 : a.tmps[66]? = some (.bool true) := by rw [ha]; exact putSel_on (e := (13, 66, .bool true)) 13 rfl rfl (hon 13 (by kernel_rfl)) rfl
          replace ha := Aside0.mk ha
          have B0 := Aside0.mk Q_B0
          refine value_ (w1 := w') (v := .bool true) (wanted_on rfl rfl rfl (e66.trans (by first | rfl | (simp [*]; done)))) rfl ?_ ?_
          · go_simp
            (try simp only [i64_w])
            try rfl
          refine hK.out _ _ ⟨(by rw [ha.out]; exact putSel_upk 16 hb_ rfl rfl rfl), Q_B0⟩
        refine steps_cons ?_ ?_
        · rintro b a w' ⟨ha, Q_B0⟩ hb_ hon hoff
          refine ⟨_, rfl, fun K hK => ?_⟩
          have e66 : a.tmps[66]? = some (.bool true) := by rw [ha]; exact putSel_on (e := (13, 66, .bool true)) 13 rfl rfl (hon 13 (by kernel_rfl)) rfl
          have e69 : a.tmps[69]? = some (.bool true) := by rw [ha]; exact putSel_on (e := (16, 69, .bool true)) 16 rfl rfl (hon 16 (by kernel_rfl)) rfl
          replace ha := Aside0.mk ha
          have B0 := Aside0.mk Q_B0
          refine value_ (w1 := w') (v := .bool true) (by rfl) rfl ?_ ?_
          · go_simp
            (try simp only [i64_w])
            try rfl
          refine hK.out _ _ ⟨(by rw [ha.out]; exact putSel_upk 17 hb_ rfl rfl rfl), Q_B0⟩
        refine steps_cons ?_ ?_
        · rintro b a w' ⟨ha, Q_B0⟩ hb_ hon hoff
          refine ⟨_, rfl, fun K hK => ?_⟩
          have e70 : a.tmps[70]? = some (.bool true) := by rw [ha]; exact putSel_on (e := (17, 70, .bool true)) 17 rfl rfl (hon 17 (by kernel_rfl)) rfl
          replace ha := Aside0.mk ha
          have B0 := Aside0.mk Q_B0
          refine value_ (w1 := w') (v := .bool true) (by rfl) rfl ?_ ?_
          · go_simp
            (try simp only [i64_w])
            try rfl
          refine hK.out _ _ ⟨(by rw [ha.out]; exact putSel_upk 18 hb_ rfl rfl rfl), Q_B0⟩
        refine steps_cons ?_ ?_
        · rintro b a w' ⟨ha, Q_B0⟩ hb_ hon hoff
          refine ⟨_, rfl, fun K hK => ?_⟩
          have e9 : a.tmps[9]? = some (.string a1) := by rw [ha]; exact (putSel_off rfl).trans rfl
          have e71 : a.tmps[71]? = some (.bool true) := by rw [ha]; exact putSel_on (e := (18, 71, .bool true)) 18 rfl rfl (hon 18 (by kernel_rfl)) rfl
          replace ha := Aside0.mk ha
          have B0 := Aside0.mk Q_B0
          refine value_ (w1 := w') (v := .string a1) (wanted_on rfl rfl rfl (e71.trans (by first | rfl | (simp [*]; done)))) rfl ?_ ?_
          · go_simp
            (try simp only [i64_w])
            try rfl
          refine hK.out _ _ ⟨(by rw [ha.out]; exact putSel_upk 19 hb_ rfl rfl rfl), Q_B0⟩
        refine steps_cons ?_ ?_
        · rintro b a w' ⟨ha, Q_B0⟩ hb_ hon hoff
          refine ⟨_, rfl, fun K hK => ?_⟩
          have e1 : a.tmps[1]? = some (.string a1) := by rw [ha]; exact (putSel_off rfl).trans rfl
          have e71 : a.tmps[71]? = some (.bool true) := by rw [ha]; exact putSel_on (e := (18, 71, .bool true)) 18 rfl rfl (hon 18 (by kernel_rfl)) rfl
          replace ha := Aside0.mk ha
          have B0 := Aside0.mk Q_B0
          refine value_ (w1 := w') (v := .string a1) (wanted_on rfl rfl rfl (e71.trans (by first | rfl | (simp [*]; done)))) rfl ?_ ?_
          · go_simp
            (try simp only [i64_w])
            try rfl
          refine hK.out _ _ ⟨(by rw [ha.out]; exact putSel_upk 20 hb_ rfl rfl rfl), Q_B0⟩
        refine steps_cons ?_ ?_
        · rintro b a w' ⟨ha, Q_B0⟩ hb_ hon hoff
          refine ⟨_, rfl, fun K hK => ?_⟩
          have e72 : a.tmps[72]? = some (.string a1) := by rw [ha]; exact putSel_on (e := (19, 72, .string a1)) 19 rfl rfl (hon 19 (by kernel_rfl)) rfl
          have e73 : a.tmps[73]? = some (.string a1) := by rw [ha]; exact putSel_on (e := (20, 73, .string a1)) 20 rfl rfl (hon 20 (by kernel_rfl)) rfl
          have e71 : a.tmps[71]? = some (.bool true) := by rw [ha]; exact putSel_on (e := (18, 71, .bool true)) 18 rfl rfl (hon 18 (by kernel_rfl)) rfl
          replace ha := Aside0.mk ha
          have B0 := Aside0.mk Q_B0
          refine value_ (w1 := w') (v := .bool true) (wanted_on rfl rfl rfl (e71.trans (by first | rfl | (simp [*]; done)))) rfl ?_ ?_
          · go_simp
            (try simp only [i64_w])
            try rfl
          refine hK.out _ _ ⟨(by rw [ha.out]; exact putSel_upk 21 hb_ rfl rfl rfl), Q_B0⟩
        refine steps_cons ?_ ?_
        · rintro b a w' ⟨ha, Q_B0⟩ hb_ hon hoff
          refine ⟨_, rfl, fun K hK => ?_⟩
          have e71 : a.tmps[71]? = some (.bool true) := by rw [ha]; exact putSel_on (e := (18, 71, .bool true)) 18 rfl rfl (hon 18 (by kernel_rfl)) rfl
          have e74 : a.tmps[74]? = some (.bool true) := by rw [ha]; exact putSel_on (e := (21, 74, .bool true)) 21 rfl rfl (hon 21 (by kernel_rfl)) rfl
          replace ha := Aside0.mk ha
          have B0 := Aside0.mk Q_B0
          refine value_ (w1 := w') (v := .bool true) (by rfl) rfl ?_ ?_
          · go_simp
            (try simp only [i64_w])
            try rfl
          refine hK.out _ _ ⟨(by rw [ha.out]; exact putSel_upk 22 hb_ rfl rfl rfl), Q_B0⟩
        refine steps_cons ?_ ?_
        · rintro b a w' ⟨ha, Q_B0⟩ hb_ hon hoff
          refine ⟨_, rfl, fun K hK => ?_⟩
          have e75 : a.tmps[75]? = some (.bool true) := by rw [ha]; exact putSel_on (e := (22, 75, .bool true)) 22 rfl rfl (hon 22 (by kernel_rfl)) rfl
          replace ha := Aside0.mk ha
          have B0 := Aside0.mk Q_B0
          refine value_ (w1 := w') (v := .bool true) (by rfl) rfl ?_ ?_
          · go_simp
            (try simp only [i64_w])
            try rfl
          refine hK.out _ _ ⟨(by rw [ha.out]; exact putSel_upk 23 hb_ rfl rfl rfl), Q_B0⟩
        refine steps_cons ?_ ?_
        · rintro b a w' ⟨ha, Q_B0⟩ hb_ hon hoff
          refine ⟨_, rfl, fun K hK => ?_⟩
          have e10 : a.tmps[10]? = some (.int .i64 0) := by rw [ha]; exact (putSel_off rfl).trans rfl
          have e76 : a.tmps[76]? = some (.bool true) := by rw [ha]; exact putSel_on (e := (23, 76, .bool true)) 23 rfl rfl (hon 23 (by kernel_rfl)) rfl
          replace ha := Aside0.mk ha
          have B0 := Aside0.mk Q_B0
          refine value_ (w1 := w') (v := .int .i64 0) (wanted_on rfl rfl rfl (e76.trans (by first | rfl | (simp [*]; done)))) rfl ?_ ?_
          · go_simp
            (try simp only [i64_w])
            try rfl
          refine hK.out _ _ ⟨(by rw [ha.out]; exact putSel_upk 24 hb_ rfl rfl rfl), Q_B0⟩
        refine steps_cons ?_ ?_
        · rintro b a w' ⟨ha, Q_B0⟩ hb_ hon hoff
          refine ⟨_, rfl, fun K hK => ?_⟩
          have e77 : a.tmps[77]? = some (.int .i64 0) := by rw [ha]; exact putSel_on (e := (24, 77, .int .i64 0)) 24 rfl rfl (hon 24 (by kernel_rfl)) rfl
          have e76 : a.tmps[76]? = some (.bool true) := by rw [ha]; exact putSel_on (e := (23, 76, .bool true)) 23 rfl rfl (hon 23 (by kernel_rfl)) rfl
          replace ha := Aside0.mk ha
          have B0 := Aside0.mk Q_B0
          refine value_ (w1 := w') (v := .bool true) (wanted_on rfl rfl rfl (e76.trans (by first | rfl | (simp [*]; done)))) rfl ?_ ?_
          · go_simp
            (try simp only [i64_w])
            try rfl
          refine hK.out _ _ ⟨(by rw [ha.out]; exact putSel_upk 25 hb_ rfl rfl rfl), Q_B0⟩
        refine steps_cons ?_ ?_
        · rintro b a w' ⟨ha, Q_B0⟩ hb_ hon hoff
          refine ⟨_, rfl, fun K hK => ?_⟩
          have e76 : a.tmps[76]? = some (.bool true) := by rw [ha]; exact putSel_on (e := (23, 76, .bool true)) 23 rfl rfl (hon 23 (by kernel_rfl)) rfl
          have e78 : a.tmps[78]? = some (.bool true) := by rw [ha]; exact putSel_on (e := (25, 78, .bool true)) 25 rfl rfl (hon 25 (by kernel_rfl)) rfl
          replace ha := Aside0.mk ha
          have B0 := Aside0.mk Q_B0
          refine value_ (w1 := w') (v := .bool true) (by rfl) rfl ?_ ?_
          · go_simp
            (try simp only [i64_w])
            try rfl
          refine hK.out _ _ ⟨(by rw [ha.out]; exact putSel_upk 26 hb_ rfl rfl rfl), Q_B0⟩
        refine steps_cons ?_ ?_
        · rintro b a w' ⟨ha, Q_B0⟩ hb_ hon hoff
          refine ⟨_, rfl, fun K hK => ?_⟩
          have e79 : a.tmps[79]? = some (.bool true) := by rw [ha]; exact putSel_on (e := (26, 79, .bool true)) 26 rfl rfl (hon 26 (by kernel_rfl)) rfl
          replace ha := Aside0.mk ha
          have B0 := Aside0.mk Q_B0
          refine value_ (w1 := w') (v := .bool true) (by rfl) rfl ?_ ?_
          · go_simp
            (try simp only [i64_w])
            try rfl
          refine hK.out _ _ ⟨(by rw [ha.out]; exact putSel_upk 27 hb_ rfl rfl rfl), Q_B0⟩
        refine steps_cons ?_ ?_
        · rintro b a w' ⟨ha, Q_B0⟩ hb_ hon hoff
          refine ⟨_, rfl, fun K hK => ?_⟩
          have e5 : a.tmps[5]? = some (.slice Ab 256 cb) := by rw [ha]; exact (putSel_off rfl).trans rfl
          have e80 : a.tmps[80]? = some (.bool true) := by rw [ha]; exact putSel_on (e := (27, 80, .bool true)) 27 rfl rfl (hon 27 (by kernel_rfl)) rfl
          replace ha := Aside0.mk ha
          have B0 := Aside0.mk Q_B0
          refine value_ (w1 := w') (v := .slice Ab 256 cb) (wanted_on rfl rfl rfl (e80.trans (by first | rfl | (simp [*]; done)))) rfl ?_ ?_
          · go_simp
            (try simp only [i64_w])
            try rfl
          refine hK.out _ _ ⟨(by rw [ha.out]; exact putSel_upk 28 hb_ rfl rfl rfl), Q_B0⟩
        refine steps_cons ?_ ?_
        · rintro b a w' ⟨ha, Q_B0⟩ hb_ hon hoff
          refine ⟨_, rfl, fun K hK => ?_⟩
          have e81 : a.tmps[81]? = some (.slice Ab 256 cb) := by rw [ha]; exact putSel_on (e := (28, 81, .slice Ab 256 cb)) 28 rfl rfl (hon 28 (by kernel_rfl)) rfl
          have e80 : a.tmps[80]? = some (.bool true) := by rw [ha]; exact putSel_on (e := (27, 80, .bool true)) 27 rfl rfl (hon 27 (by kernel_rfl)) rfl
          replace ha := Aside0.mk ha
          have B0 := Aside0.mk Q_B0
          refine goes_ Try.func42 (by kernel_rfl) rfl #[.slice Ab 256 cb] (wanted_on rfl rfl rfl (e80.trans rfl)) rfl rfl (by first | (simp only [List.map_toArray, List.map_cons, List.map_nil, Act.eval, Array.getD_eq_getD_getElem?, Option.getD_some, e81, e80]; done) | (simp only [List.map_toArray, List.map_cons, List.map_nil, Act.eval, Array.getD_eq_getD_getElem?, Option.getD_some, e81, e80]; rfl)) ?_
          with_reducible refine (HCLS.out _ B0.out).mono ?_
          rintro e w2 ⟨rfl, hb⟩
          refine ⟨_, rfl, ?_⟩
          refine hK.out _ _ ⟨(by rw [ha.out]; exact putSel_upk 29 hb_ rfl rfl rfl), below_then B0.out B0.out.size hb⟩
        refine steps_cons ?_ ?_
        · rintro b a w' ⟨ha, Q_B0⟩ hb_ hon hoff
          refine ⟨_, rfl, fun K hK => ?_⟩
          have e82 : a.tmps[82]? = some (.int .i64 1) := by rw [ha]; exact putSel_on (e := (29, 82, .int .i64 1)) 29 rfl rfl (hon 29 (by kernel_rfl)) rfl
          have e80 : a.tmps[80]? = some (.bool true) := by rw [ha]; exact putSel_on (e := (27, 80, .bool true)) 27 rfl rfl (hon 27 (by kernel_rfl)) rfl
          replace ha := Aside0.mk ha
          have B0 := Aside0.mk Q_B0
          refine value_ (w1 := w') (v := .bool true) (wanted_on rfl rfl rfl (e80.trans (by first | rfl | (simp [*]; done)))) rfl ?_ ?_
          · go_simp
            (try simp only [i64_w])
            try rfl
          refine hK.out _ _ ⟨(by rw [ha.out]; exact putSel_upk 30 hb_ rfl rfl rfl), Q_B0⟩
        refine steps_cons ?_ ?_
        · rintro b a w' ⟨ha, Q_B0⟩ hb_ hon hoff
          refine ⟨_, rfl, fun K hK => ?_⟩
          have e80 : a.tmps[80]? = some (.bool true) := by rw [ha]; exact putSel_on (e := (27, 80, .bool true)) 27 rfl rfl (hon 27 (by kernel_rfl)) rfl
          have e83 : a.tmps[83]? = some (.bool true) := by rw [ha]; exact putSel_on (e := (30, 83, .bool true)) 30 rfl rfl (hon 30 (by kernel_rfl)) rfl
          replace ha := Aside0.mk ha
          have B0 := Aside0.mk Q_B0
          refine value_ (w1 := w') (v := .bool true) (by rfl) rfl ?_ ?_
          · go_simp
            (try simp only [i64_w])
            try rfl
          refine hK.out _ _ ⟨(by rw [ha.out]; exact putSel_upk 31 hb_ rfl rfl rfl), Q_B0⟩
        refine steps_cons ?_ ?_
        · rintro b a w' ⟨ha, Q_B0⟩ hb_ hon hoff
          refine ⟨_, rfl, fun K hK => ?_⟩
          have e84 : a.tmps[84]? = some (.bool true) := by rw [ha]; exact putSel_on (e := (31, 84, .bool true)) 31 rfl rfl (hon 31 (by kernel_rfl)) rfl
          replace ha := Aside0.mk ha
          have B0 := Aside0.mk Q_B0
          refine value_ (w1 := w') (v := .bool true) (by rfl) rfl ?_ ?_
          · go_simp
            (try simp only [i64_w])
            try rfl
          refine hK.out _ _ ⟨(by rw [ha.out]; exact putSel_upk 32 hb_ rfl rfl rfl), Q_B0⟩
        exact steps_nil
      rintro b a wl hall ⟨ha, Q_B0⟩
      clear B0
      have hb0_ := hall 0 (by kernel_rfl)
      have hb1_ := hall 1 (by kernel_rfl)
      have hb2_ := hall 2 (by kernel_rfl)
      have hb3_ := hall 3 (by kernel_rfl)
      have hb4_ := hall 4 (by kernel_rfl)
      have hb5_ := hall 5 (by kernel_rfl)
      have hb6_ := hall 6 (by kernel_rfl)
      have hb7_ := hall 7 (by kernel_rfl)
      have hb8_ := hall 8 (by kernel_rfl)
      have hb9_ := hall 9 (by kernel_rfl)
      have hb10_ := hall 10 (by kernel_rfl)
      have hb11_ := hall 11 (by kernel_rfl)
      have hb12_ := hall 12 (by kernel_rfl)
      have hb13_ := hall 13 (by kernel_rfl)
      have hb14_ := hall 14 (by kernel_rfl)
      have hb15_ := hall 15 (by kernel_rfl)
      have hb16_ := hall 16 (by kernel_rfl)
      have hb17_ := hall 17 (by kernel_rfl)
      have hb18_ := hall 18 (by kernel_rfl)
      have hb19_ := hall 19 (by kernel_rfl)
      have hb20_ := hall 20 (by kernel_rfl)
      have hb21_ := hall 21 (by kernel_rfl)
      have hb22_ := hall 22 (by kernel_rfl)
      have hb23_ := hall 23 (by kernel_rfl)
      have hb24_ := hall 24 (by kernel_rfl)
      have hb25_ := hall 25 (by kernel_rfl)
      have hb26_ := hall 26 (by kernel_rfl)
      have hb27_ := hall 27 (by kernel_rfl)
      have hb28_ := hall 28 (by kernel_rfl)
      have hb29_ := hall 29 (by kernel_rfl)
      have hb30_ := hall 30 (by kernel_rfl)
      have hb31_ := hall 31 (by kernel_rfl)
      have hb32_ := hall 32 (by kernel_rfl)
      subst ha
      simp only [putSel, hb0_, hb1_, hb2_, hb3_, hb4_, hb5_, hb6_, hb7_, hb8_, hb9_, hb10_, hb11_, hb12_, hb13_, hb14_, hb15_, hb16_, hb17_, hb18_, hb19_, hb20_, hb21_, hb22_, hb23_, hb24_, hb25_, hb26_, hb27_, hb28_, hb29_, hb30_, hb31_, hb32_, if_true, Act.put, List.setIfInBounds_toArray, List.set_cons_zero, List.set_cons_succ]
      have B0 := Aside0.mk Q_B0
      clear Q_B0
      clear hall hb0_ hb1_ hb2_ hb3_ hb4_ hb5_ hb6_ hb7_ hb8_ hb9_ hb10_ hb11_ hb12_ hb13_ hb14_ hb15_ hb16_ hb17_ hb18_ hb19_ hb20_ hb21_ hb22_ hb23_ hb24_ hb25_ hb26_ hb27_ hb28_ hb29_ hb30_ hb31_ hb32_
      clear HT_ HW_
      have HFIN := Aside0.mk (below_then HB1.out HB1.out.size B0.out)
      go_wp2_with fail
      go_ret
      exact ⟨rfl, HFIN.out⟩

end Go.Proofs.Ytmlkkdopogcggaa.Hp
