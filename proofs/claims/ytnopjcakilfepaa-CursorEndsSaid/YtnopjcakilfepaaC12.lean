import Derived.Test.YtnopjcakilfepaaC4
import Derived.Test.YtnopjcakilfepaaHp11
namespace Go.Proofs.Ytnopjcakilfepaa.QS
set_option linter.unusedVariables false
set_option linter.unusedSimpArgs false
open Go.RowKit Go.Proofs.Ytnopjcakilfepaa.SS Go.Proofs.Ytnopjcakilfepaa.Hp Go.Proofs.YtnopjcakilfepaaW.PrintWords Go.Proofs.YtnopjcakilfepaaW.PrintLast Go.Proofs.YtnopjcakilfepaaW.PrintMore
def mine1.T1 : Bool × List (List Nat × List Nat) := (true, [([], []), ([0], [0]), ([1], [1]), ([2], [2]), ([3, 2], [2, 3]), ([2], [2]), ([5, 2], [2, 5]), ([4, 6, 2], [2, 4, 6]), ([2, 7], [2, 7]), ([8, 2], [8]), ([9], [9]), ([10, 9], [9, 10]), ([11, 9], [9, 11]), ([9, 12], [9, 12]), ([13, 9], [13]), ([14], [14]), ([15, 14], [14, 15]), ([16, 14], [14, 16]), ([14, 17], [14, 17]), ([18, 14], [18]), ([19], [19]), ([20, 19], [19, 20]), ([19], [19]), ([22, 19], [19, 22]), ([23, 19, 19], [19, 23]), ([21, 24, 19], [19, 21, 24]), ([19, 25], [19, 25]), ([26, 24, 0, 1, 2, 3, 4, 5, 6, 7, 8, 9, 10, 11, 12, 13, 14, 15, 16, 17, 18, 19, 20, 21, 22, 23, 24, 25, 26], [26])])
def mine1.B1 : List Nat := [0, 1, 3, 7, 15, 7, 39, 127, 255, 511, 1023, 2047, 4095, 8191, 16383, 32767, 65535, 131071, 262143, 524287, 1048575, 2097151, 1048575, 5242879, 13631487, 33554431, 67108863, 134217727]
theorem mine1.tab1 : rtab .any (opsOf Try.f75 1) = mine1.T1 := by kernel_rfl
theorem mine1.bits1 : waitsOk mine1.T1.2 mine1.B1 = true := by kernel_rfl
def fr (n : Int) : Int := if n < 1 then 0 else wrap64 (wrap64 (Int.tdiv (wrap64 (n - 1)) 100) + 1)
theorem frames_calls (n : Int) (W : World) : Calls Try.prog 29 #[.int .i64 n] W fun e w' => e = .returned (.int .i64 (fr n)) ∧ Below W.heap.size W w' := by
  refine (index_Frames.calls n (fr n) W (by unfold index_Frames.f fr; split <;> rfl)).mono ?_
  rintro e w' ⟨rfl, h⟩
  exact ⟨rfl, h.below⟩
def mineB (on : Bool) (id I : Int) (x : R0) : Bool := on && (x.f0 == id) && !x.f5 && decide (I ≥ 0) && decide (I < fr x.f3)
set_option maxHeartbeats 8000000 in
set_option maxRecDepth 100000 in
theorem mine1_calls (x : R0) (Ap : Option Addr) (cpp : Nat) (on pa : Bool) (id I : Int) (bk : Nat) (w : World) (hc : w.heap[bk]? = some (.cells #[.bool on, .bool pa, .int .u64 id, .int .i64 I] 65 (0, 0))) :
    Calls Try.prog 75 #[.agg #[.int .u64 x.f0, .int .u64 x.f1, .int .i64 x.f2, .int .i64 x.f3, .int .u64 x.f4, .bool x.f5, .int .i64 x.f6, .slice Ap x.f7.length cpp], .pointer (some ⟨bk, 0, none⟩)] w fun e w' => e = .returned (.bool (mineB on id I x)) ∧ Below w.heap.size w w' := by
  have hz := heap_alloc_new w (.cells #[.int .u64 x.f0, .int .u64 x.f1, .int .i64 x.f2, .int .i64 x.f3, .int .u64 x.f4, .bool x.f5, .int .i64 x.f6, .slice Ap x.f7.length cpp] 29)
  have hb1 := below_alloc (Below.refl w.heap.size w) (.cells #[.int .u64 x.f0, .int .u64 x.f1, .int .i64 x.f2, .int .i64 x.f3, .int .u64 x.f4, .bool x.f5, .int .i64 x.f6, .slice Ap x.f7.length cpp] 29)
  have hc1 := blk_alloc hc (.cells #[.int .u64 x.f0, .int .u64 x.f1, .int .i64 x.f2, .int .i64 x.f3, .int .u64 x.f4, .bool x.f5, .int .i64 x.f6, .slice Ap x.f7.length cpp] 29)
  obtain ⟨g, hg⟩ : ∃ g, g = w.heap.size := ⟨_, rfl⟩
  have HFR := Aside0.mk (fun W => frames_calls x.f3 W)
  clear hc
  go_enter Try.func75, Try.ntmps75
  go_upto_region 1 with fail
  generalize w.alloc (.cells #[.int .u64 x.f0, .int .u64 x.f1, .int .i64 x.f2, .int .i64 x.f3, .int .u64 x.f4, .bool x.f5, .int .i64 x.f6, .slice Ap x.f7.length cpp] 29) = W1 at hz hb1 hc1 ⊢
  have HZC := Aside0.mk (blk_drew hc1)
  have HZG := Aside0.mk (blk_drew hz)
  have HBB := Aside0.mk (below_drew hb1)
  have B0 := Aside0.mk (Below.refl W1.drew.heap.size W1.drew)
  rw [← hg] at HZG ⊢
  clear hz hc1 hb1 hg
  cases on with
  | false =>
    have HM := Aside0.mk (show mineB false id I x = false from by rfl)
    refine start_ (n := 28) (S := fun w' => True) (ds := []) #[false, false, false, false, false, false, false, false, false, false, false, false, false, false, false, false, false, false, false, false, false, false, false, false, false, false, false, false] (by kernel_rfl) rfl rfl trivial (fun hHeld => ?_)
    refine with_tabW mine1.tab1 mine1.bits1 (fun HT_ HW_ => ?_)
    generalize W1.drew = wq at B0 HZC HZG HBB hHeld ⊢
    refine inv_at [0, 1, 2, 3, 4, 5, 6, 7, 8, 9, 10, 11, 12, 13, 14, 15, 16, 17, 18, 19, 20, 21, 22, 23, 24, 25, 26, 27] (fun a0_ b a w' => a = putSel a0_ b [(0, 4, .pointer (some ⟨bk, 0, none⟩)), (1, 5, .bool false), (2, 6, .bool false), (3, 7, undef), (4, 8, undef), (5, 9, undef), (6, 10, undef), (7, 11, undef), (8, 12, .bool false), (9, 13, .bool false), (10, 14, undef), (11, 15, undef), (12, 16, undef), (13, 17, .bool false), (14, 18, .bool false), (15, 19, undef), (16, 20, undef), (17, 21, undef), (18, 22, .bool false), (19, 23, .bool false), (20, 24, undef), (21, 25, undef), (22, 26, undef), (23, 27, undef), (24, 28, undef), (25, 29, undef), (26, 30, .bool false), (27, 3, .bool false)] ∧ (Below wq.heap.size wq w')) HT_.out HW_.out (by kernel_rfl) (by kernel_rfl) ?_ ?_ ?_
    · exact ⟨by simp only [putSel, Bool.false_eq_true, if_false], B0.out⟩
    · skip
      clear B0
      refine steps_cons ?_ ?_
      · rintro b a w' ⟨ha, Q_B0⟩ hb_ hon hoff
        refine ⟨_, rfl, fun K hK => ?_⟩
        have e1 : a.tmps[1]? = some (.pointer (some ⟨bk, 0, none⟩)) := by rw [ha]; exact (putSel_off rfl).trans rfl
        replace ha := Aside0.mk ha
        have B0 := Aside0.mk Q_B0
        refine value_ (w1 := w') (v := .pointer (some ⟨bk, 0, none⟩)) (by rfl) rfl ?_ ?_
        · go_simp
          (try simp only [i64_w])
          try rfl
        refine hK.out _ _ ⟨(by rw [ha.out]; exact putSel_upk 0 hb_ rfl rfl rfl), Q_B0⟩
      refine steps_cons ?_ ?_
      · rintro b a w' ⟨ha, Q_B0⟩ hb_ hon hoff
        refine ⟨_, rfl, fun K hK => ?_⟩
        have e4 : a.tmps[4]? = some (.pointer (some ⟨bk, 0, none⟩)) := by rw [ha]; exact putSel_on (e := (0, 4, .pointer (some ⟨bk, 0, none⟩))) 0 rfl rfl (hon 0 (by kernel_rfl)) rfl
        replace ha := Aside0.mk ha
        have B0 := Aside0.mk Q_B0
        have c_ := blk_cell (blk_below HZC.out B0.out) 0
        refine value_ (w1 := w') (v := .bool false) (by rfl) rfl ?_ ?_
        · go_simp
          (try simp only [i64_w])
          try rfl
        refine hK.out _ _ ⟨(by rw [ha.out]; exact putSel_upk 1 hb_ rfl rfl rfl), Q_B0⟩
      refine steps_cons ?_ ?_
      · rintro b a w' ⟨ha, Q_B0⟩ hb_ hon hoff
        refine ⟨_, rfl, fun K hK => ?_⟩
        have e5 : a.tmps[5]? = some (.bool false) := by rw [ha]; exact putSel_on (e := (1, 5, .bool false)) 1 rfl rfl (hon 1 (by kernel_rfl)) rfl
        replace ha := Aside0.mk ha
        have B0 := Aside0.mk Q_B0
        refine value_ (w1 := w') (v := .bool false) (by rfl) rfl ?_ ?_
        · go_simp
          (try simp only [i64_w])
          try rfl
        refine hK.out _ _ ⟨(by rw [ha.out]; exact putSel_upk 2 hb_ rfl rfl rfl), Q_B0⟩
      refine steps_cons ?_ ?_
      · rintro b a w' ⟨ha, Q_B0⟩ hb_ hon hoff
        refine ⟨_, rfl, fun K hK => ?_⟩
        have e6 : a.tmps[6]? = some (.bool false) := by rw [ha]; exact putSel_on (e := (2, 6, .bool false)) 2 rfl rfl (hon 2 (by kernel_rfl)) rfl
        replace ha := Aside0.mk ha
        have B0 := Aside0.mk Q_B0
        refine off_ (wanted_off rfl rfl rfl (e6.trans (by first | rfl | (simp [*]; done)))) ?_
        refine hK.out _ _ ⟨(by rw [ha.out]; exact putSel_upk 3 hb_ rfl rfl rfl), Q_B0⟩
      refine steps_cons ?_ ?_
      · rintro b a w' ⟨ha, Q_B0⟩ hb_ hon hoff
        refine ⟨_, rfl, fun K hK => ?_⟩
        have e6 : a.tmps[6]? = some (.bool false) := by rw [ha]; exact putSel_on (e := (2, 6, .bool false)) 2 rfl rfl (hon 2 (by kernel_rfl)) rfl
        replace ha := Aside0.mk ha
        have B0 := Aside0.mk Q_B0
        refine off_ (wanted_off rfl rfl rfl (e6.trans (by first | rfl | (simp [*]; done)))) ?_
        refine hK.out _ _ ⟨(by rw [ha.out]; exact putSel_upk 4 hb_ rfl rfl rfl), Q_B0⟩
      refine steps_cons ?_ ?_
      · rintro b a w' ⟨ha, Q_B0⟩ hb_ hon hoff
        refine ⟨_, rfl, fun K hK => ?_⟩
        have e6 : a.tmps[6]? = some (.bool false) := by rw [ha]; exact putSel_on (e := (2, 6, .bool false)) 2 rfl rfl (hon 2 (by kernel_rfl)) rfl
        replace ha := Aside0.mk ha
        have B0 := Aside0.mk Q_B0
        refine off_ (wanted_off rfl rfl rfl (e6.trans (by first | rfl | (simp [*]; done)))) ?_
        refine hK.out _ _ ⟨(by rw [ha.out]; exact putSel_upk 5 hb_ rfl rfl rfl), Q_B0⟩
      refine steps_cons ?_ ?_
      · rintro b a w' ⟨ha, Q_B0⟩ hb_ hon hoff
        refine ⟨_, rfl, fun K hK => ?_⟩
        have e6 : a.tmps[6]? = some (.bool false) := by rw [ha]; exact putSel_on (e := (2, 6, .bool false)) 2 rfl rfl (hon 2 (by kernel_rfl)) rfl
        replace ha := Aside0.mk ha
        have B0 := Aside0.mk Q_B0
        refine off_ (wanted_off rfl rfl rfl (e6.trans (by first | rfl | (simp [*]; done)))) ?_
        refine hK.out _ _ ⟨(by rw [ha.out]; exact putSel_upk 6 hb_ rfl rfl rfl), Q_B0⟩
      refine steps_cons ?_ ?_
      · rintro b a w' ⟨ha, Q_B0⟩ hb_ hon hoff
        refine ⟨_, rfl, fun K hK => ?_⟩
        have e6 : a.tmps[6]? = some (.bool false) := by rw [ha]; exact putSel_on (e := (2, 6, .bool false)) 2 rfl rfl (hon 2 (by kernel_rfl)) rfl
        replace ha := Aside0.mk ha
        have B0 := Aside0.mk Q_B0
        refine off_ (wanted_off rfl rfl rfl (e6.trans (by first | rfl | (simp [*]; done)))) ?_
        refine hK.out _ _ ⟨(by rw [ha.out]; exact putSel_upk 7 hb_ rfl rfl rfl), Q_B0⟩
      refine steps_cons ?_ ?_
      · rintro b a w' ⟨ha, Q_B0⟩ hb_ hon hoff
        refine ⟨_, rfl, fun K hK => ?_⟩
        have e6 : a.tmps[6]? = some (.bool false) := by rw [ha]; exact putSel_on (e := (2, 6, .bool false)) 2 rfl rfl (hon 2 (by kernel_rfl)) rfl
        have e11 : a.tmps[11]? = some (undef) := by rw [ha]; exact putSel_on (e := (7, 11, undef)) 7 rfl rfl (hon 7 (by kernel_rfl)) rfl
        replace ha := Aside0.mk ha
        have B0 := Aside0.mk Q_B0
        refine value_ (w1 := w') (v := .bool false) (by rfl) rfl ?_ ?_
        · go_simp
          (try simp only [i64_w])
          try rfl
        refine hK.out _ _ ⟨(by rw [ha.out]; exact putSel_upk 8 hb_ rfl rfl rfl), Q_B0⟩
      refine steps_cons ?_ ?_
      · rintro b a w' ⟨ha, Q_B0⟩ hb_ hon hoff
        refine ⟨_, rfl, fun K hK => ?_⟩
        have e12 : a.tmps[12]? = some (.bool false) := by rw [ha]; exact putSel_on (e := (8, 12, .bool false)) 8 rfl rfl (hon 8 (by kernel_rfl)) rfl
        replace ha := Aside0.mk ha
        have B0 := Aside0.mk Q_B0
        refine value_ (w1 := w') (v := .bool false) (by rfl) rfl ?_ ?_
        · go_simp
          (try simp only [i64_w])
          try rfl
        refine hK.out _ _ ⟨(by rw [ha.out]; exact putSel_upk 9 hb_ rfl rfl rfl), Q_B0⟩
      refine steps_cons ?_ ?_
      · rintro b a w' ⟨ha, Q_B0⟩ hb_ hon hoff
        refine ⟨_, rfl, fun K hK => ?_⟩
        have e13 : a.tmps[13]? = some (.bool false) := by rw [ha]; exact putSel_on (e := (9, 13, .bool false)) 9 rfl rfl (hon 9 (by kernel_rfl)) rfl
        replace ha := Aside0.mk ha
        have B0 := Aside0.mk Q_B0
        refine off_ (wanted_off rfl rfl rfl (e13.trans (by first | rfl | (simp [*]; done)))) ?_
        refine hK.out _ _ ⟨(by rw [ha.out]; exact putSel_upk 10 hb_ rfl rfl rfl), Q_B0⟩
      refine steps_cons ?_ ?_
      · rintro b a w' ⟨ha, Q_B0⟩ hb_ hon hoff
        refine ⟨_, rfl, fun K hK => ?_⟩
        have e13 : a.tmps[13]? = some (.bool false) := by rw [ha]; exact putSel_on (e := (9, 13, .bool false)) 9 rfl rfl (hon 9 (by kernel_rfl)) rfl
        replace ha := Aside0.mk ha
        have B0 := Aside0.mk Q_B0
        refine off_ (wanted_off rfl rfl rfl (e13.trans (by first | rfl | (simp [*]; done)))) ?_
        refine hK.out _ _ ⟨(by rw [ha.out]; exact putSel_upk 11 hb_ rfl rfl rfl), Q_B0⟩
      refine steps_cons ?_ ?_
      · rintro b a w' ⟨ha, Q_B0⟩ hb_ hon hoff
        refine ⟨_, rfl, fun K hK => ?_⟩
        have e13 : a.tmps[13]? = some (.bool false) := by rw [ha]; exact putSel_on (e := (9, 13, .bool false)) 9 rfl rfl (hon 9 (by kernel_rfl)) rfl
        replace ha := Aside0.mk ha
        have B0 := Aside0.mk Q_B0
        refine off_ (wanted_off rfl rfl rfl (e13.trans (by first | rfl | (simp [*]; done)))) ?_
        refine hK.out _ _ ⟨(by rw [ha.out]; exact putSel_upk 12 hb_ rfl rfl rfl), Q_B0⟩
      refine steps_cons ?_ ?_
      · rintro b a w' ⟨ha, Q_B0⟩ hb_ hon hoff
        refine ⟨_, rfl, fun K hK => ?_⟩
        have e13 : a.tmps[13]? = some (.bool false) := by rw [ha]; exact putSel_on (e := (9, 13, .bool false)) 9 rfl rfl (hon 9 (by kernel_rfl)) rfl
        have e16 : a.tmps[16]? = some (undef) := by rw [ha]; exact putSel_on (e := (12, 16, undef)) 12 rfl rfl (hon 12 (by kernel_rfl)) rfl
        replace ha := Aside0.mk ha
        have B0 := Aside0.mk Q_B0
        refine value_ (w1 := w') (v := .bool false) (by rfl) rfl ?_ ?_
        · go_simp
          (try simp only [i64_w])
          try rfl
        refine hK.out _ _ ⟨(by rw [ha.out]; exact putSel_upk 13 hb_ rfl rfl rfl), Q_B0⟩
      refine steps_cons ?_ ?_
      · rintro b a w' ⟨ha, Q_B0⟩ hb_ hon hoff
        refine ⟨_, rfl, fun K hK => ?_⟩
        have e17 : a.tmps[17]? = some (.bool false) := by rw [ha]; exact putSel_on (e := (13, 17, .bool false)) 13 rfl rfl (hon 13 (by kernel_rfl)) rfl
        replace ha := Aside0.mk ha
        have B0 := Aside0.mk Q_B0
        refine value_ (w1 := w') (v := .bool false) (by rfl) rfl ?_ ?_
        · go_simp
          (try simp only [i64_w])
          try rfl
        refine hK.out _ _ ⟨(by rw [ha.out]; exact putSel_upk 14 hb_ rfl rfl rfl), Q_B0⟩
      refine steps_cons ?_ ?_
      · rintro b a w' ⟨ha, Q_B0⟩ hb_ hon hoff
        refine ⟨_, rfl, fun K hK => ?_⟩
        have e18 : a.tmps[18]? = some (.bool false) := by rw [ha]; exact putSel_on (e := (14, 18, .bool false)) 14 rfl rfl (hon 14 (by kernel_rfl)) rfl
        replace ha := Aside0.mk ha
        have B0 := Aside0.mk Q_B0
        refine off_ (wanted_off rfl rfl rfl (e18.trans (by first | rfl | (simp [*]; done)))) ?_
        refine hK.out _ _ ⟨(by rw [ha.out]; exact putSel_upk 15 hb_ rfl rfl rfl), Q_B0⟩
      refine steps_cons ?_ ?_
      · rintro b a w' ⟨ha, Q_B0⟩ hb_ hon hoff
        refine ⟨_, rfl, fun K hK => ?_⟩
        have e18 : a.tmps[18]? = some (.bool false) := by rw [ha]; exact putSel_on (e := (14, 18, .bool false)) 14 rfl rfl (hon 14 (by kernel_rfl)) rfl
        replace ha := Aside0.mk ha
        have B0 := Aside0.mk Q_B0
        refine off_ (wanted_off rfl rfl rfl (e18.trans (by first | rfl | (simp [*]; done)))) ?_
        refine hK.out _ _ ⟨(by rw [ha.out]; exact putSel_upk 16 hb_ rfl rfl rfl), Q_B0⟩
      refine steps_cons ?_ ?_
      · rintro b a w' ⟨ha, Q_B0⟩ hb_ hon hoff
        refine ⟨_, rfl, fun K hK => ?_⟩
        have e18 : a.tmps[18]? = some (.bool false) := by rw [ha]; exact putSel_on (e := (14, 18, .bool false)) 14 rfl rfl (hon 14 (by kernel_rfl)) rfl
        replace ha := Aside0.mk ha
        have B0 := Aside0.mk Q_B0
        refine off_ (wanted_off rfl rfl rfl (e18.trans (by first | rfl | (simp [*]; done)))) ?_
        refine hK.out _ _ ⟨(by rw [ha.out]; exact putSel_upk 17 hb_ rfl rfl rfl), Q_B0⟩
      refine steps_cons ?_ ?_
      · rintro b a w' ⟨ha, Q_B0⟩ hb_ hon hoff
        refine ⟨_, rfl, fun K hK => ?_⟩
        have e18 : a.tmps[18]? = some (.bool false) := by rw [ha]; exact putSel_on (e := (14, 18, .bool false)) 14 rfl rfl (hon 14 (by kernel_rfl)) rfl
        have e21 : a.tmps[21]? = some (undef) := by rw [ha]; exact putSel_on (e := (17, 21, undef)) 17 rfl rfl (hon 17 (by kernel_rfl)) rfl
        replace ha := Aside0.mk ha
        have B0 := Aside0.mk Q_B0
        refine value_ (w1 := w') (v := .bool false) (by rfl) rfl ?_ ?_
        · go_simp
          (try simp only [i64_w])
          try rfl
        refine hK.out _ _ ⟨(by rw [ha.out]; exact putSel_upk 18 hb_ rfl rfl rfl), Q_B0⟩
      refine steps_cons ?_ ?_
      · rintro b a w' ⟨ha, Q_B0⟩ hb_ hon hoff
        refine ⟨_, rfl, fun K hK => ?_⟩
        have e22 : a.tmps[22]? = some (.bool false) := by rw [ha]; exact putSel_on (e := (18, 22, .bool false)) 18 rfl rfl (hon 18 (by kernel_rfl)) rfl
        replace ha := Aside0.mk ha
        have B0 := Aside0.mk Q_B0
        refine value_ (w1 := w') (v := .bool false) (by rfl) rfl ?_ ?_
        · go_simp
          (try simp only [i64_w])
          try rfl
        refine hK.out _ _ ⟨(by rw [ha.out]; exact putSel_upk 19 hb_ rfl rfl rfl), Q_B0⟩
      refine steps_cons ?_ ?_
      · rintro b a w' ⟨ha, Q_B0⟩ hb_ hon hoff
        refine ⟨_, rfl, fun K hK => ?_⟩
        have e23 : a.tmps[23]? = some (.bool false) := by rw [ha]; exact putSel_on (e := (19, 23, .bool false)) 19 rfl rfl (hon 19 (by kernel_rfl)) rfl
        replace ha := Aside0.mk ha
        have B0 := Aside0.mk Q_B0
        refine off_ (wanted_off rfl rfl rfl (e23.trans (by first | rfl | (simp [*]; done)))) ?_
        refine hK.out _ _ ⟨(by rw [ha.out]; exact putSel_upk 20 hb_ rfl rfl rfl), Q_B0⟩
      refine steps_cons ?_ ?_
      · rintro b a w' ⟨ha, Q_B0⟩ hb_ hon hoff
        refine ⟨_, rfl, fun K hK => ?_⟩
        have e23 : a.tmps[23]? = some (.bool false) := by rw [ha]; exact putSel_on (e := (19, 23, .bool false)) 19 rfl rfl (hon 19 (by kernel_rfl)) rfl
        replace ha := Aside0.mk ha
        have B0 := Aside0.mk Q_B0
        refine off_ (wanted_off rfl rfl rfl (e23.trans (by first | rfl | (simp [*]; done)))) ?_
        refine hK.out _ _ ⟨(by rw [ha.out]; exact putSel_upk 21 hb_ rfl rfl rfl), Q_B0⟩
      refine steps_cons ?_ ?_
      · rintro b a w' ⟨ha, Q_B0⟩ hb_ hon hoff
        refine ⟨_, rfl, fun K hK => ?_⟩
        have e23 : a.tmps[23]? = some (.bool false) := by rw [ha]; exact putSel_on (e := (19, 23, .bool false)) 19 rfl rfl (hon 19 (by kernel_rfl)) rfl
        replace ha := Aside0.mk ha
        have B0 := Aside0.mk Q_B0
        refine off_ (wanted_off rfl rfl rfl (e23.trans (by first | rfl | (simp [*]; done)))) ?_
        refine hK.out _ _ ⟨(by rw [ha.out]; exact putSel_upk 22 hb_ rfl rfl rfl), Q_B0⟩
      refine steps_cons ?_ ?_
      · rintro b a w' ⟨ha, Q_B0⟩ hb_ hon hoff
        refine ⟨_, rfl, fun K hK => ?_⟩
        have e23 : a.tmps[23]? = some (.bool false) := by rw [ha]; exact putSel_on (e := (19, 23, .bool false)) 19 rfl rfl (hon 19 (by kernel_rfl)) rfl
        replace ha := Aside0.mk ha
        have B0 := Aside0.mk Q_B0
        refine off_ (wanted_off rfl rfl rfl (e23.trans (by first | rfl | (simp [*]; done)))) ?_
        refine hK.out _ _ ⟨(by rw [ha.out]; exact putSel_upk 23 hb_ rfl rfl rfl), Q_B0⟩
      refine steps_cons ?_ ?_
      · rintro b a w' ⟨ha, Q_B0⟩ hb_ hon hoff
        refine ⟨_, rfl, fun K hK => ?_⟩
        have e23 : a.tmps[23]? = some (.bool false) := by rw [ha]; exact putSel_on (e := (19, 23, .bool false)) 19 rfl rfl (hon 19 (by kernel_rfl)) rfl
        replace ha := Aside0.mk ha
        have B0 := Aside0.mk Q_B0
        refine off_ (wanted_off rfl rfl rfl (e23.trans (by first | rfl | (simp [*]; done)))) ?_
        refine hK.out _ _ ⟨(by rw [ha.out]; exact putSel_upk 24 hb_ rfl rfl rfl), Q_B0⟩
      refine steps_cons ?_ ?_
      · rintro b a w' ⟨ha, Q_B0⟩ hb_ hon hoff
        refine ⟨_, rfl, fun K hK => ?_⟩
        have e23 : a.tmps[23]? = some (.bool false) := by rw [ha]; exact putSel_on (e := (19, 23, .bool false)) 19 rfl rfl (hon 19 (by kernel_rfl)) rfl
        replace ha := Aside0.mk ha
        have B0 := Aside0.mk Q_B0
        refine off_ (wanted_off rfl rfl rfl (e23.trans (by first | rfl | (simp [*]; done)))) ?_
        refine hK.out _ _ ⟨(by rw [ha.out]; exact putSel_upk 25 hb_ rfl rfl rfl), Q_B0⟩
      refine steps_cons ?_ ?_
      · rintro b a w' ⟨ha, Q_B0⟩ hb_ hon hoff
        refine ⟨_, rfl, fun K hK => ?_⟩
        have e23 : a.tmps[23]? = some (.bool false) := by rw [ha]; exact putSel_on (e := (19, 23, .bool false)) 19 rfl rfl (hon 19 (by kernel_rfl)) rfl
        have e29 : a.tmps[29]? = some (undef) := by rw [ha]; exact putSel_on (e := (25, 29, undef)) 25 rfl rfl (hon 25 (by kernel_rfl)) rfl
        replace ha := Aside0.mk ha
        have B0 := Aside0.mk Q_B0
        refine value_ (w1 := w') (v := .bool false) (by rfl) rfl ?_ ?_
        · go_simp
          (try simp only [i64_w])
          try rfl
        refine hK.out _ _ ⟨(by rw [ha.out]; exact putSel_upk 26 hb_ rfl rfl rfl), Q_B0⟩
      refine steps_cons ?_ ?_
      · rintro b a w' ⟨ha, Q_B0⟩ hb_ hon hoff
        refine ⟨_, rfl, fun K hK => ?_⟩
        have e30 : a.tmps[30]? = some (.bool false) := by rw [ha]; exact putSel_on (e := (26, 30, .bool false)) 26 rfl rfl (hon 26 (by kernel_rfl)) rfl
        replace ha := Aside0.mk ha
        have B0 := Aside0.mk Q_B0
        refine value_ (w1 := w') (v := .bool false) (by rfl) rfl ?_ ?_
        · go_simp
          (try simp only [i64_w])
          try rfl
        refine hK.out _ _ ⟨(by rw [ha.out]; exact putSel_upk 27 hb_ rfl rfl rfl), Q_B0⟩
      exact steps_nil
    rintro b a wl hall ⟨ha, Q_B0⟩
    clear B0
    have hb0_ := hall 0 (by kernel_rfl)
    have hb1_ := hall 1 (by kernel_rfl)
    have hb2_ := hall 2 (by kernel_rfl)
    have hb3_ := hall 3 (by kernel_rfl)
    have hb4_ := hall 4 (by kernel_rfl)
    have hb5_ := hall 5 (by kernel_rfl)
    have hb6_ := hall 6 (by kernel_rfl)
    have hb7_ := hall 7 (by kernel_rfl)
    have hb8_ := hall 8 (by kernel_rfl)
    have hb9_ := hall 9 (by kernel_rfl)
    have hb10_ := hall 10 (by kernel_rfl)
    have hb11_ := hall 11 (by kernel_rfl)
    have hb12_ := hall 12 (by kernel_rfl)
    have hb13_ := hall 13 (by kernel_rfl)
    have hb14_ := hall 14 (by kernel_rfl)
    have hb15_ := hall 15 (by kernel_rfl)
    have hb16_ := hall 16 (by kernel_rfl)
    have hb17_ := hall 17 (by kernel_rfl)
    have hb18_ := hall 18 (by kernel_rfl)
    have hb19_ := hall 19 (by kernel_rfl)
    have hb20_ := hall 20 (by kernel_rfl)
    have hb21_ := hall 21 (by kernel_rfl)
    have hb22_ := hall 22 (by kernel_rfl)
    have hb23_ := hall 23 (by kernel_rfl)
    have hb24_ := hall 24 (by kernel_rfl)
    have hb25_ := hall 25 (by kernel_rfl)
    have hb26_ := hall 26 (by kernel_rfl)
    have hb27_ := hall 27 (by kernel_rfl)
    subst ha
    simp only [putSel, hb0_, hb1_, hb2_, hb3_, hb4_, hb5_, hb6_, hb7_, hb8_, hb9_, hb10_, hb11_, hb12_, hb13_, hb14_, hb15_, hb16_, hb17_, hb18_, hb19_, hb20_, hb21_, hb22_, hb23_, hb24_, hb25_, hb26_, hb27_, if_true, Act.put, List.setIfInBounds_toArray, List.set_cons_zero, List.set_cons_succ]
    have B0 := Aside0.mk Q_B0
    clear Q_B0
    clear hall hb0_ hb1_ hb2_ hb3_ hb4_ hb5_ hb6_ hb7_ hb8_ hb9_ hb10_ hb11_ hb12_ hb13_ hb14_ hb15_ hb16_ hb17_ hb18_ hb19_ hb20_ hb21_ hb22_ hb23_ hb24_ hb25_ hb26_ hb27_
    go_wp2_with fail
    go_ret
    exact ⟨by rw [HM.out] <;> rfl, below_then HBB.out HBB.out.size B0.out⟩
  | true =>
    cases hq : (x.f0 == id) with
    | false =>
      have HQ := Aside0.mk hq
      have HM := Aside0.mk (show mineB true id I x = false from by simp [mineB, hq])
      refine start_ (n := 28) (S := fun w' => True) (ds := []) #[false, false, false, false, false, false, false, false, false, false, false, false, false, false, false, false, false, false, false, false, false, false, false, false, false, false, false, false] (by kernel_rfl) rfl rfl trivial (fun hHeld => ?_)
      refine with_tabW mine1.tab1 mine1.bits1 (fun HT_ HW_ => ?_)
      generalize W1.drew = wq at B0 HZC HZG HBB hHeld ⊢
      refine inv_at [0, 1, 2, 3, 4, 5, 6, 7, 8, 9, 10, 11, 12, 13, 14, 15, 16, 17, 18, 19, 20, 21, 22, 23, 24, 25, 26, 27] (fun a0_ b a w' => a = putSel a0_ b [(0, 4, .pointer (some ⟨bk, 0, none⟩)), (1, 5, .bool true), (2, 6, .bool true), (3, 7, .pointer (some ⟨g, 0, none⟩)), (4, 8, .int .u64 x.f0), (5, 9, .pointer (some ⟨bk, 2, none⟩)), (6, 10, .int .u64 id), (7, 11, .bool false), (8, 12, .bool false), (9, 13, .bool false), (10, 14, undef), (11, 15, undef), (12, 16, undef), (13, 17, .bool false), (14, 18, .bool false), (15, 19, undef), (16, 20, undef), (17, 21, undef), (18, 22, .bool false), (19, 23, .bool false), (20, 24, undef), (21, 25, undef), (22, 26, undef), (23, 27, undef), (24, 28, undef), (25, 29, undef), (26, 30, .bool false), (27, 3, .bool false)] ∧ (Below wq.heap.size wq w')) HT_.out HW_.out (by kernel_rfl) (by kernel_rfl) ?_ ?_ ?_
      · exact ⟨by simp only [putSel, Bool.false_eq_true, if_false], B0.out⟩
      · skip
        clear B0
        refine steps_cons ?_ ?_
        · rintro b a w' ⟨ha, Q_B0⟩ hb_ hon hoff
          refine ⟨_, rfl, fun K hK => ?_⟩
          have e1 : a.tmps[1]? = some (.pointer (some ⟨bk, 0, none⟩)) := by rw [ha]; exact (putSel_off rfl).trans rfl
          replace ha := Aside0.mk ha
          have B0 := Aside0.mk Q_B0
          refine value_ (w1 := w') (v := .pointer (some ⟨bk, 0, none⟩)) (by rfl) rfl ?_ ?_
          · go_simp
            (try simp only [i64_w])
            try rfl
          refine hK.out _ _ ⟨(by rw [ha.out]; exact putSel_upk 0 hb_ rfl rfl rfl), Q_B0⟩
        refine steps_cons ?_ ?_
        · rintro b a w' ⟨ha, Q_B0⟩ hb_ hon hoff
          refine ⟨_, rfl, fun K hK => ?_⟩
          have e4 : a.tmps[4]? = some (.pointer (some ⟨bk, 0, none⟩)) := by rw [ha]; exact putSel_on (e := (0, 4, .pointer (some ⟨bk, 0, none⟩))) 0 rfl rfl (hon 0 (by kernel_rfl)) rfl
          replace ha := Aside0.mk ha
          have B0 := Aside0.mk Q_B0
          have c_ := blk_cell (blk_below HZC.out B0.out) 0
          refine value_ (w1 := w') (v := .bool true) (by rfl) rfl ?_ ?_
          · go_simp
            (try simp only [i64_w])
            try rfl
          refine hK.out _ _ ⟨(by rw [ha.out]; exact putSel_upk 1 hb_ rfl rfl rfl), Q_B0⟩
        refine steps_cons ?_ ?_
        · rintro b a w' ⟨ha, Q_B0⟩ hb_ hon hoff
          refine ⟨_, rfl, fun K hK => ?_⟩
          have e5 : a.tmps[5]? = some (.bool true) := by rw [ha]; exact putSel_on (e := (1, 5, .bool true)) 1 rfl rfl (hon 1 (by kernel_rfl)) rfl
          replace ha := Aside0.mk ha
          have B0 := Aside0.mk Q_B0
          refine value_ (w1 := w') (v := .bool true) (by rfl) rfl ?_ ?_
          · go_simp
            (try simp only [i64_w])
            try rfl
          refine hK.out _ _ ⟨(by rw [ha.out]; exact putSel_upk 2 hb_ rfl rfl rfl), Q_B0⟩
        refine steps_cons ?_ ?_
        · rintro b a w' ⟨ha, Q_B0⟩ hb_ hon hoff
          refine ⟨_, rfl, fun K hK => ?_⟩
          have e2 : a.tmps[2]? = some (.pointer (some ⟨g, 0, none⟩)) := by rw [ha]; exact (putSel_off rfl).trans rfl
          have e6 : a.tmps[6]? = some (.bool true) := by rw [ha]; exact putSel_on (e := (2, 6, .bool true)) 2 rfl rfl (hon 2 (by kernel_rfl)) rfl
          replace ha := Aside0.mk ha
          have B0 := Aside0.mk Q_B0
          refine value_ (w1 := w') (v := .pointer (some ⟨g, 0, none⟩)) (wanted_on rfl rfl rfl (e6.trans (by first | rfl | (simp [*]; done)))) rfl ?_ ?_
          · go_simp
            (try simp only [i64_w])
            try rfl
          refine hK.out _ _ ⟨(by rw [ha.out]; exact putSel_upk 3 hb_ rfl rfl rfl), Q_B0⟩
        refine steps_cons ?_ ?_
        · rintro b a w' ⟨ha, Q_B0⟩ hb_ hon hoff
          refine ⟨_, rfl, fun K hK => ?_⟩
          have e7 : a.tmps[7]? = some (.pointer (some ⟨g, 0, none⟩)) := by rw [ha]; exact putSel_on (e := (3, 7, .pointer (some ⟨g, 0, none⟩))) 3 rfl rfl (hon 3 (by kernel_rfl)) rfl
          have e6 : a.tmps[6]? = some (.bool true) := by rw [ha]; exact putSel_on (e := (2, 6, .bool true)) 2 rfl rfl (hon 2 (by kernel_rfl)) rfl
          replace ha := Aside0.mk ha
          have B0 := Aside0.mk Q_B0
          have c_ := blk_cell (blk_below HZG.out B0.out) 0
          refine value_ (w1 := w') (v := .int .u64 x.f0) (wanted_on rfl rfl rfl (e6.trans (by first | rfl | (simp [*]; done)))) rfl ?_ ?_
          · go_simp
            (try simp only [i64_w])
            try rfl
          refine hK.out _ _ ⟨(by rw [ha.out]; exact putSel_upk 4 hb_ rfl rfl rfl), Q_B0⟩
        refine steps_cons ?_ ?_
        · rintro b a w' ⟨ha, Q_B0⟩ hb_ hon hoff
          refine ⟨_, rfl, fun K hK => ?_⟩
          have e1 : a.tmps[1]? = some (.pointer (some ⟨bk, 0, none⟩)) := by rw [ha]; exact (putSel_off rfl).trans rfl
          have e6 : a.tmps[6]? = some (.bool true) := by rw [ha]; exact putSel_on (e := (2, 6, .bool true)) 2 rfl rfl (hon 2 (by kernel_rfl)) rfl
          replace ha := Aside0.mk ha
          have B0 := Aside0.mk Q_B0
          refine value_ (w1 := w') (v := .pointer (some ⟨bk, 2, none⟩)) (wanted_on rfl rfl rfl (e6.trans (by first | rfl | (simp [*]; done)))) rfl ?_ ?_
          · go_simp
            (try simp only [i64_w])
            try rfl
          refine hK.out _ _ ⟨(by rw [ha.out]; exact putSel_upk 5 hb_ rfl rfl rfl), Q_B0⟩
        refine steps_cons ?_ ?_
        · rintro b a w' ⟨ha, Q_B0⟩ hb_ hon hoff
          refine ⟨_, rfl, fun K hK => ?_⟩
          have e9 : a.tmps[9]? = some (.pointer (some ⟨bk, 2, none⟩)) := by rw [ha]; exact putSel_on (e := (5, 9, .pointer (some ⟨bk, 2, none⟩))) 5 rfl rfl (hon 5 (by kernel_rfl)) rfl
          have e6 : a.tmps[6]? = some (.bool true) := by rw [ha]; exact putSel_on (e := (2, 6, .bool true)) 2 rfl rfl (hon 2 (by kernel_rfl)) rfl
          replace ha := Aside0.mk ha
          have B0 := Aside0.mk Q_B0
          have c_ := blk_cell (blk_below HZC.out B0.out) 2
          refine value_ (w1 := w') (v := .int .u64 id) (wanted_on rfl rfl rfl (e6.trans (by first | rfl | (simp [*]; done)))) rfl ?_ ?_
          · go_simp
            (try simp only [i64_w])
            try rfl
          refine hK.out _ _ ⟨(by rw [ha.out]; exact putSel_upk 6 hb_ rfl rfl rfl), Q_B0⟩
        refine steps_cons ?_ ?_
        · rintro b a w' ⟨ha, Q_B0⟩ hb_ hon hoff
          refine ⟨_, rfl, fun K hK => ?_⟩
          have e8 : a.tmps[8]? = some (.int .u64 x.f0) := by rw [ha]; exact putSel_on (e := (4, 8, .int .u64 x.f0)) 4 rfl rfl (hon 4 (by kernel_rfl)) rfl
          have e10 : a.tmps[10]? = some (.int .u64 id) := by rw [ha]; exact putSel_on (e := (6, 10, .int .u64 id)) 6 rfl rfl (hon 6 (by kernel_rfl)) rfl
          have e6 : a.tmps[6]? = some (.bool true) := by rw [ha]; exact putSel_on (e := (2, 6, .bool true)) 2 rfl rfl (hon 2 (by kernel_rfl)) rfl
          replace ha := Aside0.mk ha
          have B0 := Aside0.mk Q_B0
          have q_ := HQ.out
          refine value_ (w1 := w') (v := .bool false) (wanted_on rfl rfl rfl (e6.trans (by first | rfl | (simp [*]; done)))) rfl ?_ ?_
          · go_simp
            (try simp only [i64_w])
            try rfl
          refine hK.out _ _ ⟨(by rw [ha.out]; exact putSel_upk 7 hb_ rfl rfl rfl), Q_B0⟩
        refine steps_cons ?_ ?_
        · rintro b a w' ⟨ha, Q_B0⟩ hb_ hon hoff
          refine ⟨_, rfl, fun K hK => ?_⟩
          have e6 : a.tmps[6]? = some (.bool true) := by rw [ha]; exact putSel_on (e := (2, 6, .bool true)) 2 rfl rfl (hon 2 (by kernel_rfl)) rfl
          have e11 : a.tmps[11]? = some (.bool false) := by rw [ha]; exact putSel_on (e := (7, 11, .bool false)) 7 rfl rfl (hon 7 (by kernel_rfl)) rfl
          replace ha := Aside0.mk ha
          have B0 := Aside0.mk Q_B0
          refine value_ (w1 := w') (v := .bool false) (by rfl) rfl ?_ ?_
          · go_simp
            (try simp only [i64_w])
            try rfl
          refine hK.out _ _ ⟨(by rw [ha.out]; exact putSel_upk 8 hb_ rfl rfl rfl), Q_B0⟩
        refine steps_cons ?_ ?_
        · rintro b a w' ⟨ha, Q_B0⟩ hb_ hon hoff
          refine ⟨_, rfl, fun K hK => ?_⟩
          have e12 : a.tmps[12]? = some (.bool false) := by rw [ha]; exact putSel_on (e := (8, 12, .bool false)) 8 rfl rfl (hon 8 (by kernel_rfl)) rfl
          replace ha := Aside0.mk ha
          have B0 := Aside0.mk Q_B0
          refine value_ (w1 := w') (v := .bool false) (by rfl) rfl ?_ ?_
          · go_simp
            (try simp only [i64_w])
            try rfl
          refine hK.out _ _ ⟨(by rw [ha.out]; exact putSel_upk 9 hb_ rfl rfl rfl), Q_B0⟩
        refine steps_cons ?_ ?_
        · rintro b a w' ⟨ha, Q_B0⟩ hb_ hon hoff
          refine ⟨_, rfl, fun K hK => ?_⟩
          have e13 : a.tmps[13]? = some (.bool false) := by rw [ha]; exact putSel_on (e := (9, 13, .bool false)) 9 rfl rfl (hon 9 (by kernel_rfl)) rfl
          replace ha := Aside0.mk ha
          have B0 := Aside0.mk Q_B0
          refine off_ (wanted_off rfl rfl rfl (e13.trans (by first | rfl | (simp [*]; done)))) ?_
          refine hK.out _ _ ⟨(by rw [ha.out]; exact putSel_upk 10 hb_ rfl rfl rfl), Q_B0⟩
        refine steps_cons ?_ ?_
        · rintro b a w' ⟨ha, Q_B0⟩ hb_ hon hoff
          refine ⟨_, rfl, fun K hK => ?_⟩
          have e13 : a.tmps[13]? = some (.bool false) := by rw [ha]; exact putSel_on (e := (9, 13, .bool false)) 9 rfl rfl (hon 9 (by kernel_rfl)) rfl
          replace ha := Aside0.mk ha
          have B0 := Aside0.mk Q_B0
          refine off_ (wanted_off rfl rfl rfl (e13.trans (by first | rfl | (simp [*]; done)))) ?_
          refine hK.out _ _ ⟨(by rw [ha.out]; exact putSel_upk 11 hb_ rfl rfl rfl), Q_B0⟩
        refine steps_cons ?_ ?_
        · rintro b a w' ⟨ha, Q_B0⟩ hb_ hon hoff
          refine ⟨_, rfl, fun K hK => ?_⟩
          have e13 : a.tmps[13]? = some (.bool false) := by rw [ha]; exact putSel_on (e := (9, 13, .bool false)) 9 rfl rfl (hon 9 (by kernel_rfl)) rfl
          replace ha := Aside0.mk ha
          have B0 := Aside0.mk Q_B0
          refine off_ (wanted_off rfl rfl rfl (e13.trans (by first | rfl | (simp [*]; done)))) ?_
          refine hK.out _ _ ⟨(by rw [ha.out]; exact putSel_upk 12 hb_ rfl rfl rfl), Q_B0⟩
        refine steps_cons ?_ ?_
        · rintro b a w' ⟨ha, Q_B0⟩ hb_ hon hoff
          refine ⟨_, rfl, fun K hK => ?_⟩
          have e13 : a.tmps[13]? = some (.bool false) := by rw [ha]; exact putSel_on (e := (9, 13, .bool false)) 9 rfl rfl (hon 9 (by kernel_rfl)) rfl
          have e16 : a.tmps[16]? = some (undef) := by rw [ha]; exact putSel_on (e := (12, 16, undef)) 12 rfl rfl (hon 12 (by kernel_rfl)) rfl
          replace ha := Aside0.mk ha
          have B0 := Aside0.mk Q_B0
          refine value_ (w1 := w') (v := .bool false) (by rfl) rfl ?_ ?_
          · go_simp
            (try simp only [i64_w])
            try rfl
          refine hK.out _ _ ⟨(by rw [ha.out]; exact putSel_upk 13 hb_ rfl rfl rfl), Q_B0⟩
        refine steps_cons ?_ ?_
        · rintro b a w' ⟨ha, Q_B0⟩ hb_ hon hoff
          refine ⟨_, rfl, fun K hK => ?_⟩
          have e17 : a.tmps[17]? = some (.bool false) := by rw [ha]; exact putSel_on (e := (13, 17, .bool false)) 13 rfl rfl (hon 13 (by kernel_rfl)) rfl
          replace ha := Aside0.mk ha
          have B0 := Aside0.mk Q_B0
          refine value_ (w1 := w') (v := .bool false) (by rfl) rfl ?_ ?_
          · go_simp
            (try simp only [i64_w])
            try rfl
          refine hK.out _ _ ⟨(by rw [ha.out]; exact putSel_upk 14 hb_ rfl rfl rfl), Q_B0⟩
        refine steps_cons ?_ ?_
        · rintro b a w' ⟨ha, Q_B0⟩ hb_ hon hoff
          refine ⟨_, rfl, fun K hK => ?_⟩
          have e18 : a.tmps[18]? = some (.bool false) := by rw [ha]; exact putSel_on (e := (14, 18, .bool false)) 14 rfl rfl (hon 14 (by kernel_rfl)) rfl
          replace ha := Aside0.mk ha
          have B0 := Aside0.mk Q_B0
          refine off_ (wanted_off rfl rfl rfl (e18.trans (by first | rfl | (simp [*]; done)))) ?_
          refine hK.out _ _ ⟨(by rw [ha.out]; exact putSel_upk 15 hb_ rfl rfl rfl), Q_B0⟩
        refine steps_cons ?_ ?_
        · rintro b a w' ⟨ha, Q_B0⟩ hb_ hon hoff
          refine ⟨_, rfl, fun K hK => ?_⟩
          have e18 : a.tmps[18]? = some (.bool false) := by rw [ha]; exact putSel_on (e := (14, 18, .bool false)) 14 rfl rfl (hon 14 (by kernel_rfl)) rfl
          replace ha := Aside0.mk ha
          have B0 := Aside0.mk Q_B0
          refine off_ (wanted_off rfl rfl rfl (e18.trans (by first | rfl | (simp [*]; done)))) ?_
          refine hK.out _ _ ⟨(by rw [ha.out]; exact putSel_upk 16 hb_ rfl rfl rfl), Q_B0⟩
        refine steps_cons ?_ ?_
        · rintro b a w' ⟨ha, Q_B0⟩ hb_ hon hoff
          refine ⟨_, rfl, fun K hK => ?_⟩
          have e18 : a.tmps[18]? = some (.bool false) := by rw [ha]; exact putSel_on (e := (14, 18, .bool false)) 14 rfl rfl (hon 14 (by kernel_rfl)) rfl
          replace ha := Aside0.mk ha
          have B0 := Aside0.mk Q_B0
          refine off_ (wanted_off rfl rfl rfl (e18.trans (by first | rfl | (simp [*]; done)))) ?_
          refine hK.out _ _ ⟨(by rw [ha.out]; exact putSel_upk 17 hb_ rfl rfl rfl), Q_B0⟩
        refine steps_cons ?_ ?_
        · rintro b a w' ⟨ha, Q_B0⟩ hb_ hon hoff
          refine ⟨_, rfl, fun K hK => ?_⟩
          have e18 : a.tmps[18]? = some (.bool false) := by rw [ha]; exact putSel_on (e := (14, 18, .bool false)) 14 rfl rfl (hon 14 (by kernel_rfl)) rfl
          have e21 : a.tmps[21]? = some (undef) := by rw [ha]; exact putSel_on (e := (17, 21, undef)) 17 rfl rfl (hon 17 (by kernel_rfl)) rfl
          replace ha := Aside0.mk ha
          have B0 := Aside0.mk Q_B0
          refine value_ (w1 := w') (v := .bool false) (by rfl) rfl ?_ ?_
          · go_simp
            (try simp only [i64_w])
            try rfl
          refine hK.out _ _ ⟨(by rw [ha.out]; exact putSel_upk 18 hb_ rfl rfl rfl), Q_B0⟩
        refine steps_cons ?_ ?_
        · rintro b a w' ⟨ha, Q_B0⟩ hb_ hon hoff
          refine ⟨_, rfl, fun K hK => ?_⟩
          have e22 : a.tmps[22]? = some (.bool false) := by rw [ha]; exact putSel_on (e := (18, 22, .bool false)) 18 rfl rfl (hon 18 (by kernel_rfl)) rfl
          replace ha := Aside0.mk ha
          have B0 := Aside0.mk Q_B0
          refine value_ (w1 := w') (v := .bool false) (by rfl) rfl ?_ ?_
          · go_simp
            (try simp only [i64_w])
            try rfl
          refine hK.out _ _ ⟨(by rw [ha.out]; exact putSel_upk 19 hb_ rfl rfl rfl), Q_B0⟩
        refine steps_cons ?_ ?_
        · rintro b a w' ⟨ha, Q_B0⟩ hb_ hon hoff
          refine ⟨_, rfl, fun K hK => ?_⟩
          have e23 : a.tmps[23]? = some (.bool false) := by rw [ha]; exact putSel_on (e := (19, 23, .bool false)) 19 rfl rfl (hon 19 (by kernel_rfl)) rfl
          replace ha := Aside0.mk ha
          have B0 := Aside0.mk Q_B0
          refine off_ (wanted_off rfl rfl rfl (e23.trans (by first | rfl | (simp [*]; done)))) ?_
          refine hK.out _ _ ⟨(by rw [ha.out]; exact putSel_upk 20 hb_ rfl rfl rfl), Q_B0⟩
        refine steps_cons ?_ ?_
        · rintro b a w' ⟨ha, Q_B0⟩ hb_ hon hoff
          refine ⟨_, rfl, fun K hK => ?_⟩
          have e23 : a.tmps[23]? = some (.bool false) := by rw [ha]; exact putSel_on (e := (19, 23, .bool false)) 19 rfl rfl (hon 19 (by kernel_rfl)) rfl
          replace ha := Aside0.mk ha
          have B0 := Aside0.mk Q_B0
          refine off_ (wanted_off rfl rfl rfl (e23.trans (by first | rfl | (simp [*]; done)))) ?_
          refine hK.out _ _ ⟨(by rw [ha.out]; exact putSel_upk 21 hb_ rfl rfl rfl), Q_B0⟩
        refine steps_cons ?_ ?_
        · rintro b a w' ⟨ha, Q_B0⟩ hb_ hon hoff
          refine ⟨_, rfl, fun K hK => ?_⟩
          have e23 : a.tmps[23]? = some (.bool false) := by rw [ha]; exact putSel_on (e := (19, 23, .bool false)) 19 rfl rfl (hon 19 (by kernel_rfl)) rfl
          replace ha := Aside0.mk ha
          have B0 := Aside0.mk Q_B0
          refine off_ (wanted_off rfl rfl rfl (e23.trans (by first | rfl | (simp [*]; done)))) ?_
          refine hK.out _ _ ⟨(by rw [ha.out]; exact putSel_upk 22 hb_ rfl rfl rfl), Q_B0⟩
        refine steps_cons ?_ ?_
        · rintro b a w' ⟨ha, Q_B0⟩ hb_ hon hoff
          refine ⟨_, rfl, fun K hK => ?_⟩
          have e23 : a.tmps[23]? = some (.bool false) := by rw [ha]; exact putSel_on (e := (19, 23, .bool false)) 19 rfl rfl (hon 19 (by kernel_rfl)) rfl
          replace ha := Aside0.mk ha
          have B0 := Aside0.mk Q_B0
          refine off_ (wanted_off rfl rfl rfl (e23.trans (by first | rfl | (simp [*]; done)))) ?_
          refine hK.out _ _ ⟨(by rw [ha.out]; exact putSel_upk 23 hb_ rfl rfl rfl), Q_B0⟩
        refine steps_cons ?_ ?_
        · rintro b a w' ⟨ha, Q_B0⟩ hb_ hon hoff
          refine ⟨_, rfl, fun K hK => ?_⟩
          have e23 : a.tmps[23]? = some (.bool false) := by rw [ha]; exact putSel_on (e := (19, 23, .bool false)) 19 rfl rfl (hon 19 (by kernel_rfl)) rfl
          replace ha := Aside0.mk ha
          have B0 := Aside0.mk Q_B0
          refine off_ (wanted_off rfl rfl rfl (e23.trans (by first | rfl | (simp [*]; done)))) ?_
          refine hK.out _ _ ⟨(by rw [ha.out]; exact putSel_upk 24 hb_ rfl rfl rfl), Q_B0⟩
        refine steps_cons ?_ ?_
        · rintro b a w' ⟨ha, Q_B0⟩ hb_ hon hoff
          refine ⟨_, rfl, fun K hK => ?_⟩
          have e23 : a.tmps[23]? = some (.bool false) := by rw [ha]; exact putSel_on (e := (19, 23, .bool false)) 19 rfl rfl (hon 19 (by kernel_rfl)) rfl
          replace ha := Aside0.mk ha
          have B0 := Aside0.mk Q_B0
          refine off_ (wanted_off rfl rfl rfl (e23.trans (by first | rfl | (simp [*]; done)))) ?_
          refine hK.out _ _ ⟨(by rw [ha.out]; exact putSel_upk 25 hb_ rfl rfl rfl), Q_B0⟩
        refine steps_cons ?_ ?_
        · rintro b a w' ⟨ha, Q_B0⟩ hb_ hon hoff
          refine ⟨_, rfl, fun K hK => ?_⟩
          have e23 : a.tmps[23]? = some (.bool false) := by rw [ha]; exact putSel_on (e := (19, 23, .bool false)) 19 rfl rfl (hon 19 (by kernel_rfl)) rfl
          have e29 : a.tmps[29]? = some (undef) := by rw [ha]; exact putSel_on (e := (25, 29, undef)) 25 rfl rfl (hon 25 (by kernel_rfl)) rfl
          replace ha := Aside0.mk ha
          have B0 := Aside0.mk Q_B0
          refine value_ (w1 := w') (v := .bool false) (by rfl) rfl ?_ ?_
          · go_simp
            (try simp only [i64_w])
            try rfl
          refine hK.out _ _ ⟨(by rw [ha.out]; exact putSel_upk 26 hb_ rfl rfl rfl), Q_B0⟩
        refine steps_cons ?_ ?_
        · rintro b a w' ⟨ha, Q_B0⟩ hb_ hon hoff
          refine ⟨_, rfl, fun K hK => ?_⟩
          have e30 : a.tmps[30]? = some (.bool false) := by rw [ha]; exact putSel_on (e := (26, 30, .bool false)) 26 rfl rfl (hon 26 (by kernel_rfl)) rfl
          replace ha := Aside0.mk ha
          have B0 := Aside0.mk Q_B0
          refine value_ (w1 := w') (v := .bool false) (by rfl) rfl ?_ ?_
          · go_simp
            (try simp only [i64_w])
            try rfl
          refine hK.out _ _ ⟨(by rw [ha.out]; exact putSel_upk 27 hb_ rfl rfl rfl), Q_B0⟩
        exact steps_nil
      rintro b a wl hall ⟨ha, Q_B0⟩
      clear B0
      have hb0_ := hall 0 (by kernel_rfl)
      have hb1_ := hall 1 (by kernel_rfl)
      have hb2_ := hall 2 (by kernel_rfl)
      have hb3_ := hall 3 (by kernel_rfl)
      have hb4_ := hall 4 (by kernel_rfl)
      have hb5_ := hall 5 (by kernel_rfl)
      have hb6_ := hall 6 (by kernel_rfl)
      have hb7_ := hall 7 (by kernel_rfl)
      have hb8_ := hall 8 (by kernel_rfl)
      have hb9_ := hall 9 (by kernel_rfl)
      have hb10_ := hall 10 (by kernel_rfl)
      have hb11_ := hall 11 (by kernel_rfl)
      have hb12_ := hall 12 (by kernel_rfl)
      have hb13_ := hall 13 (by kernel_rfl)
      have hb14_ := hall 14 (by kernel_rfl)
      have hb15_ := hall 15 (by kernel_rfl)
      have hb16_ := hall 16 (by kernel_rfl)
      have hb17_ := hall 17 (by kernel_rfl)
      have hb18_ := hall 18 (by kernel_rfl)
      have hb19_ := hall 19 (by kernel_rfl)
      have hb20_ := hall 20 (by kernel_rfl)
      have hb21_ := hall 21 (by kernel_rfl)
      have hb22_ := hall 22 (by kernel_rfl)
      have hb23_ := hall 23 (by kernel_rfl)
      have hb24_ := hall 24 (by kernel_rfl)
      have hb25_ := hall 25 (by kernel_rfl)
      have hb26_ := hall 26 (by kernel_rfl)
      have hb27_ := hall 27 (by kernel_rfl)
      subst ha
      simp only [putSel, hb0_, hb1_, hb2_, hb3_, hb4_, hb5_, hb6_, hb7_, hb8_, hb9_, hb10_, hb11_, hb12_, hb13_, hb14_, hb15_, hb16_, hb17_, hb18_, hb19_, hb20_, hb21_, hb22_, hb23_, hb24_, hb25_, hb26_, hb27_, if_true, Act.put, List.setIfInBounds_toArray, List.set_cons_zero, List.set_cons_succ]
      have B0 := Aside0.mk Q_B0
      clear Q_B0
      clear hall hb0_ hb1_ hb2_ hb3_ hb4_ hb5_ hb6_ hb7_ hb8_ hb9_ hb10_ hb11_ hb12_ hb13_ hb14_ hb15_ hb16_ hb17_ hb18_ hb19_ hb20_ hb21_ hb22_ hb23_ hb24_ hb25_ hb26_ hb27_
      go_wp2_with fail
      go_ret
      exact ⟨by rw [HM.out] <;> rfl, below_then HBB.out HBB.out.size B0.out⟩
    | true =>
      have HQ := Aside0.mk hq
      cases hp : x.f5 with
      | true =>
        rw [hp] at HZG
        have HM := Aside0.mk (show mineB true id I x = false from by simp [mineB, hp])
        refine start_ (n := 28) (S := fun w' => True) (ds := []) #[false, false, false, false, false, false, false, false, false, false, false, false, false, false, false, false, false, false, false, false, false, false, false, false, false, false, false, false] (by kernel_rfl) rfl rfl trivial (fun hHeld => ?_)
        refine with_tabW mine1.tab1 mine1.bits1 (fun HT_ HW_ => ?_)
        generalize W1.drew = wq at B0 HZC HZG HBB hHeld ⊢
        refine inv_at [0, 1, 2, 3, 4, 5, 6, 7, 8, 9, 10, 11, 12, 13, 14, 15, 16, 17, 18, 19, 20, 21, 22, 23, 24, 25, 26, 27] (fun a0_ b a w' => a = putSel a0_ b [(0, 4, .pointer (some ⟨bk, 0, none⟩)), (1, 5, .bool true), (2, 6, .bool true), (3, 7, .pointer (some ⟨g, 0, none⟩)), (4, 8, .int .u64 x.f0), (5, 9, .pointer (some ⟨bk, 2, none⟩)), (6, 10, .int .u64 id), (7, 11, .bool true), (8, 12, .bool true), (9, 13, .bool true), (10, 14, .pointer (some ⟨g, 5, none⟩)), (11, 15, .bool true), (12, 16, .bool false), (13, 17, .bool false), (14, 18, .bool false), (15, 19, undef), (16, 20, undef), (17, 21, undef), (18, 22, .bool false), (19, 23, .bool false), (20, 24, undef), (21, 25, undef), (22, 26, undef), (23, 27, undef), (24, 28, undef), (25, 29, undef), (26, 30, .bool false), (27, 3, .bool false)] ∧ (Below wq.heap.size wq w')) HT_.out HW_.out (by kernel_rfl) (by kernel_rfl) ?_ ?_ ?_
        · exact ⟨by simp only [putSel, Bool.false_eq_true, if_false], B0.out⟩
        · skip
          clear B0
          refine steps_cons ?_ ?_
          · rintro b a w' ⟨ha, Q_B0⟩ hb_ hon hoff
            refine ⟨_, rfl, fun K hK => ?_⟩
            have e1 : a.tmps[1]? = some (.pointer (some ⟨bk, 0, none⟩)) := by rw [ha]; exact (putSel_off rfl).trans rfl
            replace ha := Aside0.mk ha
            have B0 := Aside0.mk Q_B0
            refine value_ (w1 := w') (v := .pointer (some ⟨bk, 0, none⟩)) (by rfl) rfl ?_ ?_
            · go_simp
              (try simp only [i64_w])
              try rfl
            refine hK.out _ _ ⟨(by rw [ha.out]; exact putSel_upk 0 hb_ rfl rfl rfl), Q_B0⟩
          refine steps_cons ?_ ?_
          · rintro b a w' ⟨ha, Q_B0⟩ hb_ hon hoff
            refine ⟨_, rfl, fun K hK => ?_⟩
            have e4 : a.tmps[4]? = some (.pointer (some ⟨bk, 0, none⟩)) := by rw [ha]; exact putSel_on (e := (0, 4, .pointer (some ⟨bk, 0, none⟩))) 0 rfl rfl (hon 0 (by kernel_rfl)) rfl
            replace ha := Aside0.mk ha
            have B0 := Aside0.mk Q_B0
            have c_ := blk_cell (blk_below HZC.out B0.out) 0
            refine value_ (w1 := w') (v := .bool true) (by rfl) rfl ?_ ?_
            · go_simp
              (try simp only [i64_w])
              try rfl
            refine hK.out _ _ ⟨(by rw [ha.out]; exact putSel_upk 1 hb_ rfl rfl rfl), Q_B0⟩
          refine steps_cons ?_ ?_
          · rintro b a w' ⟨ha, Q_B0⟩ hb_ hon hoff
            refine ⟨_, rfl, fun K hK => ?_⟩
            have e5 : a.tmps[5]? = some (.bool true) := by rw [ha]; exact putSel_on (e := (1, 5, .bool true)) 1 rfl rfl (hon 1 (by kernel_rfl)) rfl
            replace ha := Aside0.mk ha
            have B0 := Aside0.mk Q_B0
            refine value_ (w1 := w') (v := .bool true) (by rfl) rfl ?_ ?_
            · go_simp
              (try simp only [i64_w])
              try rfl
            refine hK.out _ _ ⟨(by rw [ha.out]; exact putSel_upk 2 hb_ rfl rfl rfl), Q_B0⟩
          refine steps_cons ?_ ?_
          · rintro b a w' ⟨ha, Q_B0⟩ hb_ hon hoff
            refine ⟨_, rfl, fun K hK => ?_⟩
            have e2 : a.tmps[2]? = some (.pointer (some ⟨g, 0, none⟩)) := by rw [ha]; exact (putSel_off rfl).trans rfl
            have e6 : a.tmps[6]? = some (.bool true) := by rw [ha]; exact putSel_on (e := (2, 6, .bool true)) 2 rfl rfl (hon 2 (by kernel_rfl)) rfl
            replace ha := Aside0.mk ha
            have B0 := Aside0.mk Q_B0
            refine value_ (w1 := w') (v := .pointer (some ⟨g, 0, none⟩)) (wanted_on rfl rfl rfl (e6.trans (by first | rfl | (simp [*]; done)))) rfl ?_ ?_
            · go_simp
              (try simp only [i64_w])
              try rfl
            refine hK.out _ _ ⟨(by rw [ha.out]; exact putSel_upk 3 hb_ rfl rfl rfl), Q_B0⟩
          refine steps_cons ?_ ?_
          · rintro b a w' ⟨ha, Q_B0⟩ hb_ hon hoff
            refine ⟨_, rfl, fun K hK => ?_⟩
            have e7 : a.tmps[7]? = some (.pointer (some ⟨g, 0, none⟩)) := by rw [ha]; exact putSel_on (e := (3, 7, .pointer (some ⟨g, 0, none⟩))) 3 rfl rfl (hon 3 (by kernel_rfl)) rfl
            have e6 : a.tmps[6]? = some (.bool true) := by rw [ha]; exact putSel_on (e := (2, 6, .bool true)) 2 rfl rfl (hon 2 (by kernel_rfl)) rfl
            replace ha := Aside0.mk ha
            have B0 := Aside0.mk Q_B0
            have c_ := blk_cell (blk_below HZG.out B0.out) 0
            refine value_ (w1 := w') (v := .int .u64 x.f0) (wanted_on rfl rfl rfl (e6.trans (by first | rfl | (simp [*]; done)))) rfl ?_ ?_
            · go_simp
              (try simp only [i64_w])
              try rfl
            refine hK.out _ _ ⟨(by rw [ha.out]; exact putSel_upk 4 hb_ rfl rfl rfl), Q_B0⟩
          refine steps_cons ?_ ?_
          · rintro b a w' ⟨ha, Q_B0⟩ hb_ hon hoff
            refine ⟨_, rfl, fun K hK => ?_⟩
            have e1 : a.tmps[1]? = some (.pointer (some ⟨bk, 0, none⟩)) := by rw [ha]; exact (putSel_off rfl).trans rfl
            have e6 : a.tmps[6]? = some (.bool true) := by rw [ha]; exact putSel_on (e := (2, 6, .bool true)) 2 rfl rfl (hon 2 (by kernel_rfl)) rfl
            replace ha := Aside0.mk ha
            have B0 := Aside0.mk Q_B0
            refine value_ (w1 := w') (v := .pointer (some ⟨bk, 2, none⟩)) (wanted_on rfl rfl rfl (e6.trans (by first | rfl | (simp [*]; done)))) rfl ?_ ?_
            · go_simp
              (try simp only [i64_w])
              try rfl
            refine hK.out _ _ ⟨(by rw [ha.out]; exact putSel_upk 5 hb_ rfl rfl rfl), Q_B0⟩
          refine steps_cons ?_ ?_
          · rintro b a w' ⟨ha, Q_B0⟩ hb_ hon hoff
            refine ⟨_, rfl, fun K hK => ?_⟩
            have e9 : a.tmps[9]? = some (.pointer (some ⟨bk, 2, none⟩)) := by rw [ha]; exact putSel_on (e := (5, 9, .pointer (some ⟨bk, 2, none⟩))) 5 rfl rfl (hon 5 (by kernel_rfl)) rfl
            have e6 : a.tmps[6]? = some (.bool true) := by rw [ha]; exact putSel_on (e := (2, 6, .bool true)) 2 rfl rfl (hon 2 (by kernel_rfl)) rfl
            replace ha := Aside0.mk ha
            have B0 := Aside0.mk Q_B0
            have c_ := blk_cell (blk_below HZC.out B0.out) 2
            refine value_ (w1 := w') (v := .int .u64 id) (wanted_on rfl rfl rfl (e6.trans (by first | rfl | (simp [*]; done)))) rfl ?_ ?_
            · go_simp
              (try simp only [i64_w])
              try rfl
            refine hK.out _ _ ⟨(by rw [ha.out]; exact putSel_upk 6 hb_ rfl rfl rfl), Q_B0⟩
          refine steps_cons ?_ ?_
          · rintro b a w' ⟨ha, Q_B0⟩ hb_ hon hoff
            refine ⟨_, rfl, fun K hK => ?_⟩
            have e8 : a.tmps[8]? = some (.int .u64 x.f0) := by rw [ha]; exact putSel_on (e := (4, 8, .int .u64 x.f0)) 4 rfl rfl (hon 4 (by kernel_rfl)) rfl
            have e10 : a.tmps[10]? = some (.int .u64 id) := by rw [ha]; exact putSel_on (e := (6, 10, .int .u64 id)) 6 rfl rfl (hon 6 (by kernel_rfl)) rfl
            have e6 : a.tmps[6]? = some (.bool true) := by rw [ha]; exact putSel_on (e := (2, 6, .bool true)) 2 rfl rfl (hon 2 (by kernel_rfl)) rfl
            replace ha := Aside0.mk ha
            have B0 := Aside0.mk Q_B0
            have q_ := HQ.out
            refine value_ (w1 := w') (v := .bool true) (wanted_on rfl rfl rfl (e6.trans (by first | rfl | (simp [*]; done)))) rfl ?_ ?_
            · go_simp
              (try simp only [i64_w])
              try rfl
            refine hK.out _ _ ⟨(by rw [ha.out]; exact putSel_upk 7 hb_ rfl rfl rfl), Q_B0⟩
          refine steps_cons ?_ ?_
          · rintro b a w' ⟨ha, Q_B0⟩ hb_ hon hoff
            refine ⟨_, rfl, fun K hK => ?_⟩
            have e6 : a.tmps[6]? = some (.bool true) := by rw [ha]; exact putSel_on (e := (2, 6, .bool true)) 2 rfl rfl (hon 2 (by kernel_rfl)) rfl
            have e11 : a.tmps[11]? = some (.bool true) := by rw [ha]; exact putSel_on (e := (7, 11, .bool true)) 7 rfl rfl (hon 7 (by kernel_rfl)) rfl
            replace ha := Aside0.mk ha
            have B0 := Aside0.mk Q_B0
            refine value_ (w1 := w') (v := .bool true) (by rfl) rfl ?_ ?_
            · go_simp
              (try simp only [i64_w])
              try rfl
            refine hK.out _ _ ⟨(by rw [ha.out]; exact putSel_upk 8 hb_ rfl rfl rfl), Q_B0⟩
          refine steps_cons ?_ ?_
          · rintro b a w' ⟨ha, Q_B0⟩ hb_ hon hoff
            refine ⟨_, rfl, fun K hK => ?_⟩
            have e12 : a.tmps[12]? = some (.bool true) := by rw [ha]; exact putSel_on (e := (8, 12, .bool true)) 8 rfl rfl (hon 8 (by kernel_rfl)) rfl
            replace ha := Aside0.mk ha
            have B0 := Aside0.mk Q_B0
            refine value_ (w1 := w') (v := .bool true) (by rfl) rfl ?_ ?_
            · go_simp
              (try simp only [i64_w])
              try rfl
            refine hK.out _ _ ⟨(by rw [ha.out]; exact putSel_upk 9 hb_ rfl rfl rfl), Q_B0⟩
          refine steps_cons ?_ ?_
          · rintro b a w' ⟨ha, Q_B0⟩ hb_ hon hoff
            refine ⟨_, rfl, fun K hK => ?_⟩
            have e2 : a.tmps[2]? = some (.pointer (some ⟨g, 0, none⟩)) := by rw [ha]; exact (putSel_off rfl).trans rfl
            have e13 : a.tmps[13]? = some (.bool true) := by rw [ha]; exact putSel_on (e := (9, 13, .bool true)) 9 rfl rfl (hon 9 (by kernel_rfl)) rfl
            replace ha := Aside0.mk ha
            have B0 := Aside0.mk Q_B0
            refine value_ (w1 := w') (v := .pointer (some ⟨g, 5, none⟩)) (wanted_on rfl rfl rfl (e13.trans (by first | rfl | (simp [*]; done)))) rfl ?_ ?_
            · go_simp
              (try simp only [i64_w])
              try rfl
            refine hK.out _ _ ⟨(by rw [ha.out]; exact putSel_upk 10 hb_ rfl rfl rfl), Q_B0⟩
          refine steps_cons ?_ ?_
          · rintro b a w' ⟨ha, Q_B0⟩ hb_ hon hoff
            refine ⟨_, rfl, fun K hK => ?_⟩
            have e14 : a.tmps[14]? = some (.pointer (some ⟨g, 5, none⟩)) := by rw [ha]; exact putSel_on (e := (10, 14, .pointer (some ⟨g, 5, none⟩))) 10 rfl rfl (hon 10 (by kernel_rfl)) rfl
            have e13 : a.tmps[13]? = some (.bool true) := by rw [ha]; exact putSel_on (e := (9, 13, .bool true)) 9 rfl rfl (hon 9 (by kernel_rfl)) rfl
            replace ha := Aside0.mk ha
            have B0 := Aside0.mk Q_B0
            have c_ := blk_cell (blk_below HZG.out B0.out) 5
            refine value_ (w1 := w') (v := .bool true) (wanted_on rfl rfl rfl (e13.trans (by first | rfl | (simp [*]; done)))) rfl ?_ ?_
            · go_simp
              (try simp only [i64_w])
              try rfl
            refine hK.out _ _ ⟨(by rw [ha.out]; exact putSel_upk 11 hb_ rfl rfl rfl), Q_B0⟩
          refine steps_cons ?_ ?_
          · rintro b a w' ⟨ha, Q_B0⟩ hb_ hon hoff
            refine ⟨_, rfl, fun K hK => ?_⟩
            have e15 : a.tmps[15]? = some (.bool true) := by rw [ha]; exact putSel_on (e := (11, 15, .bool true)) 11 rfl rfl (hon 11 (by kernel_rfl)) rfl
            have e13 : a.tmps[13]? = some (.bool true) := by rw [ha]; exact putSel_on (e := (9, 13, .bool true)) 9 rfl rfl (hon 9 (by kernel_rfl)) rfl
            replace ha := Aside0.mk ha
            have B0 := Aside0.mk Q_B0
            refine value_ (w1 := w') (v := .bool false) (wanted_on rfl rfl rfl (e13.trans (by first | rfl | (simp [*]; done)))) rfl ?_ ?_
            · go_simp
              (try simp only [i64_w])
              try rfl
            refine hK.out _ _ ⟨(by rw [ha.out]; exact putSel_upk 12 hb_ rfl rfl rfl), Q_B0⟩
          refine steps_cons ?_ ?_
          · rintro b a w' ⟨ha, Q_B0⟩ hb_ hon hoff
            refine ⟨_, rfl, fun K hK => ?_⟩
            have e13 : a.tmps[13]? = some (.bool true) := by rw [ha]; exact putSel_on (e := (9, 13, .bool true)) 9 rfl rfl (hon 9 (by kernel_rfl)) rfl
            have e16 : a.tmps[16]? = some (.bool false) := by rw [ha]; exact putSel_on (e := (12, 16, .bool false)) 12 rfl rfl (hon 12 (by kernel_rfl)) rfl
            replace ha := Aside0.mk ha
            have B0 := Aside0.mk Q_B0
            refine value_ (w1 := w') (v := .bool false) (by rfl) rfl ?_ ?_
            · go_simp
              (try simp only [i64_w])
              try rfl
            refine hK.out _ _ ⟨(by rw [ha.out]; exact putSel_upk 13 hb_ rfl rfl rfl), Q_B0⟩
          refine steps_cons ?_ ?_
          · rintro b a w' ⟨ha, Q_B0⟩ hb_ hon hoff
            refine ⟨_, rfl, fun K hK => ?_⟩
            have e17 : a.tmps[17]? = some (.bool false) := by rw [ha]; exact putSel_on (e := (13, 17, .bool false)) 13 rfl rfl (hon 13 (by kernel_rfl)) rfl
            replace ha := Aside0.mk ha
            have B0 := Aside0.mk Q_B0
            refine value_ (w1 := w') (v := .bool false) (by rfl) rfl ?_ ?_
            · go_simp
              (try simp only [i64_w])
              try rfl
            refine hK.out _ _ ⟨(by rw [ha.out]; exact putSel_upk 14 hb_ rfl rfl rfl), Q_B0⟩
          refine steps_cons ?_ ?_
          · rintro b a w' ⟨ha, Q_B0⟩ hb_ hon hoff
            refine ⟨_, rfl, fun K hK => ?_⟩
            have e18 : a.tmps[18]? = some (.bool false) := by rw [ha]; exact putSel_on (e := (14, 18, .bool false)) 14 rfl rfl (hon 14 (by kernel_rfl)) rfl
            replace ha := Aside0.mk ha
            have B0 := Aside0.mk Q_B0
            refine off_ (wanted_off rfl rfl rfl (e18.trans (by first | rfl | (simp [*]; done)))) ?_
            refine hK.out _ _ ⟨(by rw [ha.out]; exact putSel_upk 15 hb_ rfl rfl rfl), Q_B0⟩
          refine steps_cons ?_ ?_
          · rintro b a w' ⟨ha, Q_B0⟩ hb_ hon hoff
            refine ⟨_, rfl, fun K hK => ?_⟩
            have e18 : a.tmps[18]? = some (.bool false) := by rw [ha]; exact putSel_on (e := (14, 18, .bool false)) 14 rfl rfl (hon 14 (by kernel_rfl)) rfl
            replace ha := Aside0.mk ha
            have B0 := Aside0.mk Q_B0
            refine off_ (wanted_off rfl rfl rfl (e18.trans (by first | rfl | (simp [*]; done)))) ?_
            refine hK.out _ _ ⟨(by rw [ha.out]; exact putSel_upk 16 hb_ rfl rfl rfl), Q_B0⟩
          refine steps_cons ?_ ?_
          · rintro b a w' ⟨ha, Q_B0⟩ hb_ hon hoff
            refine ⟨_, rfl, fun K hK => ?_⟩
            have e18 : a.tmps[18]? = some (.bool false) := by rw [ha]; exact putSel_on (e := (14, 18, .bool false)) 14 rfl rfl (hon 14 (by kernel_rfl)) rfl
            replace ha := Aside0.mk ha
            have B0 := Aside0.mk Q_B0
            refine off_ (wanted_off rfl rfl rfl (e18.trans (by first | rfl | (simp [*]; done)))) ?_
            refine hK.out _ _ ⟨(by rw [ha.out]; exact putSel_upk 17 hb_ rfl rfl rfl), Q_B0⟩
          refine steps_cons ?_ ?_
          · rintro b a w' ⟨ha, Q_B0⟩ hb_ hon hoff
            refine ⟨_, rfl, fun K hK => ?_⟩
            have e18 : a.tmps[18]? = some (.bool false) := by rw [ha]; exact putSel_on (e := (14, 18, .bool false)) 14 rfl rfl (hon 14 (by kernel_rfl)) rfl
            have e21 : a.tmps[21]? = some (undef) := by rw [ha]; exact putSel_on (e := (17, 21, undef)) 17 rfl rfl (hon 17 (by kernel_rfl)) rfl
            replace ha := Aside0.mk ha
            have B0 := Aside0.mk Q_B0
            refine value_ (w1 := w') (v := .bool false) (by rfl) rfl ?_ ?_
            · go_simp
              (try simp only [i64_w])
              try rfl
            refine hK.out _ _ ⟨(by rw [ha.out]; exact putSel_upk 18 hb_ rfl rfl rfl), Q_B0⟩
          refine steps_cons ?_ ?_
          · rintro b a w' ⟨ha, Q_B0⟩ hb_ hon hoff
            refine ⟨_, rfl, fun K hK => ?_⟩
            have e22 : a.tmps[22]? = some (.bool false) := by rw [ha]; exact putSel_on (e := (18, 22, .bool false)) 18 rfl rfl (hon 18 (by kernel_rfl)) rfl
            replace ha := Aside0.mk ha
            have B0 := Aside0.mk Q_B0
            refine value_ (w1 := w') (v := .bool false) (by rfl) rfl ?_ ?_
            · go_simp
              (try simp only [i64_w])
              try rfl
            refine hK.out _ _ ⟨(by rw [ha.out]; exact putSel_upk 19 hb_ rfl rfl rfl), Q_B0⟩
          refine steps_cons ?_ ?_
          · rintro b a w' ⟨ha, Q_B0⟩ hb_ hon hoff
            refine ⟨_, rfl, fun K hK => ?_⟩
            have e23 : a.tmps[23]? = some (.bool false) := by rw [ha]; exact putSel_on (e := (19, 23, .bool false)) 19 rfl rfl (hon 19 (by kernel_rfl)) rfl
            replace ha := Aside0.mk ha
            have B0 := Aside0.mk Q_B0
            refine off_ (wanted_off rfl rfl rfl (e23.trans (by first | rfl | (simp [*]; done)))) ?_
            refine hK.out _ _ ⟨(by rw [ha.out]; exact putSel_upk 20 hb_ rfl rfl rfl), Q_B0⟩
          refine steps_cons ?_ ?_
          · rintro b a w' ⟨ha, Q_B0⟩ hb_ hon hoff
            refine ⟨_, rfl, fun K hK => ?_⟩
            have e23 : a.tmps[23]? = some (.bool false) := by rw [ha]; exact putSel_on (e := (19, 23, .bool false)) 19 rfl rfl (hon 19 (by kernel_rfl)) rfl
            replace ha := Aside0.mk ha
            have B0 := Aside0.mk Q_B0
            refine off_ (wanted_off rfl rfl rfl (e23.trans (by first | rfl | (simp [*]; done)))) ?_
            refine hK.out _ _ ⟨(by rw [ha.out]; exact putSel_upk 21 hb_ rfl rfl rfl), Q_B0⟩
          refine steps_cons ?_ ?_
          · rintro b a w' ⟨ha, Q_B0⟩ hb_ hon hoff
            refine ⟨_, rfl, fun K hK => ?_⟩
            have e23 : a.tmps[23]? = some (.bool false) := by rw [ha]; exact putSel_on (e := (19, 23, .bool false)) 19 rfl rfl (hon 19 (by kernel_rfl)) rfl
            replace ha := Aside0.mk ha
            have B0 := Aside0.mk Q_B0
            refine off_ (wanted_off rfl rfl rfl (e23.trans (by first | rfl | (simp [*]; done)))) ?_
            refine hK.out _ _ ⟨(by rw [ha.out]; exact putSel_upk 22 hb_ rfl rfl rfl), Q_B0⟩
          refine steps_cons ?_ ?_
          · rintro b a w' ⟨ha, Q_B0⟩ hb_ hon hoff
            refine ⟨_, rfl, fun K hK => ?_⟩
            have e23 : a.tmps[23]? = some (.bool false) := by rw [ha]; exact putSel_on (e := (19, 23, .bool false)) 19 rfl rfl (hon 19 (by kernel_rfl)) rfl
            replace ha := Aside0.mk ha
            have B0 := Aside0.mk Q_B0
            refine off_ (wanted_off rfl rfl rfl (e23.trans (by first | rfl | (simp [*]; done)))) ?_
            refine hK.out _ _ ⟨(by rw [ha.out]; exact putSel_upk 23 hb_ rfl rfl rfl), Q_B0⟩
          refine steps_cons ?_ ?_
          · rintro b a w' ⟨ha, Q_B0⟩ hb_ hon hoff
            refine ⟨_, rfl, fun K hK => ?_⟩
            have e23 : a.tmps[23]? = some (.bool false) := by rw [ha]; exact putSel_on (e := (19, 23, .bool false)) 19 rfl rfl (hon 19 (by kernel_rfl)) rfl
            replace ha := Aside0.mk ha
            have B0 := Aside0.mk Q_B0
            refine off_ (wanted_off rfl rfl rfl (e23.trans (by first | rfl | (simp [*]; done)))) ?_
            refine hK.out _ _ ⟨(by rw [ha.out]; exact putSel_upk 24 hb_ rfl rfl rfl), Q_B0⟩
          refine steps_cons ?_ ?_
          · rintro b a w' ⟨ha, Q_B0⟩ hb_ hon hoff
            refine ⟨_, rfl, fun K hK => ?_⟩
            have e23 : a.tmps[23]? = some (.bool false) := by rw [ha]; exact putSel_on (e := (19, 23, .bool false)) 19 rfl rfl (hon 19 (by kernel_rfl)) rfl
            replace ha := Aside0.mk ha
            have B0 := Aside0.mk Q_B0
            refine off_ (wanted_off rfl rfl rfl (e23.trans (by first | rfl | (simp [*]; done)))) ?_
            refine hK.out _ _ ⟨(by rw [ha.out]; exact putSel_upk 25 hb_ rfl rfl rfl), Q_B0⟩
          refine steps_cons ?_ ?_
          · rintro b a w' ⟨ha, Q_B0⟩ hb_ hon hoff
            refine ⟨_, rfl, fun K hK => ?_⟩
            have e23 : a.tmps[23]? = some (.bool false) := by rw [ha]; exact putSel_on (e := (19, 23, .bool false)) 19 rfl rfl (hon 19 (by kernel_rfl)) rfl
            have e29 : a.tmps[29]? = some (undef) := by rw [ha]; exact putSel_on (e := (25, 29, undef)) 25 rfl rfl (hon 25 (by kernel_rfl)) rfl
            replace ha := Aside0.mk ha
            have B0 := Aside0.mk Q_B0
            refine value_ (w1 := w') (v := .bool false) (by rfl) rfl ?_ ?_
            · go_simp
              (try simp only [i64_w])
              try rfl
            refine hK.out _ _ ⟨(by rw [ha.out]; exact putSel_upk 26 hb_ rfl rfl rfl), Q_B0⟩
          refine steps_cons ?_ ?_
          · rintro b a w' ⟨ha, Q_B0⟩ hb_ hon hoff
            refine ⟨_, rfl, fun K hK => ?_⟩
            have e30 : a.tmps[30]? = some (.bool false) := by rw [ha]; exact putSel_on (e := (26, 30, .bool false)) 26 rfl rfl (hon 26 (by kernel_rfl)) rfl
            replace ha := Aside0.mk ha
            have B0 := Aside0.mk Q_B0
            refine value_ (w1 := w') (v := .bool false) (by rfl) rfl ?_ ?_
            · go_simp
              (try simp only [i64_w])
              try rfl
            refine hK.out _ _ ⟨(by rw [ha.out]; exact putSel_upk 27 hb_ rfl rfl rfl), Q_B0⟩
          exact steps_nil
        rintro b a wl hall ⟨ha, Q_B0⟩
        clear B0
        have hb0_ := hall 0 (by kernel_rfl)
        have hb1_ := hall 1 (by kernel_rfl)
        have hb2_ := hall 2 (by kernel_rfl)
        have hb3_ := hall 3 (by kernel_rfl)
        have hb4_ := hall 4 (by kernel_rfl)
        have hb5_ := hall 5 (by kernel_rfl)
        have hb6_ := hall 6 (by kernel_rfl)
        have hb7_ := hall 7 (by kernel_rfl)
        have hb8_ := hall 8 (by kernel_rfl)
        have hb9_ := hall 9 (by kernel_rfl)
        have hb10_ := hall 10 (by kernel_rfl)
        have hb11_ := hall 11 (by kernel_rfl)
        have hb12_ := hall 12 (by kernel_rfl)
        have hb13_ := hall 13 (by kernel_rfl)
        have hb14_ := hall 14 (by kernel_rfl)
        have hb15_ := hall 15 (by kernel_rfl)
        have hb16_ := hall 16 (by kernel_rfl)
        have hb17_ := hall 17 (by kernel_rfl)
        have hb18_ := hall 18 (by kernel_rfl)
        have hb19_ := hall 19 (by kernel_rfl)
        have hb20_ := hall 20 (by kernel_rfl)
        have hb21_ := hall 21 (by kernel_rfl)
        have hb22_ := hall 22 (by kernel_rfl)
        have hb23_ := hall 23 (by kernel_rfl)
        have hb24_ := hall 24 (by kernel_rfl)
        have hb25_ := hall 25 (by kernel_rfl)
        have hb26_ := hall 26 (by kernel_rfl)
        have hb27_ := hall 27 (by kernel_rfl)
        subst ha
        simp only [putSel, hb0_, hb1_, hb2_, hb3_, hb4_, hb5_, hb6_, hb7_, hb8_, hb9_, hb10_, hb11_, hb12_, hb13_, hb14_, hb15_, hb16_, hb17_, hb18_, hb19_, hb20_, hb21_, hb22_, hb23_, hb24_, hb25_, hb26_, hb27_, if_true, Act.put, List.setIfInBounds_toArray, List.set_cons_zero, List.set_cons_succ]
        have B0 := Aside0.mk Q_B0
        clear Q_B0
        clear hall hb0_ hb1_ hb2_ hb3_ hb4_ hb5_ hb6_ hb7_ hb8_ hb9_ hb10_ hb11_ hb12_ hb13_ hb14_ hb15_ hb16_ hb17_ hb18_ hb19_ hb20_ hb21_ hb22_ hb23_ hb24_ hb25_ hb26_ hb27_
        go_wp2_with fail
        go_ret
        exact ⟨by rw [HM.out] <;> rfl, below_then HBB.out HBB.out.size B0.out⟩
      | false =>
        rw [hp] at HZG
        cases hge : decide (I ≥ 0) with
        | false =>
          have HGE := Aside0.mk hge
          have HM := Aside0.mk (show mineB true id I x = false from by simp only [mineB, hge, Bool.and_false, Bool.false_and])
          refine start_ (n := 28) (S := fun w' => True) (ds := []) #[false, false, false, false, false, false, false, false, false, false, false, false, false, false, false, false, false, false, false, false, false, false, false, false, false, false, false, false] (by kernel_rfl) rfl rfl trivial (fun hHeld => ?_)
          refine with_tabW mine1.tab1 mine1.bits1 (fun HT_ HW_ => ?_)
          generalize W1.drew = wq at B0 HZC HZG HBB hHeld ⊢
          refine inv_at [0, 1, 2, 3, 4, 5, 6, 7, 8, 9, 10, 11, 12, 13, 14, 15, 16, 17, 18, 19, 20, 21, 22, 23, 24, 25, 26, 27] (fun a0_ b a w' => a = putSel a0_ b [(0, 4, .pointer (some ⟨bk, 0, none⟩)), (1, 5, .bool true), (2, 6, .bool true), (3, 7, .pointer (some ⟨g, 0, none⟩)), (4, 8, .int .u64 x.f0), (5, 9, .pointer (some ⟨bk, 2, none⟩)), (6, 10, .int .u64 id), (7, 11, .bool true), (8, 12, .bool true), (9, 13, .bool true), (10, 14, .pointer (some ⟨g, 5, none⟩)), (11, 15, .bool false), (12, 16, .bool true), (13, 17, .bool true), (14, 18, .bool true), (15, 19, .pointer (some ⟨bk, 3, none⟩)), (16, 20, .int .i64 I), (17, 21, .bool false), (18, 22, .bool false), (19, 23, .bool false), (20, 24, undef), (21, 25, undef), (22, 26, undef), (23, 27, undef), (24, 28, undef), (25, 29, undef), (26, 30, .bool false), (27, 3, .bool false)] ∧ (Below wq.heap.size wq w')) HT_.out HW_.out (by kernel_rfl) (by kernel_rfl) ?_ ?_ ?_
          · exact ⟨by simp only [putSel, Bool.false_eq_true, if_false], B0.out⟩
          · skip
            clear B0
            refine steps_cons ?_ ?_
            · rintro b a w' ⟨ha, Q_B0⟩ hb_ hon hoff
              refine ⟨_, rfl, fun K hK => ?_⟩
              have e1 : a.tmps[1]? = some (.pointer (some ⟨bk, 0, none⟩)) := by rw [ha]; exact (putSel_off rfl).trans rfl
              replace ha := Aside0.mk ha
              have B0 := Aside0.mk Q_B0
              refine value_ (w1 := w') (v := .pointer (some ⟨bk, 0, none⟩)) (by rfl) rfl ?_ ?_
              · go_simp
                (try simp only [i64_w])
                try rfl
              refine hK.out _ _ ⟨(by rw [ha.out]; exact putSel_upk 0 hb_ rfl rfl rfl), Q_B0⟩
            refine steps_cons ?_ ?_
            · rintro b a w' ⟨ha, Q_B0⟩ hb_ hon hoff
              refine ⟨_, rfl, fun K hK => ?_⟩
              have e4 : a.tmps[4]? = some (.pointer (some ⟨bk, 0, none⟩)) := by rw [ha]; exact putSel_on (e := (0, 4, .pointer (some ⟨bk, 0, none⟩))) 0 rfl rfl (hon 0 (by kernel_rfl)) rfl
              replace ha := Aside0.mk ha
              have B0 := Aside0.mk Q_B0
              have c_ := blk_cell (blk_below HZC.out B0.out) 0
              refine value_ (w1 := w') (v := .bool true) (by rfl) rfl ?_ ?_
              · go_simp
                (try simp only [i64_w])
                try rfl
              refine hK.out _ _ ⟨(by rw [ha.out]; exact putSel_upk 1 hb_ rfl rfl rfl), Q_B0⟩
            refine steps_cons ?_ ?_
            · rintro b a w' ⟨ha, Q_B0⟩ hb_ hon hoff
              refine ⟨_, rfl, fun K hK => ?_⟩
              have e5 : a.tmps[5]? = some (.bool true) := by rw [ha]; exact putSel_on (e := (1, 5, .bool true)) 1 rfl rfl (hon 1 (by kernel_rfl)) rfl
              replace ha := Aside0.mk ha
              have B0 := Aside0.mk Q_B0
              refine value_ (w1 := w') (v := .bool true) (by rfl) rfl ?_ ?_
              · go_simp
                (try simp only [i64_w])
                try rfl
              refine hK.out _ _ ⟨(by rw [ha.out]; exact putSel_upk 2 hb_ rfl rfl rfl), Q_B0⟩
            refine steps_cons ?_ ?_
            · rintro b a w' ⟨ha, Q_B0⟩ hb_ hon hoff
              refine ⟨_, rfl, fun K hK => ?_⟩
              have e2 : a.tmps[2]? = some (.pointer (some ⟨g, 0, none⟩)) := by rw [ha]; exact (putSel_off rfl).trans rfl
              have e6 : a.tmps[6]? = some (.bool true) := by rw [ha]; exact putSel_on (e := (2, 6, .bool true)) 2 rfl rfl (hon 2 (by kernel_rfl)) rfl
              replace ha := Aside0.mk ha
              have B0 := Aside0.mk Q_B0
              refine value_ (w1 := w') (v := .pointer (some ⟨g, 0, none⟩)) (wanted_on rfl rfl rfl (e6.trans (by first | rfl | (simp [*]; done)))) rfl ?_ ?_
              · go_simp
                (try simp only [i64_w])
                try rfl
              refine hK.out _ _ ⟨(by rw [ha.out]; exact putSel_upk 3 hb_ rfl rfl rfl), Q_B0⟩
            refine steps_cons ?_ ?_
            · rintro b a w' ⟨ha, Q_B0⟩ hb_ hon hoff
              refine ⟨_, rfl, fun K hK => ?_⟩
              have e7 : a.tmps[7]? = some (.pointer (some ⟨g, 0, none⟩)) := by rw [ha]; exact putSel_on (e := (3, 7, .pointer (some ⟨g, 0, none⟩))) 3 rfl rfl (hon 3 (by kernel_rfl)) rfl
              have e6 : a.tmps[6]? = some (.bool true) := by rw [ha]; exact putSel_on (e := (2, 6, .bool true)) 2 rfl rfl (hon 2 (by kernel_rfl)) rfl
              replace ha := Aside0.mk ha
              have B0 := Aside0.mk Q_B0
              have c_ := blk_cell (blk_below HZG.out B0.out) 0
              refine value_ (w1 := w') (v := .int .u64 x.f0) (wanted_on rfl rfl rfl (e6.trans (by first | rfl | (simp [*]; done)))) rfl ?_ ?_
              · go_simp
                (try simp only [i64_w])
                try rfl
              refine hK.out _ _ ⟨(by rw [ha.out]; exact putSel_upk 4 hb_ rfl rfl rfl), Q_B0⟩
            refine steps_cons ?_ ?_
            · rintro b a w' ⟨ha, Q_B0⟩ hb_ hon hoff
              refine ⟨_, rfl, fun K hK => ?_⟩
              have e1 : a.tmps[1]? = some (.pointer (some ⟨bk, 0, none⟩)) := by rw [ha]; exact (putSel_off rfl).trans rfl
              have e6 : a.tmps[6]? = some (.bool true) := by rw [ha]; exact putSel_on (e := (2, 6, .bool true)) 2 rfl rfl (hon 2 (by kernel_rfl)) rfl
              replace ha := Aside0.mk ha
              have B0 := Aside0.mk Q_B0
              refine value_ (w1 := w') (v := .pointer (some ⟨bk, 2, none⟩)) (wanted_on rfl rfl rfl (e6.trans (by first | rfl | (simp [*]; done)))) rfl ?_ ?_
              · go_simp
                (try simp only [i64_w])
                try rfl
              refine hK.out _ _ ⟨(by rw [ha.out]; exact putSel_upk 5 hb_ rfl rfl rfl), Q_B0⟩
            refine steps_cons ?_ ?_
            · rintro b a w' ⟨ha, Q_B0⟩ hb_ hon hoff
              refine ⟨_, rfl, fun K hK => ?_⟩
              have e9 : a.tmps[9]? = some (.pointer (some ⟨bk, 2, none⟩)) := by rw [ha]; exact putSel_on (e := (5, 9, .pointer (some ⟨bk, 2, none⟩))) 5 rfl rfl (hon 5 (by kernel_rfl)) rfl
              have e6 : a.tmps[6]? = some (.bool true) := by rw [ha]; exact putSel_on (e := (2, 6, .bool true)) 2 rfl rfl (hon 2 (by kernel_rfl)) rfl
              replace ha := Aside0.mk ha
              have B0 := Aside0.mk Q_B0
              have c_ := blk_cell (blk_below HZC.out B0.out) 2
              refine value_ (w1 := w') (v := .int .u64 id) (wanted_on rfl rfl rfl (e6.trans (by first | rfl | (simp [*]; done)))) rfl ?_ ?_
              · go_simp
                (try simp only [i64_w])
                try rfl
              refine hK.out _ _ ⟨(by rw [ha.out]; exact putSel_upk 6 hb_ rfl rfl rfl), Q_B0⟩
            refine steps_cons ?_ ?_
            · rintro b a w' ⟨ha, Q_B0⟩ hb_ hon hoff
              refine ⟨_, rfl, fun K hK => ?_⟩
              have e8 : a.tmps[8]? = some (.int .u64 x.f0) := by rw [ha]; exact putSel_on (e := (4, 8, .int .u64 x.f0)) 4 rfl rfl (hon 4 (by kernel_rfl)) rfl
              have e10 : a.tmps[10]? = some (.int .u64 id) := by rw [ha]; exact putSel_on (e := (6, 10, .int .u64 id)) 6 rfl rfl (hon 6 (by kernel_rfl)) rfl
              have e6 : a.tmps[6]? = some (.bool true) := by rw [ha]; exact putSel_on (e := (2, 6, .bool true)) 2 rfl rfl (hon 2 (by kernel_rfl)) rfl
              replace ha := Aside0.mk ha
              have B0 := Aside0.mk Q_B0
              have q_ := HQ.out
              refine value_ (w1 := w') (v := .bool true) (wanted_on rfl rfl rfl (e6.trans (by first | rfl | (simp [*]; done)))) rfl ?_ ?_
              · go_simp
                (try simp only [i64_w])
                try rfl
              refine hK.out _ _ ⟨(by rw [ha.out]; exact putSel_upk 7 hb_ rfl rfl rfl), Q_B0⟩
            refine steps_cons ?_ ?_
            · rintro b a w' ⟨ha, Q_B0⟩ hb_ hon hoff
              refine ⟨_, rfl, fun K hK => ?_⟩
              have e6 : a.tmps[6]? = some (.bool true) := by rw [ha]; exact putSel_on (e := (2, 6, .bool true)) 2 rfl rfl (hon 2 (by kernel_rfl)) rfl
              have e11 : a.tmps[11]? = some (.bool true) := by rw [ha]; exact putSel_on (e := (7, 11, .bool true)) 7 rfl rfl (hon 7 (by kernel_rfl)) rfl
              replace ha := Aside0.mk ha
              have B0 := Aside0.mk Q_B0
              refine value_ (w1 := w') (v := .bool true) (by rfl) rfl ?_ ?_
              · go_simp
                (try simp only [i64_w])
                try rfl
              refine hK.out _ _ ⟨(by rw [ha.out]; exact putSel_upk 8 hb_ rfl rfl rfl), Q_B0⟩
            refine steps_cons ?_ ?_
            · rintro b a w' ⟨ha, Q_B0⟩ hb_ hon hoff
              refine ⟨_, rfl, fun K hK => ?_⟩
              have e12 : a.tmps[12]? = some (.bool true) := by rw [ha]; exact putSel_on (e := (8, 12, .bool true)) 8 rfl rfl (hon 8 (by kernel_rfl)) rfl
              replace ha := Aside0.mk ha
              have B0 := Aside0.mk Q_B0
              refine value_ (w1 := w') (v := .bool true) (by rfl) rfl ?_ ?_
              · go_simp
                (try simp only [i64_w])
                try rfl
              refine hK.out _ _ ⟨(by rw [ha.out]; exact putSel_upk 9 hb_ rfl rfl rfl), Q_B0⟩
            refine steps_cons ?_ ?_
            · rintro b a w' ⟨ha, Q_B0⟩ hb_ hon hoff
              refine ⟨_, rfl, fun K hK => ?_⟩
              have e2 : a.tmps[2]? = some (.pointer (some ⟨g, 0, none⟩)) := by rw [ha]; exact (putSel_off rfl).trans rfl
              have e13 : a.tmps[13]? = some (.bool true) := by rw [ha]; exact putSel_on (e := (9, 13, .bool true)) 9 rfl rfl (hon 9 (by kernel_rfl)) rfl
              replace ha := Aside0.mk ha
              have B0 := Aside0.mk Q_B0
              refine value_ (w1 := w') (v := .pointer (some ⟨g, 5, none⟩)) (wanted_on rfl rfl rfl (e13.trans (by first | rfl | (simp [*]; done)))) rfl ?_ ?_
              · go_simp
                (try simp only [i64_w])
                try rfl
              refine hK.out _ _ ⟨(by rw [ha.out]; exact putSel_upk 10 hb_ rfl rfl rfl), Q_B0⟩
            refine steps_cons ?_ ?_
            · rintro b a w' ⟨ha, Q_B0⟩ hb_ hon hoff
              refine ⟨_, rfl, fun K hK => ?_⟩
              have e14 : a.tmps[14]? = some (.pointer (some ⟨g, 5, none⟩)) := by rw [ha]; exact putSel_on (e := (10, 14, .pointer (some ⟨g, 5, none⟩))) 10 rfl rfl (hon 10 (by kernel_rfl)) rfl
              have e13 : a.tmps[13]? = some (.bool true) := by rw [ha]; exact putSel_on (e := (9, 13, .bool true)) 9 rfl rfl (hon 9 (by kernel_rfl)) rfl
              replace ha := Aside0.mk ha
              have B0 := Aside0.mk Q_B0
              have c_ := blk_cell (blk_below HZG.out B0.out) 5
              refine value_ (w1 := w') (v := .bool false) (wanted_on rfl rfl rfl (e13.trans (by first | rfl | (simp [*]; done)))) rfl ?_ ?_
              · go_simp
                (try simp only [i64_w])
                try rfl
              refine hK.out _ _ ⟨(by rw [ha.out]; exact putSel_upk 11 hb_ rfl rfl rfl), Q_B0⟩
            refine steps_cons ?_ ?_
            · rintro b a w' ⟨ha, Q_B0⟩ hb_ hon hoff
              refine ⟨_, rfl, fun K hK => ?_⟩
              have e15 : a.tmps[15]? = some (.bool false) := by rw [ha]; exact putSel_on (e := (11, 15, .bool false)) 11 rfl rfl (hon 11 (by kernel_rfl)) rfl
              have e13 : a.tmps[13]? = some (.bool true) := by rw [ha]; exact putSel_on (e := (9, 13, .bool true)) 9 rfl rfl (hon 9 (by kernel_rfl)) rfl
              replace ha := Aside0.mk ha
              have B0 := Aside0.mk Q_B0
              refine value_ (w1 := w') (v := .bool true) (wanted_on rfl rfl rfl (e13.trans (by first | rfl | (simp [*]; done)))) rfl ?_ ?_
              · go_simp
                (try simp only [i64_w])
                try rfl
              refine hK.out _ _ ⟨(by rw [ha.out]; exact putSel_upk 12 hb_ rfl rfl rfl), Q_B0⟩
            refine steps_cons ?_ ?_
            · rintro b a w' ⟨ha, Q_B0⟩ hb_ hon hoff
              refine ⟨_, rfl, fun K hK => ?_⟩
              have e13 : a.tmps[13]? = some (.bool true) := by rw [ha]; exact putSel_on (e := (9, 13, .bool true)) 9 rfl rfl (hon 9 (by kernel_rfl)) rfl
              have e16 : a.tmps[16]? = some (.bool true) := by rw [ha]; exact putSel_on (e := (12, 16, .bool true)) 12 rfl rfl (hon 12 (by kernel_rfl)) rfl
              replace ha := Aside0.mk ha
              have B0 := Aside0.mk Q_B0
              refine value_ (w1 := w') (v := .bool true) (by rfl) rfl ?_ ?_
              · go_simp
                (try simp only [i64_w])
                try rfl
              refine hK.out _ _ ⟨(by rw [ha.out]; exact putSel_upk 13 hb_ rfl rfl rfl), Q_B0⟩
            refine steps_cons ?_ ?_
            · rintro b a w' ⟨ha, Q_B0⟩ hb_ hon hoff
              refine ⟨_, rfl, fun K hK => ?_⟩
              have e17 : a.tmps[17]? = some (.bool true) := by rw [ha]; exact putSel_on (e := (13, 17, .bool true)) 13 rfl rfl (hon 13 (by kernel_rfl)) rfl
              replace ha := Aside0.mk ha
              have B0 := Aside0.mk Q_B0
              refine value_ (w1 := w') (v := .bool true) (by rfl) rfl ?_ ?_
              · go_simp
                (try simp only [i64_w])
                try rfl
              refine hK.out _ _ ⟨(by rw [ha.out]; exact putSel_upk 14 hb_ rfl rfl rfl), Q_B0⟩
            refine steps_cons ?_ ?_
            · rintro b a w' ⟨ha, Q_B0⟩ hb_ hon hoff
              refine ⟨_, rfl, fun K hK => ?_⟩
              have e1 : a.tmps[1]? = some (.pointer (some ⟨bk, 0, none⟩)) := by rw [ha]; exact (putSel_off rfl).trans rfl
              have e18 : a.tmps[18]? = some (.bool true) := by rw [ha]; exact putSel_on (e := (14, 18, .bool true)) 14 rfl rfl (hon 14 (by kernel_rfl)) rfl
              replace ha := Aside0.mk ha
              have B0 := Aside0.mk Q_B0
              refine value_ (w1 := w') (v := .pointer (some ⟨bk, 3, none⟩)) (wanted_on rfl rfl rfl (e18.trans (by first | rfl | (simp [*]; done)))) rfl ?_ ?_
              · go_simp
                (try simp only [i64_w])
                try rfl
              refine hK.out _ _ ⟨(by rw [ha.out]; exact putSel_upk 15 hb_ rfl rfl rfl), Q_B0⟩
            refine steps_cons ?_ ?_
            · rintro b a w' ⟨ha, Q_B0⟩ hb_ hon hoff
              refine ⟨_, rfl, fun K hK => ?_⟩
              have e19 : a.tmps[19]? = some (.pointer (some ⟨bk, 3, none⟩)) := by rw [ha]; exact putSel_on (e := (15, 19, .pointer (some ⟨bk, 3, none⟩))) 15 rfl rfl (hon 15 (by kernel_rfl)) rfl
              have e18 : a.tmps[18]? = some (.bool true) := by rw [ha]; exact putSel_on (e := (14, 18, .bool true)) 14 rfl rfl (hon 14 (by kernel_rfl)) rfl
              replace ha := Aside0.mk ha
              have B0 := Aside0.mk Q_B0
              have c_ := blk_cell (blk_below HZC.out B0.out) 3
              refine value_ (w1 := w') (v := .int .i64 I) (wanted_on rfl rfl rfl (e18.trans (by first | rfl | (simp [*]; done)))) rfl ?_ ?_
              · go_simp
                (try simp only [i64_w])
                try rfl
              refine hK.out _ _ ⟨(by rw [ha.out]; exact putSel_upk 16 hb_ rfl rfl rfl), Q_B0⟩
            refine steps_cons ?_ ?_
            · rintro b a w' ⟨ha, Q_B0⟩ hb_ hon hoff
              refine ⟨_, rfl, fun K hK => ?_⟩
              have e20 : a.tmps[20]? = some (.int .i64 I) := by rw [ha]; exact putSel_on (e := (16, 20, .int .i64 I)) 16 rfl rfl (hon 16 (by kernel_rfl)) rfl
              have e18 : a.tmps[18]? = some (.bool true) := by rw [ha]; exact putSel_on (e := (14, 18, .bool true)) 14 rfl rfl (hon 14 (by kernel_rfl)) rfl
              replace ha := Aside0.mk ha
              have B0 := Aside0.mk Q_B0
              have q_ := HGE.out
              refine value_ (w1 := w') (v := .bool false) (wanted_on rfl rfl rfl (e18.trans (by first | rfl | (simp [*]; done)))) rfl ?_ ?_
              · go_simp
                (try simp only [i64_w])
                try rfl
              refine hK.out _ _ ⟨(by rw [ha.out]; exact putSel_upk 17 hb_ rfl rfl rfl), Q_B0⟩
            refine steps_cons ?_ ?_
            · rintro b a w' ⟨ha, Q_B0⟩ hb_ hon hoff
              refine ⟨_, rfl, fun K hK => ?_⟩
              have e18 : a.tmps[18]? = some (.bool true) := by rw [ha]; exact putSel_on (e := (14, 18, .bool true)) 14 rfl rfl (hon 14 (by kernel_rfl)) rfl
              have e21 : a.tmps[21]? = some (.bool false) := by rw [ha]; exact putSel_on (e := (17, 21, .bool false)) 17 rfl rfl (hon 17 (by kernel_rfl)) rfl
              replace ha := Aside0.mk ha
              have B0 := Aside0.mk Q_B0
              refine value_ (w1 := w') (v := .bool false) (by rfl) rfl ?_ ?_
              · go_simp
                (try simp only [i64_w])
                try rfl
              refine hK.out _ _ ⟨(by rw [ha.out]; exact putSel_upk 18 hb_ rfl rfl rfl), Q_B0⟩
            refine steps_cons ?_ ?_
            · rintro b a w' ⟨ha, Q_B0⟩ hb_ hon hoff
              refine ⟨_, rfl, fun K hK => ?_⟩
              have e22 : a.tmps[22]? = some (.bool false) := by rw [ha]; exact putSel_on (e := (18, 22, .bool false)) 18 rfl rfl (hon 18 (by kernel_rfl)) rfl
              replace ha := Aside0.mk ha
              have B0 := Aside0.mk Q_B0
              refine value_ (w1 := w') (v := .bool false) (by rfl) rfl ?_ ?_
              · go_simp
                (try simp only [i64_w])
                try rfl
              refine hK.out _ _ ⟨(by rw [ha.out]; exact putSel_upk 19 hb_ rfl rfl rfl), Q_B0⟩
            refine steps_cons ?_ ?_
            · rintro b a w' ⟨ha, Q_B0⟩ hb_ hon hoff
              refine ⟨_, rfl, fun K hK => ?_⟩
              have e23 : a.tmps[23]? = some (.bool false) := by rw [ha]; exact putSel_on (e := (19, 23, .bool false)) 19 rfl rfl (hon 19 (by kernel_rfl)) rfl
              replace ha := Aside0.mk ha
              have B0 := Aside0.mk Q_B0
              refine off_ (wanted_off rfl rfl rfl (e23.trans (by first | rfl | (simp [*]; done)))) ?_
              refine hK.out _ _ ⟨(by rw [ha.out]; exact putSel_upk 20 hb_ rfl rfl rfl), Q_B0⟩
            refine steps_cons ?_ ?_
            · rintro b a w' ⟨ha, Q_B0⟩ hb_ hon hoff
              refine ⟨_, rfl, fun K hK => ?_⟩
              have e23 : a.tmps[23]? = some (.bool false) := by rw [ha]; exact putSel_on (e := (19, 23, .bool false)) 19 rfl rfl (hon 19 (by kernel_rfl)) rfl
              replace ha := Aside0.mk ha
              have B0 := Aside0.mk Q_B0
              refine off_ (wanted_off rfl rfl rfl (e23.trans (by first | rfl | (simp [*]; done)))) ?_
              refine hK.out _ _ ⟨(by rw [ha.out]; exact putSel_upk 21 hb_ rfl rfl rfl), Q_B0⟩
            refine steps_cons ?_ ?_
            · rintro b a w' ⟨ha, Q_B0⟩ hb_ hon hoff
              refine ⟨_, rfl, fun K hK => ?_⟩
              have e23 : a.tmps[23]? = some (.bool false) := by rw [ha]; exact putSel_on (e := (19, 23, .bool false)) 19 rfl rfl (hon 19 (by kernel_rfl)) rfl
              replace ha := Aside0.mk ha
              have B0 := Aside0.mk Q_B0
              refine off_ (wanted_off rfl rfl rfl (e23.trans (by first | rfl | (simp [*]; done)))) ?_
              refine hK.out _ _ ⟨(by rw [ha.out]; exact putSel_upk 22 hb_ rfl rfl rfl), Q_B0⟩
            refine steps_cons ?_ ?_
            · rintro b a w' ⟨ha, Q_B0⟩ hb_ hon hoff
              refine ⟨_, rfl, fun K hK => ?_⟩
              have e23 : a.tmps[23]? = some (.bool false) := by rw [ha]; exact putSel_on (e := (19, 23, .bool false)) 19 rfl rfl (hon 19 (by kernel_rfl)) rfl
              replace ha := Aside0.mk ha
              have B0 := Aside0.mk Q_B0
              refine off_ (wanted_off rfl rfl rfl (e23.trans (by first | rfl | (simp [*]; done)))) ?_
              refine hK.out _ _ ⟨(by rw [ha.out]; exact putSel_upk 23 hb_ rfl rfl rfl), Q_B0⟩
            refine steps_cons ?_ ?_
            · rintro b a w' ⟨ha, Q_B0⟩ hb_ hon hoff
              refine ⟨_, rfl, fun K hK => ?_⟩
              have e23 : a.tmps[23]? = some (.bool false) := by rw [ha]; exact putSel_on (e := (19, 23, .bool false)) 19 rfl rfl (hon 19 (by kernel_rfl)) rfl
              replace ha := Aside0.mk ha
              have B0 := Aside0.mk Q_B0
              refine off_ (wanted_off rfl rfl rfl (e23.trans (by first | rfl | (simp [*]; done)))) ?_
              refine hK.out _ _ ⟨(by rw [ha.out]; exact putSel_upk 24 hb_ rfl rfl rfl), Q_B0⟩
            refine steps_cons ?_ ?_
            · rintro b a w' ⟨ha, Q_B0⟩ hb_ hon hoff
              refine ⟨_, rfl, fun K hK => ?_⟩
              have e23 : a.tmps[23]? = some (.bool false) := by rw [ha]; exact putSel_on (e := (19, 23, .bool false)) 19 rfl rfl (hon 19 (by kernel_rfl)) rfl
              replace ha := Aside0.mk ha
              have B0 := Aside0.mk Q_B0
              refine off_ (wanted_off rfl rfl rfl (e23.trans (by first | rfl | (simp [*]; done)))) ?_
              refine hK.out _ _ ⟨(by rw [ha.out]; exact putSel_upk 25 hb_ rfl rfl rfl), Q_B0⟩
            refine steps_cons ?_ ?_
            · rintro b a w' ⟨ha, Q_B0⟩ hb_ hon hoff
              refine ⟨_, rfl, fun K hK => ?_⟩
              have e23 : a.tmps[23]? = some (.bool false) := by rw [ha]; exact putSel_on (e := (19, 23, .bool false)) 19 rfl rfl (hon 19 (by kernel_rfl)) rfl
              have e29 : a.tmps[29]? = some (undef) := by rw [ha]; exact putSel_on (e := (25, 29, undef)) 25 rfl rfl (hon 25 (by kernel_rfl)) rfl
              replace ha := Aside0.mk ha
              have B0 := Aside0.mk Q_B0
              refine value_ (w1 := w') (v := .bool false) (by rfl) rfl ?_ ?_
              · go_simp
                (try simp only [i64_w])
                try rfl
              refine hK.out _ _ ⟨(by rw [ha.out]; exact putSel_upk 26 hb_ rfl rfl rfl), Q_B0⟩
            refine steps_cons ?_ ?_
            · rintro b a w' ⟨ha, Q_B0⟩ hb_ hon hoff
              refine ⟨_, rfl, fun K hK => ?_⟩
              have e30 : a.tmps[30]? = some (.bool false) := by rw [ha]; exact putSel_on (e := (26, 30, .bool false)) 26 rfl rfl (hon 26 (by kernel_rfl)) rfl
              replace ha := Aside0.mk ha
              have B0 := Aside0.mk Q_B0
              refine value_ (w1 := w') (v := .bool false) (by rfl) rfl ?_ ?_
              · go_simp
                (try simp only [i64_w])
                try rfl
              refine hK.out _ _ ⟨(by rw [ha.out]; exact putSel_upk 27 hb_ rfl rfl rfl), Q_B0⟩
            exact steps_nil
          rintro b a wl hall ⟨ha, Q_B0⟩
          clear B0
          have hb0_ := hall 0 (by kernel_rfl)
          have hb1_ := hall 1 (by kernel_rfl)
          have hb2_ := hall 2 (by kernel_rfl)
          have hb3_ := hall 3 (by kernel_rfl)
          have hb4_ := hall 4 (by kernel_rfl)
          have hb5_ := hall 5 (by kernel_rfl)
          have hb6_ := hall 6 (by kernel_rfl)
          have hb7_ := hall 7 (by kernel_rfl)
          have hb8_ := hall 8 (by kernel_rfl)
          have hb9_ := hall 9 (by kernel_rfl)
          have hb10_ := hall 10 (by kernel_rfl)
          have hb11_ := hall 11 (by kernel_rfl)
          have hb12_ := hall 12 (by kernel_rfl)
          have hb13_ := hall 13 (by kernel_rfl)
          have hb14_ := hall 14 (by kernel_rfl)
          have hb15_ := hall 15 (by kernel_rfl)
          have hb16_ := hall 16 (by kernel_rfl)
          have hb17_ := hall 17 (by kernel_rfl)
          have hb18_ := hall 18 (by kernel_rfl)
          have hb19_ := hall 19 (by kernel_rfl)
          have hb20_ := hall 20 (by kernel_rfl)
          have hb21_ := hall 21 (by kernel_rfl)
          have hb22_ := hall 22 (by kernel_rfl)
          have hb23_ := hall 23 (by kernel_rfl)
          have hb24_ := hall 24 (by kernel_rfl)
          have hb25_ := hall 25 (by kernel_rfl)
          have hb26_ := hall 26 (by kernel_rfl)
          have hb27_ := hall 27 (by kernel_rfl)
          subst ha
          simp only [putSel, hb0_, hb1_, hb2_, hb3_, hb4_, hb5_, hb6_, hb7_, hb8_, hb9_, hb10_, hb11_, hb12_, hb13_, hb14_, hb15_, hb16_, hb17_, hb18_, hb19_, hb20_, hb21_, hb22_, hb23_, hb24_, hb25_, hb26_, hb27_, if_true, Act.put, List.setIfInBounds_toArray, List.set_cons_zero, List.set_cons_succ]
          have B0 := Aside0.mk Q_B0
          clear Q_B0
          clear hall hb0_ hb1_ hb2_ hb3_ hb4_ hb5_ hb6_ hb7_ hb8_ hb9_ hb10_ hb11_ hb12_ hb13_ hb14_ hb15_ hb16_ hb17_ hb18_ hb19_ hb20_ hb21_ hb22_ hb23_ hb24_ hb25_ hb26_ hb27_
          go_wp2_with fail
          go_ret
          exact ⟨by rw [HM.out] <;> rfl, below_then HBB.out HBB.out.size B0.out⟩
        | true =>
          have HGE := Aside0.mk hge
          cases hlt : decide (I < fr x.f3) with
          | false =>
            have HLT := Aside0.mk hlt
            have HM := Aside0.mk (show mineB true id I x = false from by simp only [mineB, hlt, Bool.and_false])
            refine start_ (n := 28) (S := fun w' => True) (ds := []) #[false, false, false, false, false, false, false, false, false, false, false, false, false, false, false, false, false, false, false, false, false, false, false, false, false, false, false, false] (by kernel_rfl) rfl rfl trivial (fun hHeld => ?_)
            refine with_tabW mine1.tab1 mine1.bits1 (fun HT_ HW_ => ?_)
            generalize W1.drew = wq at B0 HZC HZG HBB hHeld ⊢
            refine inv_at [0, 1, 2, 3, 4, 5, 6, 7, 8, 9, 10, 11, 12, 13, 14, 15, 16, 17, 18, 19, 20, 21, 22, 23, 24, 25, 26, 27] (fun a0_ b a w' => a = putSel a0_ b [(0, 4, .pointer (some ⟨bk, 0, none⟩)), (1, 5, .bool true), (2, 6, .bool true), (3, 7, .pointer (some ⟨g, 0, none⟩)), (4, 8, .int .u64 x.f0), (5, 9, .pointer (some ⟨bk, 2, none⟩)), (6, 10, .int .u64 id), (7, 11, .bool true), (8, 12, .bool true), (9, 13, .bool true), (10, 14, .pointer (some ⟨g, 5, none⟩)), (11, 15, .bool false), (12, 16, .bool true), (13, 17, .bool true), (14, 18, .bool true), (15, 19, .pointer (some ⟨bk, 3, none⟩)), (16, 20, .int .i64 I), (17, 21, .bool true), (18, 22, .bool true), (19, 23, .bool true), (20, 24, .pointer (some ⟨bk, 3, none⟩)), (21, 25, .int .i64 I), (22, 26, .pointer (some ⟨g, 3, none⟩)), (23, 27, .int .i64 x.f3), (24, 28, .int .i64 (fr x.f3)), (25, 29, .bool false), (26, 30, .bool false), (27, 3, .bool false)] ∧ (Below wq.heap.size wq w')) HT_.out HW_.out (by kernel_rfl) (by kernel_rfl) ?_ ?_ ?_
            · exact ⟨by simp only [putSel, Bool.false_eq_true, if_false], B0.out⟩
            · skip
              clear B0
              refine steps_cons ?_ ?_
              · rintro b a w' ⟨ha, Q_B0⟩ hb_ hon hoff
                refine ⟨_, rfl, fun K hK => ?_⟩
                have e1 : a.tmps[1]? = some (.pointer (some ⟨bk, 0, none⟩)) := by rw [ha]; exact (putSel_off rfl).trans rfl
                replace ha := Aside0.mk ha
                have B0 := Aside0.mk Q_B0
                refine value_ (w1 := w') (v := .pointer (some ⟨bk, 0, none⟩)) (by rfl) rfl ?_ ?_
                · go_simp
                  (try simp only [i64_w])
                  try rfl
                refine hK.out _ _ ⟨(by rw [ha.out]; exact putSel_upk 0 hb_ rfl rfl rfl), Q_B0⟩
              refine steps_cons ?_ ?_
              · rintro b a w' ⟨ha, Q_B0⟩ hb_ hon hoff
                refine ⟨_, rfl, fun K hK => ?_⟩
                have e4 : a.tmps[4]? = some (.pointer (some ⟨bk, 0, none⟩)) := by rw [ha]; exact putSel_on (e := (0, 4, .pointer (some ⟨bk, 0, none⟩))) 0 rfl rfl (hon 0 (by kernel_rfl)) rfl
                replace ha := Aside0.mk ha
                have B0 := Aside0.mk Q_B0
                have c_ := blk_cell (blk_below HZC.out B0.out) 0
                refine value_ (w1 := w') (v := .bool true) (by rfl) rfl ?_ ?_
                · go_simp
                  (try simp only [i64_w])
                  try rfl
                refine hK.out _ _ ⟨(by rw [ha.out]; exact putSel_upk 1 hb_ rfl rfl rfl), Q_B0⟩
              refine steps_cons ?_ ?_
              · rintro b a w' ⟨ha, Q_B0⟩ hb_ hon hoff
                refine ⟨_, rfl, fun K hK => ?_⟩
                have e5 : a.tmps[5]? = some (.bool true) := by rw [ha]; exact putSel_on (e := (1, 5, .bool true)) 1 rfl rfl (hon 1 (by kernel_rfl)) rfl
                replace ha := Aside0.mk ha
                have B0 := Aside0.mk Q_B0
                refine value_ (w1 := w') (v := .bool true) (by rfl) rfl ?_ ?_
                · go_simp
                  (try simp only [i64_w])
                  try rfl
                refine hK.out _ _ ⟨(by rw [ha.out]; exact putSel_upk 2 hb_ rfl rfl rfl), Q_B0⟩
              refine steps_cons ?_ ?_
              · rintro b a w' ⟨ha, Q_B0⟩ hb_ hon hoff
                refine ⟨_, rfl, fun K hK => ?_⟩
                have e2 : a.tmps[2]? = some (.pointer (some ⟨g, 0, none⟩)) := by rw [ha]; exact (putSel_off rfl).trans rfl
                have e6 : a.tmps[6]? = some (.bool true) := by rw [ha]; exact putSel_on (e := (2, 6, .bool true)) 2 rfl rfl (hon 2 (by kernel_rfl)) rfl
                replace ha := Aside0.mk ha
                have B0 := Aside0.mk Q_B0
                refine value_ (w1 := w') (v := .pointer (some ⟨g, 0, none⟩)) (wanted_on rfl rfl rfl (e6.trans (by first | rfl | (simp [*]; done)))) rfl ?_ ?_
                · go_simp
                  (try simp only [i64_w])
                  try rfl
                refine hK.out _ _ ⟨(by rw [ha.out]; exact putSel_upk 3 hb_ rfl rfl rfl), Q_B0⟩
              refine steps_cons ?_ ?_
              · rintro b a w' ⟨ha, Q_B0⟩ hb_ hon hoff
                refine ⟨_, rfl, fun K hK => ?_⟩
                have e7 : a.tmps[7]? = some (.pointer (some ⟨g, 0, none⟩)) := by rw [ha]; exact putSel_on (e := (3, 7, .pointer (some ⟨g, 0, none⟩))) 3 rfl rfl (hon 3 (by kernel_rfl)) rfl
                have e6 : a.tmps[6]? = some (.bool true) := by rw [ha]; exact putSel_on (e := (2, 6, .bool true)) 2 rfl rfl (hon 2 (by kernel_rfl)) rfl
                replace ha := Aside0.mk ha
                have B0 := Aside0.mk Q_B0
                have c_ := blk_cell (blk_below HZG.out B0.out) 0
                refine value_ (w1 := w') (v := .int .u64 x.f0) (wanted_on rfl rfl rfl (e6.trans (by first | rfl | (simp [*]; done)))) rfl ?_ ?_
                · go_simp
                  (try simp only [i64_w])
                  try rfl
                refine hK.out _ _ ⟨(by rw [ha.out]; exact putSel_upk 4 hb_ rfl rfl rfl), Q_B0⟩
              refine steps_cons ?_ ?_
              · rintro b a w' ⟨ha, Q_B0⟩ hb_ hon hoff
                refine ⟨_, rfl, fun K hK => ?_⟩
                have e1 : a.tmps[1]? = some (.pointer (some ⟨bk, 0, none⟩)) := by rw [ha]; exact (putSel_off rfl).trans rfl
                have e6 : a.tmps[6]? = some (.bool true) := by rw [ha]; exact putSel_on (e := (2, 6, .bool true)) 2 rfl rfl (hon 2 (by kernel_rfl)) rfl
                replace ha := Aside0.mk ha
                have B0 := Aside0.mk Q_B0
                refine value_ (w1 := w') (v := .pointer (some ⟨bk, 2, none⟩)) (wanted_on rfl rfl rfl (e6.trans (by first | rfl | (simp [*]; done)))) rfl ?_ ?_
                · go_simp
                  (try simp only [i64_w])
                  try rfl
                refine hK.out _ _ ⟨(by rw [ha.out]; exact putSel_upk 5 hb_ rfl rfl rfl), Q_B0⟩
              refine steps_cons ?_ ?_
              · rintro b a w' ⟨ha, Q_B0⟩ hb_ hon hoff
                refine ⟨_, rfl, fun K hK => ?_⟩
                have e9 : a.tmps[9]? = some (.pointer (some ⟨bk, 2, none⟩)) := by rw [ha]; exact putSel_on (e := (5, 9, .pointer (some ⟨bk, 2, none⟩))) 5 rfl rfl (hon 5 (by kernel_rfl)) rfl
                have e6 : a.tmps[6]? = some (.bool true) := by rw [ha]; exact putSel_on (e := (2, 6, .bool true)) 2 rfl rfl (hon 2 (by kernel_rfl)) rfl
                replace ha := Aside0.mk ha
                have B0 := Aside0.mk Q_B0
                have c_ := blk_cell (blk_below HZC.out B0.out) 2
                refine value_ (w1 := w') (v := .int .u64 id) (wanted_on rfl rfl rfl (e6.trans (by first | rfl | (simp [*]; done)))) rfl ?_ ?_
                · go_simp
                  (try simp only [i64_w])
                  try rfl
                refine hK.out _ _ ⟨(by rw [ha.out]; exact putSel_upk 6 hb_ rfl rfl rfl), Q_B0⟩
              refine steps_cons ?_ ?_
              · rintro b a w' ⟨ha, Q_B0⟩ hb_ hon hoff
                refine ⟨_, rfl, fun K hK => ?_⟩
                have e8 : a.tmps[8]? = some (.int .u64 x.f0) := by rw [ha]; exact putSel_on (e := (4, 8, .int .u64 x.f0)) 4 rfl rfl (hon 4 (by kernel_rfl)) rfl
                have e10 : a.tmps[10]? = some (.int .u64 id) := by rw [ha]; exact putSel_on (e := (6, 10, .int .u64 id)) 6 rfl rfl (hon 6 (by kernel_rfl)) rfl
                have e6 : a.tmps[6]? = some (.bool true) := by rw [ha]; exact putSel_on (e := (2, 6, .bool true)) 2 rfl rfl (hon 2 (by kernel_rfl)) rfl
                replace ha := Aside0.mk ha
                have B0 := Aside0.mk Q_B0
                have q_ := HQ.out
                refine value_ (w1 := w') (v := .bool true) (wanted_on rfl rfl rfl (e6.trans (by first | rfl | (simp [*]; done)))) rfl ?_ ?_
                · go_simp
                  (try simp only [i64_w])
                  try rfl
                refine hK.out _ _ ⟨(by rw [ha.out]; exact putSel_upk 7 hb_ rfl rfl rfl), Q_B0⟩
              refine steps_cons ?_ ?_
              · rintro b a w' ⟨ha, Q_B0⟩ hb_ hon hoff
                refine ⟨_, rfl, fun K hK => ?_⟩
                have e6 : a.tmps[6]? = some (.bool true) := by rw [ha]; exact putSel_on (e := (2, 6, .bool true)) 2 rfl rfl (hon 2 (by kernel_rfl)) rfl
                have e11 : a.tmps[11]? = some (.bool true) := by rw [ha]; exact putSel_on (e := (7, 11, .bool true)) 7 rfl rfl (hon 7 (by kernel_rfl)) rfl
                replace ha := Aside0.mk ha
                have B0 := Aside0.mk Q_B0
                refine value_ (w1 := w') (v := .bool true) (by rfl) rfl ?_ ?_
                · go_simp
                  (try simp only [i64_w])
                  try rfl
                refine hK.out _ _ ⟨(by rw [ha.out]; exact putSel_upk 8 hb_ rfl rfl rfl), Q_B0⟩
              refine steps_cons ?_ ?_
              · rintro b a w' ⟨ha, Q_B0⟩ hb_ hon hoff
                refine ⟨_, rfl, fun K hK => ?_⟩
                have e12 : a.tmps[12]? = some (.bool true) := by rw [ha]; exact putSel_on (e := (8, 12, .bool true)) 8 rfl rfl (hon 8 (by kernel_rfl)) rfl
                replace ha := Aside0.mk ha
                have B0 := Aside0.mk Q_B0
                refine value_ (w1 := w') (v := .bool true) (by rfl) rfl ?_ ?_
                · go_simp
                  (try simp only [i64_w])
                  try rfl
                refine hK.out _ _ ⟨(by rw [ha.out]; exact putSel_upk 9 hb_ rfl rfl rfl), Q_B0⟩
              refine steps_cons ?_ ?_
              · rintro b a w' ⟨ha, Q_B0⟩ hb_ hon hoff
                refine ⟨_, rfl, fun K hK => ?_⟩
                have e2 : a.tmps[2]? = some (.pointer (some ⟨g, 0, none⟩)) := by rw [ha]; exact (putSel_off rfl).trans rfl
                have e13 : a.tmps[13]? = some (.bool true) := by rw [ha]; exact putSel_on (e := (9, 13, .bool true)) 9 rfl rfl (hon 9 (by kernel_rfl)) rfl
                replace ha := Aside0.mk ha
                have B0 := Aside0.mk Q_B0
                refine value_ (w1 := w') (v := .pointer (some ⟨g, 5, none⟩)) (wanted_on rfl rfl rfl (e13.trans (by first | rfl | (simp [*]; done)))) rfl ?_ ?_
                · go_simp
                  (try simp only [i64_w])
                  try rfl
                refine hK.out _ _ ⟨(by rw [ha.out]; exact putSel_upk 10 hb_ rfl rfl rfl), Q_B0⟩
              refine steps_cons ?_ ?_
              · rintro b a w' ⟨ha, Q_B0⟩ hb_ hon hoff
                refine ⟨_, rfl, fun K hK => ?_⟩
                have e14 : a.tmps[14]? = some (.pointer (some ⟨g, 5, none⟩)) := by rw [ha]; exact putSel_on (e := (10, 14, .pointer (some ⟨g, 5, none⟩))) 10 rfl rfl (hon 10 (by kernel_rfl)) rfl
                have e13 : a.tmps[13]? = some (.bool true) := by rw [ha]; exact putSel_on (e := (9, 13, .bool true)) 9 rfl rfl (hon 9 (by kernel_rfl)) rfl
                replace ha := Aside0.mk ha
                have B0 := Aside0.mk Q_B0
                have c_ := blk_cell (blk_below HZG.out B0.out) 5
                refine value_ (w1 := w') (v := .bool false) (wanted_on rfl rfl rfl (e13.trans (by first | rfl | (simp [*]; done)))) rfl ?_ ?_
                · go_simp
                  (try simp only [i64_w])
                  try rfl
                refine hK.out _ _ ⟨(by rw [ha.out]; exact putSel_upk 11 hb_ rfl rfl rfl), Q_B0⟩
              refine steps_cons ?_ ?_
              · rintro b a w' ⟨ha, Q_B0⟩ hb_ hon hoff
                refine ⟨_, rfl, fun K hK => ?_⟩
                have e15 : a.tmps[15]? = some (.bool false) := by rw [ha]; exact putSel_on (e := (11, 15, .bool false)) 11 rfl rfl (hon 11 (by kernel_rfl)) rfl
                have e13 : a.tmps[13]? = some (.bool true) := by rw [ha]; exact putSel_on (e := (9, 13, .bool true)) 9 rfl rfl (hon 9 (by kernel_rfl)) rfl
                replace ha := Aside0.mk ha
                have B0 := Aside0.mk Q_B0
                refine value_ (w1 := w') (v := .bool true) (wanted_on rfl rfl rfl (e13.trans (by first | rfl | (simp [*]; done)))) rfl ?_ ?_
                · go_simp
                  (try simp only [i64_w])
                  try rfl
                refine hK.out _ _ ⟨(by rw [ha.out]; exact putSel_upk 12 hb_ rfl rfl rfl), Q_B0⟩
              refine steps_cons ?_ ?_
              · rintro b a w' ⟨ha, Q_B0⟩ hb_ hon hoff
                refine ⟨_, rfl, fun K hK => ?_⟩
                have e13 : a.tmps[13]? = some (.bool true) := by rw [ha]; exact putSel_on (e := (9, 13, .bool true)) 9 rfl rfl (hon 9 (by kernel_rfl)) rfl
                have e16 : a.tmps[16]? = some (.bool true) := by rw [ha]; exact putSel_on (e := (12, 16, .bool true)) 12 rfl rfl (hon 12 (by kernel_rfl)) rfl
                replace ha := Aside0.mk ha
                have B0 := Aside0.mk Q_B0
                refine value_ (w1 := w') (v := .bool true) (by rfl) rfl ?_ ?_
                · go_simp
                  (try simp only [i64_w])
                  try rfl
                refine hK.out _ _ ⟨(by rw [ha.out]; exact putSel_upk 13 hb_ rfl rfl rfl), Q_B0⟩
              refine steps_cons ?_ ?_
              · rintro b a w' ⟨ha, Q_B0⟩ hb_ hon hoff
                refine ⟨_, rfl, fun K hK => ?_⟩
                have e17 : a.tmps[17]? = some (.bool true) := by rw [ha]; exact putSel_on (e := (13, 17, .bool true)) 13 rfl rfl (hon 13 (by kernel_rfl)) rfl
                replace ha := Aside0.mk ha
                have B0 := Aside0.mk Q_B0
                refine value_ (w1 := w') (v := .bool true) (by rfl) rfl ?_ ?_
                · go_simp
                  (try simp only [i64_w])
                  try rfl
                refine hK.out _ _ ⟨(by rw [ha.out]; exact putSel_upk 14 hb_ rfl rfl rfl), Q_B0⟩
              refine steps_cons ?_ ?_
              · rintro b a w' ⟨ha, Q_B0⟩ hb_ hon hoff
                refine ⟨_, rfl, fun K hK => ?_⟩
                have e1 : a.tmps[1]? = some (.pointer (some ⟨bk, 0, none⟩)) := by rw [ha]; exact (putSel_off rfl).trans rfl
                have e18 : a.tmps[18]? = some (.bool true) := by rw [ha]; exact putSel_on (e := (14, 18, .bool true)) 14 rfl rfl (hon 14 (by kernel_rfl)) rfl
                replace ha := Aside0.mk ha
                have B0 := Aside0.mk Q_B0
                refine value_ (w1 := w') (v := .pointer (some ⟨bk, 3, none⟩)) (wanted_on rfl rfl rfl (e18.trans (by first | rfl | (simp [*]; done)))) rfl ?_ ?_
                · go_simp
                  (try simp only [i64_w])
                  try rfl
                refine hK.out _ _ ⟨(by rw [ha.out]; exact putSel_upk 15 hb_ rfl rfl rfl), Q_B0⟩
              refine steps_cons ?_ ?_
              · rintro b a w' ⟨ha, Q_B0⟩ hb_ hon hoff
                refine ⟨_, rfl, fun K hK => ?_⟩
                have e19 : a.tmps[19]? = some (.pointer (some ⟨bk, 3, none⟩)) := by rw [ha]; exact putSel_on (e := (15, 19, .pointer (some ⟨bk, 3, none⟩))) 15 rfl rfl (hon 15 (by kernel_rfl)) rfl
                have e18 : a.tmps[18]? = some (.bool true) := by rw [ha]; exact putSel_on (e := (14, 18, .bool true)) 14 rfl rfl (hon 14 (by kernel_rfl)) rfl
                replace ha := Aside0.mk ha
                have B0 := Aside0.mk Q_B0
                have c_ := blk_cell (blk_below HZC.out B0.out) 3
                refine value_ (w1 := w') (v := .int .i64 I) (wanted_on rfl rfl rfl (e18.trans (by first | rfl | (simp [*]; done)))) rfl ?_ ?_
                · go_simp
                  (try simp only [i64_w])
                  try rfl
                refine hK.out _ _ ⟨(by rw [ha.out]; exact putSel_upk 16 hb_ rfl rfl rfl), Q_B0⟩
              refine steps_cons ?_ ?_
              · rintro b a w' ⟨ha, Q_B0⟩ hb_ hon hoff
                refine ⟨_, rfl, fun K hK => ?_⟩
                have e20 : a.tmps[20]? = some (.int .i64 I) := by rw [ha]; exact putSel_on (e := (16, 20, .int .i64 I)) 16 rfl rfl (hon 16 (by kernel_rfl)) rfl
                have e18 : a.tmps[18]? = some (.bool true) := by rw [ha]; exact putSel_on (e := (14, 18, .bool true)) 14 rfl rfl (hon 14 (by kernel_rfl)) rfl
                replace ha := Aside0.mk ha
                have B0 := Aside0.mk Q_B0
                have q_ := HGE.out
                refine value_ (w1 := w') (v := .bool true) (wanted_on rfl rfl rfl (e18.trans (by first | rfl | (simp [*]; done)))) rfl ?_ ?_
                · go_simp
                  (try simp only [i64_w])
                  try rfl
                refine hK.out _ _ ⟨(by rw [ha.out]; exact putSel_upk 17 hb_ rfl rfl rfl), Q_B0⟩
              refine steps_cons ?_ ?_
              · rintro b a w' ⟨ha, Q_B0⟩ hb_ hon hoff
                refine ⟨_, rfl, fun K hK => ?_⟩
                have e18 : a.tmps[18]? = some (.bool true) := by rw [ha]; exact putSel_on (e := (14, 18, .bool true)) 14 rfl rfl (hon 14 (by kernel_rfl)) rfl
                have e21 : a.tmps[21]? = some (.bool true) := by rw [ha]; exact putSel_on (e := (17, 21, .bool true)) 17 rfl rfl (hon 17 (by kernel_rfl)) rfl
                replace ha := Aside0.mk ha
                have B0 := Aside0.mk Q_B0
                refine value_ (w1 := w') (v := .bool true) (by rfl) rfl ?_ ?_
                · go_simp
                  (try simp only [i64_w])
                  try rfl
                refine hK.out _ _ ⟨(by rw [ha.out]; exact putSel_upk 18 hb_ rfl rfl rfl), Q_B0⟩
              refine steps_cons ?_ ?_
              · rintro b a w' ⟨ha, Q_B0⟩ hb_ hon hoff
                refine ⟨_, rfl, fun K hK => ?_⟩
                have e22 : a.tmps[22]? = some (.bool true) := by rw [ha]; exact putSel_on (e := (18, 22, .bool true)) 18 rfl rfl (hon 18 (by kernel_rfl)) rfl
                replace ha := Aside0.mk ha
                have B0 := Aside0.mk Q_B0
                refine value_ (w1 := w') (v := .bool true) (by rfl) rfl ?_ ?_
                · go_simp
                  (try simp only [i64_w])
                  try rfl
                refine hK.out _ _ ⟨(by rw [ha.out]; exact putSel_upk 19 hb_ rfl rfl rfl), Q_B0⟩
              refine steps_cons ?_ ?_
              · rintro b a w' ⟨ha, Q_B0⟩ hb_ hon hoff
                refine ⟨_, rfl, fun K hK => ?_⟩
                have e1 : a.tmps[1]? = some (.pointer (some ⟨bk, 0, none⟩)) := by rw [ha]; exact (putSel_off rfl).trans rfl
                have e23 : a.tmps[23]? = some (.bool true) := by rw [ha]; exact putSel_on (e := (19, 23, .bool true)) 19 rfl rfl (hon 19 (by kernel_rfl)) rfl
                replace ha := Aside0.mk ha
                have B0 := Aside0.mk Q_B0
                refine value_ (w1 := w') (v := .pointer (some ⟨bk, 3, none⟩)) (wanted_on rfl rfl rfl (e23.trans (by first | rfl | (simp [*]; done)))) rfl ?_ ?_
                · go_simp
                  (try simp only [i64_w])
                  try rfl
                refine hK.out _ _ ⟨(by rw [ha.out]; exact putSel_upk 20 hb_ rfl rfl rfl), Q_B0⟩
              refine steps_cons ?_ ?_
              · rintro b a w' ⟨ha, Q_B0⟩ hb_ hon hoff
                refine ⟨_, rfl, fun K hK => ?_⟩
                have e24 : a.tmps[24]? = some (.pointer (some ⟨bk, 3, none⟩)) := by rw [ha]; exact putSel_on (e := (20, 24, .pointer (some ⟨bk, 3, none⟩))) 20 rfl rfl (hon 20 (by kernel_rfl)) rfl
                have e23 : a.tmps[23]? = some (.bool true) := by rw [ha]; exact putSel_on (e := (19, 23, .bool true)) 19 rfl rfl (hon 19 (by kernel_rfl)) rfl
                replace ha := Aside0.mk ha
                have B0 := Aside0.mk Q_B0
                have c_ := blk_cell (blk_below HZC.out B0.out) 3
                refine value_ (w1 := w') (v := .int .i64 I) (wanted_on rfl rfl rfl (e23.trans (by first | rfl | (simp [*]; done)))) rfl ?_ ?_
                · go_simp
                  (try simp only [i64_w])
                  try rfl
                refine hK.out _ _ ⟨(by rw [ha.out]; exact putSel_upk 21 hb_ rfl rfl rfl), Q_B0⟩
              refine steps_cons ?_ ?_
              · rintro b a w' ⟨ha, Q_B0⟩ hb_ hon hoff
                refine ⟨_, rfl, fun K hK => ?_⟩
                have e2 : a.tmps[2]? = some (.pointer (some ⟨g, 0, none⟩)) := by rw [ha]; exact (putSel_off rfl).trans rfl
                have e23 : a.tmps[23]? = some (.bool true) := by rw [ha]; exact putSel_on (e := (19, 23, .bool true)) 19 rfl rfl (hon 19 (by kernel_rfl)) rfl
                replace ha := Aside0.mk ha
                have B0 := Aside0.mk Q_B0
                refine value_ (w1 := w') (v := .pointer (some ⟨g, 3, none⟩)) (wanted_on rfl rfl rfl (e23.trans (by first | rfl | (simp [*]; done)))) rfl ?_ ?_
                · go_simp
                  (try simp only [i64_w])
                  try rfl
                refine hK.out _ _ ⟨(by rw [ha.out]; exact putSel_upk 22 hb_ rfl rfl rfl), Q_B0⟩
              refine steps_cons ?_ ?_
              · rintro b a w' ⟨ha, Q_B0⟩ hb_ hon hoff
                refine ⟨_, rfl, fun K hK => ?_⟩
                have e26 : a.tmps[26]? = some (.pointer (some ⟨g, 3, none⟩)) := by rw [ha]; exact putSel_on (e := (22, 26, .pointer (some ⟨g, 3, none⟩))) 22 rfl rfl (hon 22 (by kernel_rfl)) rfl
                have e23 : a.tmps[23]? = some (.bool true) := by rw [ha]; exact putSel_on (e := (19, 23, .bool true)) 19 rfl rfl (hon 19 (by kernel_rfl)) rfl
                replace ha := Aside0.mk ha
                have B0 := Aside0.mk Q_B0
                have c_ := blk_cell (blk_below HZG.out B0.out) 3
                refine value_ (w1 := w') (v := .int .i64 x.f3) (wanted_on rfl rfl rfl (e23.trans (by first | rfl | (simp [*]; done)))) rfl ?_ ?_
                · go_simp
                  (try simp only [i64_w])
                  try rfl
                refine hK.out _ _ ⟨(by rw [ha.out]; exact putSel_upk 23 hb_ rfl rfl rfl), Q_B0⟩
              refine steps_cons ?_ ?_
              · rintro b a w' ⟨ha, Q_B0⟩ hb_ hon hoff
                refine ⟨_, rfl, fun K hK => ?_⟩
                have e27 : a.tmps[27]? = some (.int .i64 x.f3) := by rw [ha]; exact putSel_on (e := (23, 27, .int .i64 x.f3)) 23 rfl rfl (hon 23 (by kernel_rfl)) rfl
                have e23 : a.tmps[23]? = some (.bool true) := by rw [ha]; exact putSel_on (e := (19, 23, .bool true)) 19 rfl rfl (hon 19 (by kernel_rfl)) rfl
                replace ha := Aside0.mk ha
                have B0 := Aside0.mk Q_B0
                refine goes_ Try.func29 (by kernel_rfl) rfl #[.int .i64 x.f3] (wanted_on rfl rfl rfl (e23.trans rfl)) rfl rfl (by first | (simp only [List.map_toArray, List.map_cons, List.map_nil, Act.eval, Array.getD_eq_getD_getElem?, Option.getD_some, e27, e23]; done) | (simp only [List.map_toArray, List.map_cons, List.map_nil, Act.eval, Array.getD_eq_getD_getElem?, Option.getD_some, e27, e23]; rfl)) ?_
                with_reducible refine (HFR.out _).mono ?_
                rintro e w2 ⟨rfl, hb⟩
                refine ⟨_, rfl, ?_⟩
                refine hK.out _ _ ⟨(by rw [ha.out]; exact putSel_upk 24 hb_ rfl rfl rfl), below_then B0.out B0.out.size hb⟩
              refine steps_cons ?_ ?_
              · rintro b a w' ⟨ha, Q_B0⟩ hb_ hon hoff
                refine ⟨_, rfl, fun K hK => ?_⟩
                have e25 : a.tmps[25]? = some (.int .i64 I) := by rw [ha]; exact putSel_on (e := (21, 25, .int .i64 I)) 21 rfl rfl (hon 21 (by kernel_rfl)) rfl
                have e28 : a.tmps[28]? = some (.int .i64 (fr x.f3)) := by rw [ha]; exact putSel_on (e := (24, 28, .int .i64 (fr x.f3))) 24 rfl rfl (hon 24 (by kernel_rfl)) rfl
                have e23 : a.tmps[23]? = some (.bool true) := by rw [ha]; exact putSel_on (e := (19, 23, .bool true)) 19 rfl rfl (hon 19 (by kernel_rfl)) rfl
                replace ha := Aside0.mk ha
                have B0 := Aside0.mk Q_B0
                have q_ := HLT.out
                refine value_ (w1 := w') (v := .bool false) (wanted_on rfl rfl rfl (e23.trans (by first | rfl | (simp [*]; done)))) rfl ?_ ?_
                · go_simp
                  (try simp only [i64_w])
                  try rfl
                refine hK.out _ _ ⟨(by rw [ha.out]; exact putSel_upk 25 hb_ rfl rfl rfl), Q_B0⟩
              refine steps_cons ?_ ?_
              · rintro b a w' ⟨ha, Q_B0⟩ hb_ hon hoff
                refine ⟨_, rfl, fun K hK => ?_⟩
                have e23 : a.tmps[23]? = some (.bool true) := by rw [ha]; exact putSel_on (e := (19, 23, .bool true)) 19 rfl rfl (hon 19 (by kernel_rfl)) rfl
                have e29 : a.tmps[29]? = some (.bool false) := by rw [ha]; exact putSel_on (e := (25, 29, .bool false)) 25 rfl rfl (hon 25 (by kernel_rfl)) rfl
                replace ha := Aside0.mk ha
                have B0 := Aside0.mk Q_B0
                refine value_ (w1 := w') (v := .bool false) (by rfl) rfl ?_ ?_
                · go_simp
                  (try simp only [i64_w])
                  try rfl
                refine hK.out _ _ ⟨(by rw [ha.out]; exact putSel_upk 26 hb_ rfl rfl rfl), Q_B0⟩
              refine steps_cons ?_ ?_
              · rintro b a w' ⟨ha, Q_B0⟩ hb_ hon hoff
                refine ⟨_, rfl, fun K hK => ?_⟩
                have e30 : a.tmps[30]? = some (.bool false) := by rw [ha]; exact putSel_on (e := (26, 30, .bool false)) 26 rfl rfl (hon 26 (by kernel_rfl)) rfl
                replace ha := Aside0.mk ha
                have B0 := Aside0.mk Q_B0
                refine value_ (w1 := w') (v := .bool false) (by rfl) rfl ?_ ?_
                · go_simp
                  (try simp only [i64_w])
                  try rfl
                refine hK.out _ _ ⟨(by rw [ha.out]; exact putSel_upk 27 hb_ rfl rfl rfl), Q_B0⟩
              exact steps_nil
            rintro b a wl hall ⟨ha, Q_B0⟩
            clear B0
            have hb0_ := hall 0 (by kernel_rfl)
            have hb1_ := hall 1 (by kernel_rfl)
            have hb2_ := hall 2 (by kernel_rfl)
            have hb3_ := hall 3 (by kernel_rfl)
            have hb4_ := hall 4 (by kernel_rfl)
            have hb5_ := hall 5 (by kernel_rfl)
            have hb6_ := hall 6 (by kernel_rfl)
            have hb7_ := hall 7 (by kernel_rfl)
            have hb8_ := hall 8 (by kernel_rfl)
            have hb9_ := hall 9 (by kernel_rfl)
            have hb10_ := hall 10 (by kernel_rfl)
            have hb11_ := hall 11 (by kernel_rfl)
            have hb12_ := hall 12 (by kernel_rfl)
            have hb13_ := hall 13 (by kernel_rfl)
            have hb14_ := hall 14 (by kernel_rfl)
            have hb15_ := hall 15 (by kernel_rfl)
            have hb16_ := hall 16 (by kernel_rfl)
            have hb17_ := hall 17 (by kernel_rfl)
            have hb18_ := hall 18 (by kernel_rfl)
            have hb19_ := hall 19 (by kernel_rfl)
            have hb20_ := hall 20 (by kernel_rfl)
            have hb21_ := hall 21 (by kernel_rfl)
            have hb22_ := hall 22 (by kernel_rfl)
            have hb23_ := hall 23 (by kernel_rfl)
            have hb24_ := hall 24 (by kernel_rfl)
            have hb25_ := hall 25 (by kernel_rfl)
            have hb26_ := hall 26 (by kernel_rfl)
            have hb27_ := hall 27 (by kernel_rfl)
            subst ha
            simp only [putSel, hb0_, hb1_, hb2_, hb3_, hb4_, hb5_, hb6_, hb7_, hb8_, hb9_, hb10_, hb11_, hb12_, hb13_, hb14_, hb15_, hb16_, hb17_, hb18_, hb19_, hb20_, hb21_, hb22_, hb23_, hb24_, hb25_, hb26_, hb27_, if_true, Act.put, List.setIfInBounds_toArray, List.set_cons_zero, List.set_cons_succ]
            have B0 := Aside0.mk Q_B0
            clear Q_B0
            clear hall hb0_ hb1_ hb2_ hb3_ hb4_ hb5_ hb6_ hb7_ hb8_ hb9_ hb10_ hb11_ hb12_ hb13_ hb14_ hb15_ hb16_ hb17_ hb18_ hb19_ hb20_ hb21_ hb22_ hb23_ hb24_ hb25_ hb26_ hb27_
            go_wp2_with fail
            go_ret
            exact ⟨by rw [HM.out] <;> rfl, below_then HBB.out HBB.out.size B0.out⟩
          | true =>
            have HLT := Aside0.mk hlt
            have HM := Aside0.mk (show mineB true id I x = true from by simp only [mineB, hq, hp, hge, hlt]; rfl)
            refine start_ (n := 28) (S := fun w' => True) (ds := []) #[false, false, false, false, false, false, false, false, false, false, false, false, false, false, false, false, false, false, false, false, false, false, false, false, false, false, false, false] (by kernel_rfl) rfl rfl trivial (fun hHeld => ?_)
            refine with_tabW mine1.tab1 mine1.bits1 (fun HT_ HW_ => ?_)
            generalize W1.drew = wq at B0 HZC HZG HBB hHeld ⊢
            refine inv_at [0, 1, 2, 3, 4, 5, 6, 7, 8, 9, 10, 11, 12, 13, 14, 15, 16, 17, 18, 19, 20, 21, 22, 23, 24, 25, 26, 27] (fun a0_ b a w' => a = putSel a0_ b [(0, 4, .pointer (some ⟨bk, 0, none⟩)), (1, 5, .bool true), (2, 6, .bool true), (3, 7, .pointer (some ⟨g, 0, none⟩)), (4, 8, .int .u64 x.f0), (5, 9, .pointer (some ⟨bk, 2, none⟩)), (6, 10, .int .u64 id), (7, 11, .bool true), (8, 12, .bool true), (9, 13, .bool true), (10, 14, .pointer (some ⟨g, 5, none⟩)), (11, 15, .bool false), (12, 16, .bool true), (13, 17, .bool true), (14, 18, .bool true), (15, 19, .pointer (some ⟨bk, 3, none⟩)), (16, 20, .int .i64 I), (17, 21, .bool true), (18, 22, .bool true), (19, 23, .bool true), (20, 24, .pointer (some ⟨bk, 3, none⟩)), (21, 25, .int .i64 I), (22, 26, .pointer (some ⟨g, 3, none⟩)), (23, 27, .int .i64 x.f3), (24, 28, .int .i64 (fr x.f3)), (25, 29, .bool true), (26, 30, .bool true), (27, 3, .bool true)] ∧ (Below wq.heap.size wq w')) HT_.out HW_.out (by kernel_rfl) (by kernel_rfl) ?_ ?_ ?_
            · exact ⟨by simp only [putSel, Bool.false_eq_true, if_false], B0.out⟩
            · skip
              clear B0
              refine steps_cons ?_ ?_
              · rintro b a w' ⟨ha, Q_B0⟩ hb_ hon hoff
                refine ⟨_, rfl, fun K hK => ?_⟩
                have e1 : a.tmps[1]? = some (.pointer (some ⟨bk, 0, none⟩)) := by rw [ha]; exact (putSel_off rfl).trans rfl
                replace ha := Aside0.mk ha
                have B0 := Aside0.mk Q_B0
                refine value_ (w1 := w') (v := .pointer (some ⟨bk, 0, none⟩)) (by rfl) rfl ?_ ?_
                · go_simp
                  (try simp only [i64_w])
                  try rfl
                refine hK.out _ _ ⟨(by rw [ha.out]; exact putSel_upk 0 hb_ rfl rfl rfl), Q_B0⟩
              refine steps_cons ?_ ?_
              · rintro b a w' ⟨ha, Q_B0⟩ hb_ hon hoff
                refine ⟨_, rfl, fun K hK => ?_⟩
                have e4 : a.tmps[4]? = some (.pointer (some ⟨bk, 0, none⟩)) := by rw [ha]; exact putSel_on (e := (0, 4, .pointer (some ⟨bk, 0, none⟩))) 0 rfl rfl (hon 0 (by kernel_rfl)) rfl
                replace ha := Aside0.mk ha
                have B0 := Aside0.mk Q_B0
                have c_ := blk_cell (blk_below HZC.out B0.out) 0
                refine value_ (w1 := w') (v := .bool true) (by rfl) rfl ?_ ?_
                · go_simp
                  (try simp only [i64_w])
                  try rfl
                refine hK.out _ _ ⟨(by rw [ha.out]; exact putSel_upk 1 hb_ rfl rfl rfl), Q_B0⟩
              refine steps_cons ?_ ?_
              · rintro b a w' ⟨ha, Q_B0⟩ hb_ hon hoff
                refine ⟨_, rfl, fun K hK => ?_⟩
                have e5 : a.tmps[5]? = some (.bool true) := by rw [ha]; exact putSel_on (e := (1, 5, .bool true)) 1 rfl rfl (hon 1 (by kernel_rfl)) rfl
                replace ha := Aside0.mk ha
                have B0 := Aside0.mk Q_B0
                refine value_ (w1 := w') (v := .bool true) (by rfl) rfl ?_ ?_
                · go_simp
                  (try simp only [i64_w])
                  try rfl
                refine hK.out _ _ ⟨(by rw [ha.out]; exact putSel_upk 2 hb_ rfl rfl rfl), Q_B0⟩
              refine steps_cons ?_ ?_
              · rintro b a w' ⟨ha, Q_B0⟩ hb_ hon hoff
                refine ⟨_, rfl, fun K hK => ?_⟩
                have e2 : a.tmps[2]? = some (.pointer (some ⟨g, 0, none⟩)) := by rw [ha]; exact (putSel_off rfl).trans rfl
                have e6 : a.tmps[6]? = some (.bool true) := by rw [ha]; exact putSel_on (e := (2, 6, .bool true)) 2 rfl rfl (hon 2 (by kernel_rfl)) rfl
                replace ha := Aside0.mk ha
                have B0 := Aside0.mk Q_B0
                refine value_ (w1 := w') (v := .pointer (some ⟨g, 0, none⟩)) (wanted_on rfl rfl rfl (e6.trans (by first | rfl | (simp [*]; done)))) rfl ?_ ?_
                · go_simp
                  (try simp only [i64_w])
                  try rfl
                refine hK.out _ _ ⟨(by rw [ha.out]; exact putSel_upk 3 hb_ rfl rfl rfl), Q_B0⟩
              refine steps_cons ?_ ?_
              · rintro b a w' ⟨ha, Q_B0⟩ hb_ hon hoff
                refine ⟨_, rfl, fun K hK => ?_⟩
                have e7 : a.tmps[7]? = some (.pointer (some ⟨g, 0, none⟩)) := by rw [ha]; exact putSel_on (e := (3, 7, .pointer (some ⟨g, 0, none⟩))) 3 rfl rfl (hon 3 (by kernel_rfl)) rfl
                have e6 : a.tmps[6]? = some (.bool true) := by rw [ha]; exact putSel_on (e := (2, 6, .bool true)) 2 rfl rfl (hon 2 (by kernel_rfl)) rfl
                replace ha := Aside0.mk ha
                have B0 := Aside0.mk Q_B0
                have c_ := blk_cell (blk_below HZG.out B0.out) 0
                refine value_ (w1 := w') (v := .int .u64 x.f0) (wanted_on rfl rfl rfl (e6.trans (by first | rfl | (simp [*]; done)))) rfl ?_ ?_
                · go_simp
                  (try simp only [i64_w])
                  try rfl
                refine hK.out _ _ ⟨(by rw [ha.out]; exact putSel_upk 4 hb_ rfl rfl rfl), Q_B0⟩
              refine steps_cons ?_ ?_
              · rintro b a w' ⟨ha, Q_B0⟩ hb_ hon hoff
                refine ⟨_, rfl, fun K hK => ?_⟩
                have e1 : a.tmps[1]? = some (.pointer (some ⟨bk, 0, none⟩)) := by rw [ha]; exact (putSel_off rfl).trans rfl
                have e6 : a.tmps[6]? = some (.bool true) := by rw [ha]; exact putSel_on (e := (2, 6, .bool true)) 2 rfl rfl (hon 2 (by kernel_rfl)) rfl
                replace ha := Aside0.mk ha
                have B0 := Aside0.mk Q_B0
                refine value_ (w1 := w') (v := .pointer (some ⟨bk, 2, none⟩)) (wanted_on rfl rfl rfl (e6.trans (by first | rfl | (simp [*]; done)))) rfl ?_ ?_
                · go_simp
                  (try simp only [i64_w])
                  try rfl
                refine hK.out _ _ ⟨(by rw [ha.out]; exact putSel_upk 5 hb_ rfl rfl rfl), Q_B0⟩
              refine steps_cons ?_ ?_
              · rintro b a w' ⟨ha, Q_B0⟩ hb_ hon hoff
                refine ⟨_, rfl, fun K hK => ?_⟩
                have e9 : a.tmps[9]? = some (.pointer (some ⟨bk, 2, none⟩)) := by rw [ha]; exact putSel_on (e := (5, 9, .pointer (some ⟨bk, 2, none⟩))) 5 rfl rfl (hon 5 (by kernel_rfl)) rfl
                have e6 : a.tmps[6]? = some (.bool true) := by rw [ha]; exact putSel_on (e := (2, 6, .bool true)) 2 rfl rfl (hon 2 (by kernel_rfl)) rfl
                replace ha := Aside0.mk ha
                have B0 := Aside0.mk Q_B0
                have c_ := blk_cell (blk_below HZC.out B0.out) 2
                refine value_ (w1 := w') (v := .int .u64 id) (wanted_on rfl rfl rfl (e6.trans (by first | rfl | (simp [*]; done)))) rfl ?_ ?_
                · go_simp
                  (try simp only [i64_w])
                  try rfl
                refine hK.out _ _ ⟨(by rw [ha.out]; exact putSel_upk 6 hb_ rfl rfl rfl), Q_B0⟩
              refine steps_cons ?_ ?_
              · rintro b a w' ⟨ha, Q_B0⟩ hb_ hon hoff
                refine ⟨_, rfl, fun K hK => ?_⟩
                have e8 : a.tmps[8]? = some (.int .u64 x.f0) := by rw [ha]; exact putSel_on (e := (4, 8, .int .u64 x.f0)) 4 rfl rfl (hon 4 (by kernel_rfl)) rfl
                have e10 : a.tmps[10]? = some (.int .u64 id) := by rw [ha]; exact putSel_on (e := (6, 10, .int .u64 id)) 6 rfl rfl (hon 6 (by kernel_rfl)) rfl
                have e6 : a.tmps[6]? = some (.bool true) := by rw [ha]; exact putSel_on (e := (2, 6, .bool true)) 2 rfl rfl (hon 2 (by kernel_rfl)) rfl
                replace ha := Aside0.mk ha
                have B0 := Aside0.mk Q_B0
                have q_ := HQ.out
                refine value_ (w1 := w') (v := .bool true) (wanted_on rfl rfl rfl (e6.trans (by first | rfl | (simp [*]; done)))) rfl ?_ ?_
                · go_simp
                  (try simp only [i64_w])
                  try rfl
                refine hK.out _ _ ⟨(by rw [ha.out]; exact putSel_upk 7 hb_ rfl rfl rfl), Q_B0⟩
              refine steps_cons ?_ ?_
              · rintro b a w' ⟨ha, Q_B0⟩ hb_ hon hoff
                refine ⟨_, rfl, fun K hK => ?_⟩
                have e6 : a.tmps[6]? = some (.bool true) := by rw [ha]; exact putSel_on (e := (2, 6, .bool true)) 2 rfl rfl (hon 2 (by kernel_rfl)) rfl
                have e11 : a.tmps[11]? = some (.bool true) := by rw [ha]; exact putSel_on (e := (7, 11, .bool true)) 7 rfl rfl (hon 7 (by kernel_rfl)) rfl
                replace ha := Aside0.mk ha
                have B0 := Aside0.mk Q_B0
                refine value_ (w1 := w') (v := .bool true) (by rfl) rfl ?_ ?_
                · go_simp
                  (try simp only [i64_w])
                  try rfl
                refine hK.out _ _ ⟨(by rw [ha.out]; exact putSel_upk 8 hb_ rfl rfl rfl), Q_B0⟩
              refine steps_cons ?_ ?_
              · rintro b a w' ⟨ha, Q_B0⟩ hb_ hon hoff
                refine ⟨_, rfl, fun K hK => ?_⟩
                have e12 : a.tmps[12]? = some (.bool true) := by rw [ha]; exact putSel_on (e := (8, 12, .bool true)) 8 rfl rfl (hon 8 (by kernel_rfl)) rfl
                replace ha := Aside0.mk ha
                have B0 := Aside0.mk Q_B0
                refine value_ (w1 := w') (v := .bool true) (by rfl) rfl ?_ ?_
                · go_simp
                  (try simp only [i64_w])
                  try rfl
                refine hK.out _ _ ⟨(by rw [ha.out]; exact putSel_upk 9 hb_ rfl rfl rfl), Q_B0⟩
              refine steps_cons ?_ ?_
              · rintro b a w' ⟨ha, Q_B0⟩ hb_ hon hoff
                refine ⟨_, rfl, fun K hK => ?_⟩
                have e2 : a.tmps[2]? = some (.pointer (some ⟨g, 0, none⟩)) := by rw [ha]; exact (putSel_off rfl).trans rfl
                have e13 : a.tmps[13]? = some (.bool true) := by rw [ha]; exact putSel_on (e := (9, 13, .bool true)) 9 rfl rfl (hon 9 (by kernel_rfl)) rfl
                replace ha := Aside0.mk ha
                have B0 := Aside0.mk Q_B0
                refine value_ (w1 := w') (v := .pointer (some ⟨g, 5, none⟩)) (wanted_on rfl rfl rfl (e13.trans (by first | rfl | (simp [*]; done)))) rfl ?_ ?_
                · go_simp
                  (try simp only [i64_w])
                  try rfl
                refine hK.out _ _ ⟨(by rw [ha.out]; exact putSel_upk 10 hb_ rfl rfl rfl), Q_B0⟩
              refine steps_cons ?_ ?_
              · rintro b a w' ⟨ha, Q_B0⟩ hb_ hon hoff
                refine ⟨_, rfl, fun K hK => ?_⟩
                have e14 : a.tmps[14]? = some (.pointer (some ⟨g, 5, none⟩)) := by rw [ha]; exact putSel_on (e := (10, 14, .pointer (some ⟨g, 5, none⟩))) 10 rfl rfl (hon 10 (by kernel_rfl)) rfl
                have e13 : a.tmps[13]? = some (.bool true) := by rw [ha]; exact putSel_on (e := (9, 13, .bool true)) 9 rfl rfl (hon 9 (by kernel_rfl)) rfl
                replace ha := Aside0.mk ha
                have B0 := Aside0.mk Q_B0
                have c_ := blk_cell (blk_below HZG.out B0.out) 5
                refine value_ (w1 := w') (v := .bool false) (wanted_on rfl rfl rfl (e13.trans (by first | rfl | (simp [*]; done)))) rfl ?_ ?_
                · go_simp
                  (try simp only [i64_w])
                  try rfl
                refine hK.out _ _ ⟨(by rw [ha.out]; exact putSel_upk 11 hb_ rfl rfl rfl), Q_B0⟩
              refine steps_cons ?_ ?_
              · rintro b a w' ⟨ha, Q_B0⟩ hb_ hon hoff
                refine ⟨_, rfl, fun K hK => ?_⟩
                have e15 : a.tmps[15]? = some (.bool false) := by rw [ha]; exact putSel_on (e := (11, 15, .bool false)) 11 rfl rfl (hon 11 (by kernel_rfl)) rfl
                have e13 : a.tmps[13]? = some (.bool true) := by rw [ha]; exact putSel_on (e := (9, 13, .bool true)) 9 rfl rfl (hon 9 (by kernel_rfl)) rfl
                replace ha := Aside0.mk ha
                have B0 := Aside0.mk Q_B0
                refine value_ (w1 := w') (v := .bool true) (wanted_on rfl rfl rfl (e13.trans (by first | rfl | (simp [*]; done)))) rfl ?_ ?_
                · go_simp
                  (try simp only [i64_w])
                  try rfl
                refine hK.out _ _ ⟨(by rw [ha.out]; exact putSel_upk 12 hb_ rfl rfl rfl), Q_B0⟩
              refine steps_cons ?_ ?_
              · rintro b a w' ⟨ha, Q_B0⟩ hb_ hon hoff
                refine ⟨_, rfl, fun K hK => ?_⟩
                have e13 : a.tmps[13]? = some (.bool true) := by rw [ha]; exact putSel_on (e := (9, 13, .bool true)) 9 rfl rfl (hon 9 (by kernel_rfl)) rfl
                have e16 : a.tmps[16]? = some (.bool true) := by rw [ha]; exact putSel_on (e := (12, 16, .bool true)) 12 rfl rfl (hon 12 (by kernel_rfl)) rfl
                replace ha := Aside0.mk ha
                have B0 := Aside0.mk Q_B0
                refine value_ (w1 := w') (v := .bool true) (by rfl) rfl ?_ ?_
                · go_simp
                  (try simp only [i64_w])
                  try rfl
                refine hK.out _ _ ⟨(by rw [ha.out]; exact putSel_upk 13 hb_ rfl rfl rfl), Q_B0⟩
              refine steps_cons ?_ ?_
              · rintro b a w' ⟨ha, Q_B0⟩ hb_ hon hoff
                refine ⟨_, rfl, fun K hK => ?_⟩
                have e17 : a.tmps[17]? = some (.bool true) := by rw [ha]; exact putSel_on (e := (13, 17, .bool true)) 13 rfl rfl (hon 13 (by kernel_rfl)) rfl
                replace ha := Aside0.mk ha
                have B0 := Aside0.mk Q_B0
                refine value_ (w1 := w') (v := .bool true) (by rfl) rfl ?_ ?_
                · go_simp
                  (try simp only [i64_w])
                  try rfl
                refine hK.out _ _ ⟨(by rw [ha.out]; exact putSel_upk 14 hb_ rfl rfl rfl), Q_B0⟩
              refine steps_cons ?_ ?_
              · rintro b a w' ⟨ha, Q_B0⟩ hb_ hon hoff
                refine ⟨_, rfl, fun K hK => ?_⟩
                have e1 : a.tmps[1]? = some (.pointer (some ⟨bk, 0, none⟩)) := by rw [ha]; exact (putSel_off rfl).trans rfl
                have e18 : a.tmps[18]? = some (.bool true) := by rw [ha]; exact putSel_on (e := (14, 18, .bool true)) 14 rfl rfl (hon 14 (by kernel_rfl)) rfl
                replace ha := Aside0.mk ha
                have B0 := Aside0.mk Q_B0
                refine value_ (w1 := w') (v := .pointer (some ⟨bk, 3, none⟩)) (wanted_on rfl rfl rfl (e18.trans (by first | rfl | (simp [*]; done)))) rfl ?_ ?_
                · go_simp
                  (try simp only [i64_w])
                  try rfl
                refine hK.out _ _ ⟨(by rw [ha.out]; exact putSel_upk 15 hb_ rfl rfl rfl), Q_B0⟩
              refine steps_cons ?_ ?_
              · rintro b a w' ⟨ha, Q_B0⟩ hb_ hon hoff
                refine ⟨_, rfl, fun K hK => ?_⟩
                have e19 : a.tmps[19]? = some (.pointer (some ⟨bk, 3, none⟩)) := by rw [ha]; exact putSel_on (e := (15, 19, .pointer (some ⟨bk, 3, none⟩))) 15 rfl rfl (hon 15 (by kernel_rfl)) rfl
                have e18 : a.tmps[18]? = some (.bool true) := by rw [ha]; exact putSel_on (e := (14, 18, .bool true)) 14 rfl rfl (hon 14 (by kernel_rfl)) rfl
                replace ha := Aside0.mk ha
                have B0 := Aside0.mk Q_B0
                have c_ := blk_cell (blk_below HZC.out B0.out) 3
                refine value_ (w1 := w') (v := .int .i64 I) (wanted_on rfl rfl rfl (e18.trans (by first | rfl | (simp [*]; done)))) rfl ?_ ?_
                · go_simp
                  (try simp only [i64_w])
                  try rfl
                refine hK.out _ _ ⟨(by rw [ha.out]; exact putSel_upk 16 hb_ rfl rfl rfl), Q_B0⟩
              refine steps_cons ?_ ?_
              · rintro b a w' ⟨ha, Q_B0⟩ hb_ hon hoff
                refine ⟨_, rfl, fun K hK => ?_⟩
                have e20 : a.tmps[20]? = some (.int .i64 I) := by rw [ha]; exact putSel_on (e := (16, 20, .int .i64 I)) 16 rfl rfl (hon 16 (by kernel_rfl)) rfl
                have e18 : a.tmps[18]? = some (.bool true) := by rw [ha]; exact putSel_on (e := (14, 18, .bool true)) 14 rfl rfl (hon 14 (by kernel_rfl)) rfl
                replace ha := Aside0.mk ha
                have B0 := Aside0.mk Q_B0
                have q_ := HGE.out
                refine value_ (w1 := w') (v := .bool true) (wanted_on rfl rfl rfl (e18.trans (by first | rfl | (simp [*]; done)))) rfl ?_ ?_
                · go_simp
                  (try simp only [i64_w])
                  try rfl
                refine hK.out _ _ ⟨(by rw [ha.out]; exact putSel_upk 17 hb_ rfl rfl rfl), Q_B0⟩
              refine steps_cons ?_ ?_
              · rintro b a w' ⟨ha, Q_B0⟩ hb_ hon hoff
                refine ⟨_, rfl, fun K hK => ?_⟩
                have e18 : a.tmps[18]? = some (.bool true) := by rw [ha]; exact putSel_on (e := (14, 18, .bool true)) 14 rfl rfl (hon 14 (by kernel_rfl)) rfl
                have e21 : a.tmps[21]? = some (.bool true) := by rw [ha]; exact putSel_on (e := (17, 21, .bool true)) 17 rfl rfl (hon 17 (by kernel_rfl)) rfl
                replace ha := Aside0.mk ha
                have B0 := Aside0.mk Q_B0
                refine value_ (w1 := w') (v := .bool true) (by rfl) rfl ?_ ?_
                · go_simp
                  (try simp only [i64_w])
                  try rfl
                refine hK.out _ _ ⟨(by rw [ha.out]; exact putSel_upk 18 hb_ rfl rfl rfl), Q_B0⟩
              refine steps_cons ?_ ?_
              · rintro b a w' ⟨ha, Q_B0⟩ hb_ hon hoff
                refine ⟨_, rfl, fun K hK => ?_⟩
                have e22 : a.tmps[22]? = some (.bool true) := by rw [ha]; exact putSel_on (e := (18, 22, .bool true)) 18 rfl rfl (hon 18 (by kernel_rfl)) rfl
                replace ha := Aside0.mk ha
                have B0 := Aside0.mk Q_B0
                refine value_ (w1 := w') (v := .bool true) (by rfl) rfl ?_ ?_
                · go_simp
                  (try simp only [i64_w])
                  try rfl
                refine hK.out _ _ ⟨(by rw [ha.out]; exact putSel_upk 19 hb_ rfl rfl rfl), Q_B0⟩
              refine steps_cons ?_ ?_
              · rintro b a w' ⟨ha, Q_B0⟩ hb_ hon hoff
                refine ⟨_, rfl, fun K hK => ?_⟩
                have e1 : a.tmps[1]? = some (.pointer (some ⟨bk, 0, none⟩)) := by rw [ha]; exact (putSel_off rfl).trans rfl
                have e23 : a.tmps[23]? = some (.bool true) := by rw [ha]; exact putSel_on (e := (19, 23, .bool true)) 19 rfl rfl (hon 19 (by kernel_rfl)) rfl
                replace ha := Aside0.mk ha
                have B0 := Aside0.mk Q_B0
                refine value_ (w1 := w') (v := .pointer (some ⟨bk, 3, none⟩)) (wanted_on rfl rfl rfl (e23.trans (by first | rfl | (simp [*]; done)))) rfl ?_ ?_
                · go_simp
                  (try simp only [i64_w])
                  try rfl
                refine hK.out _ _ ⟨(by rw [ha.out]; exact putSel_upk 20 hb_ rfl rfl rfl), Q_B0⟩
              refine steps_cons ?_ ?_
              · rintro b a w' ⟨ha, Q_B0⟩ hb_ hon hoff
                refine ⟨_, rfl, fun K hK => ?_⟩
                have e24 : a.tmps[24]? = some (.pointer (some ⟨bk, 3, none⟩)) := by rw [ha]; exact putSel_on (e := (20, 24, .pointer (some ⟨bk, 3, none⟩))) 20 rfl rfl (hon 20 (by kernel_rfl)) rfl
                have e23 : a.tmps[23]? = some (.bool true) := by rw [ha]; exact putSel_on (e := (19, 23, .bool true)) 19 rfl rfl (hon 19 (by kernel_rfl)) rfl
                replace ha := Aside0.mk ha
                have B0 := Aside0.mk Q_B0
                have c_ := blk_cell (blk_below HZC.out B0.out) 3
                refine value_ (w1 := w') (v := .int .i64 I) (wanted_on rfl rfl rfl (e23.trans (by first | rfl | (simp [*]; done)))) rfl ?_ ?_
                · go_simp
                  (try simp only [i64_w])
                  try rfl
                refine hK.out _ _ ⟨(by rw [ha.out]; exact putSel_upk 21 hb_ rfl rfl rfl), Q_B0⟩
              refine steps_cons ?_ ?_
              · rintro b a w' ⟨ha, Q_B0⟩ hb_ hon hoff
                refine ⟨_, rfl, fun K hK => ?_⟩
                have e2 : a.tmps[2]? = some (.pointer (some ⟨g, 0, none⟩)) := by rw [ha]; exact (putSel_off rfl).trans rfl
                have e23 : a.tmps[23]? = some (.bool true) := by rw [ha]; exact putSel_on (e := (19, 23, .bool true)) 19 rfl rfl (hon 19 (by kernel_rfl)) rfl
                replace ha := Aside0.mk ha
                have B0 := Aside0.mk Q_B0
                refine value_ (w1 := w') (v := .pointer (some ⟨g, 3, none⟩)) (wanted_on rfl rfl rfl (e23.trans (by first | rfl | (simp [*]; done)))) rfl ?_ ?_
                · go_simp
                  (try simp only [i64_w])
                  try rfl
                refine hK.out _ _ ⟨(by rw [ha.out]; exact putSel_upk 22 hb_ rfl rfl rfl), Q_B0⟩
              refine steps_cons ?_ ?_
              · rintro b a w' ⟨ha, Q_B0⟩ hb_ hon hoff
                refine ⟨_, rfl, fun K hK => ?_⟩
                have e26 : a.tmps[26]? = some (.pointer (some ⟨g, 3, none⟩)) := by rw [ha]; exact putSel_on (e := (22, 26, .pointer (some ⟨g, 3, none⟩))) 22 rfl rfl (hon 22 (by kernel_rfl)) rfl
                have e23 : a.tmps[23]? = some (.bool true) := by rw [ha]; exact putSel_on (e := (19, 23, .bool true)) 19 rfl rfl (hon 19 (by kernel_rfl)) rfl
                replace ha := Aside0.mk ha
                have B0 := Aside0.mk Q_B0
                have c_ := blk_cell (blk_below HZG.out B0.out) 3
                refine value_ (w1 := w') (v := .int .i64 x.f3) (wanted_on rfl rfl rfl (e23.trans (by first | rfl | (simp [*]; done)))) rfl ?_ ?_
                · go_simp
                  (try simp only [i64_w])
                  try rfl
                refine hK.out _ _ ⟨(by rw [ha.out]; exact putSel_upk 23 hb_ rfl rfl rfl), Q_B0⟩
              refine steps_cons ?_ ?_
              · rintro b a w' ⟨ha, Q_B0⟩ hb_ hon hoff
                refine ⟨_, rfl, fun K hK => ?_⟩
                have e27 : a.tmps[27]? = some (.int .i64 x.f3) := by rw [ha]; exact putSel_on (e := (23, 27, .int .i64 x.f3)) 23 rfl rfl (hon 23 (by kernel_rfl)) rfl
                have e23 : a.tmps[23]? = some (.bool true) := by rw [ha]; exact putSel_on (e := (19, 23, .bool true)) 19 rfl rfl (hon 19 (by kernel_rfl)) rfl
                replace ha := Aside0.mk ha
                have B0 := Aside0.mk Q_B0
                refine goes_ Try.func29 (by kernel_rfl) rfl #[.int .i64 x.f3] (wanted_on rfl rfl rfl (e23.trans rfl)) rfl rfl (by first | (simp only [List.map_toArray, List.map_cons, List.map_nil, Act.eval, Array.getD_eq_getD_getElem?, Option.getD_some, e27, e23]; done) | (simp only [List.map_toArray, List.map_cons, List.map_nil, Act.eval, Array.getD_eq_getD_getElem?, Option.getD_some, e27, e23]; rfl)) ?_
                with_reducible refine (HFR.out _).mono ?_
                rintro e w2 ⟨rfl, hb⟩
                refine ⟨_, rfl, ?_⟩
                refine hK.out _ _ ⟨(by rw [ha.out]; exact putSel_upk 24 hb_ rfl rfl rfl), below_then B0.out B0.out.size hb⟩
              refine steps_cons ?_ ?_
              · rintro b a w' ⟨ha, Q_B0⟩ hb_ hon hoff
                refine ⟨_, rfl, fun K hK => ?_⟩
                have e25 : a.tmps[25]? = some (.int .i64 I) := by rw [ha]; exact putSel_on (e := (21, 25, .int .i64 I)) 21 rfl rfl (hon 21 (by kernel_rfl)) rfl
                have e28 : a.tmps[28]? = some (.int .i64 (fr x.f3)) := by rw [ha]; exact putSel_on (e := (24, 28, .int .i64 (fr x.f3))) 24 rfl rfl (hon 24 (by kernel_rfl)) rfl
                have e23 : a.tmps[23]? = some (.bool true) := by rw [ha]; exact putSel_on (e := (19, 23, .bool true)) 19 rfl rfl (hon 19 (by kernel_rfl)) rfl
                replace ha := Aside0.mk ha
                have B0 := Aside0.mk Q_B0
                have q_ := HLT.out
                refine value_ (w1 := w') (v := .bool true) (wanted_on rfl rfl rfl (e23.trans (by first | rfl | (simp [*]; done)))) rfl ?_ ?_
                · go_simp
                  (try simp only [i64_w])
                  try rfl
                refine hK.out _ _ ⟨(by rw [ha.out]; exact putSel_upk 25 hb_ rfl rfl rfl), Q_B0⟩
              refine steps_cons ?_ ?_
              · rintro b a w' ⟨ha, Q_B0⟩ hb_ hon hoff
                refine ⟨_, rfl, fun K hK => ?_⟩
                have e23 : a.tmps[23]? = some (.bool true) := by rw [ha]; exact putSel_on (e := (19, 23, .bool true)) 19 rfl rfl (hon 19 (by kernel_rfl)) rfl
                have e29 : a.tmps[29]? = some (.bool true) := by rw [ha]; exact putSel_on (e := (25, 29, .bool true)) 25 rfl rfl (hon 25 (by kernel_rfl)) rfl
                replace ha := Aside0.mk ha
                have B0 := Aside0.mk Q_B0
                refine value_ (w1 := w') (v := .bool true) (by rfl) rfl ?_ ?_
                · go_simp
                  (try simp only [i64_w])
                  try rfl
                refine hK.out _ _ ⟨(by rw [ha.out]; exact putSel_upk 26 hb_ rfl rfl rfl), Q_B0⟩
              refine steps_cons ?_ ?_
              · rintro b a w' ⟨ha, Q_B0⟩ hb_ hon hoff
                refine ⟨_, rfl, fun K hK => ?_⟩
                have e30 : a.tmps[30]? = some (.bool true) := by rw [ha]; exact putSel_on (e := (26, 30, .bool true)) 26 rfl rfl (hon 26 (by kernel_rfl)) rfl
                replace ha := Aside0.mk ha
                have B0 := Aside0.mk Q_B0
                refine value_ (w1 := w') (v := .bool true) (by rfl) rfl ?_ ?_
                · go_simp
                  (try simp only [i64_w])
                  try rfl
                refine hK.out _ _ ⟨(by rw [ha.out]; exact putSel_upk 27 hb_ rfl rfl rfl), Q_B0⟩
              exact steps_nil
            rintro b a wl hall ⟨ha, Q_B0⟩
            clear B0
            have hb0_ := hall 0 (by kernel_rfl)
            have hb1_ := hall 1 (by kernel_rfl)
            have hb2_ := hall 2 (by kernel_rfl)
            have hb3_ := hall 3 (by kernel_rfl)
            have hb4_ := hall 4 (by kernel_rfl)
            have hb5_ := hall 5 (by kernel_rfl)
            have hb6_ := hall 6 (by kernel_rfl)
            have hb7_ := hall 7 (by kernel_rfl)
            have hb8_ := hall 8 (by kernel_rfl)
            have hb9_ := hall 9 (by kernel_rfl)
            have hb10_ := hall 10 (by kernel_rfl)
            have hb11_ := hall 11 (by kernel_rfl)
            have hb12_ := hall 12 (by kernel_rfl)
            have hb13_ := hall 13 (by kernel_rfl)
            have hb14_ := hall 14 (by kernel_rfl)
            have hb15_ := hall 15 (by kernel_rfl)
            have hb16_ := hall 16 (by kernel_rfl)
            have hb17_ := hall 17 (by kernel_rfl)
            have hb18_ := hall 18 (by kernel_rfl)
            have hb19_ := hall 19 (by kernel_rfl)
            have hb20_ := hall 20 (by kernel_rfl)
            have hb21_ := hall 21 (by kernel_rfl)
            have hb22_ := hall 22 (by kernel_rfl)
            have hb23_ := hall 23 (by kernel_rfl)
            have hb24_ := hall 24 (by kernel_rfl)
            have hb25_ := hall 25 (by kernel_rfl)
            have hb26_ := hall 26 (by kernel_rfl)
            have hb27_ := hall 27 (by kernel_rfl)
            subst ha
            simp only [putSel, hb0_, hb1_, hb2_, hb3_, hb4_, hb5_, hb6_, hb7_, hb8_, hb9_, hb10_, hb11_, hb12_, hb13_, hb14_, hb15_, hb16_, hb17_, hb18_, hb19_, hb20_, hb21_, hb22_, hb23_, hb24_, hb25_, hb26_, hb27_, if_true, Act.put, List.setIfInBounds_toArray, List.set_cons_zero, List.set_cons_succ]
            have B0 := Aside0.mk Q_B0
            clear Q_B0
            clear hall hb0_ hb1_ hb2_ hb3_ hb4_ hb5_ hb6_ hb7_ hb8_ hb9_ hb10_ hb11_ hb12_ hb13_ hb14_ hb15_ hb16_ hb17_ hb18_ hb19_ hb20_ hb21_ hb22_ hb23_ hb24_ hb25_ hb26_ hb27_
            go_wp2_with fail
            go_ret
            exact ⟨by rw [HM.out] <;> rfl, below_then HBB.out HBB.out.size B0.out⟩
end Go.Proofs.Ytnopjcakilfepaa.QS
