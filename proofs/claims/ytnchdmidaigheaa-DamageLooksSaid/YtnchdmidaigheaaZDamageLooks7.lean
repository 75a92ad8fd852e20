/- Parts of the proof of the statement DamageLooks, laid together (8 of 8). -/
import Derived.Deep.DeepCutAuto
import Derived.Deep.CutBlock
import Derived.OpenShut
import Derived.SizedLaws
import Derived.ChangeSlices
import Derived.Test.YtnchdmidaigheaaRows
import Derived.WalkKit
import Derived.ProofKit
import Derived.ShutString
import Derived.ChangeOld
import Derived.Below
import Derived.Test.YtnchdmidaigheaaZDamageLooks6
namespace Go.Proofs.Ytnchdmidaigheaa.QS
set_option linter.unusedVariables false
set_option linter.unusedSimpArgs false
open Go.RowKit Go.Proofs.Ytnchdmidaigheaa.SS Go.Proofs.Ytnchdmidaigheaa.Hp Go.Proofs.YtnchdmidaigheaaW.PrintWords Go.Proofs.YtnchdmidaigheaaW.PrintLast Go.Proofs.YtnchdmidaigheaaW.PrintMore
theorem heap_flt : Kd.Heap k65 := Kd.heap_iso _ (Kd.heap_pair (Kd.heap_int _) (Kd.heap_pair (Kd.heap_int _) (Kd.heap_slice _ (Kd.heap_int _))))
theorem put3g {g N : Nat} {w0 W : World} {y0 y1 y2 : Value} (a b c : Int) (hz : W.heap[g]? = some (.cells #[y0, y1, y2] 23 (0, 0)) ∧ N ≤ g) (hb2 : Below N w0 W) :
    Below N w0 (((W.setCell ⟨g, 0, none⟩ (.int .i64 a)).setCell ⟨g, 1, none⟩ (.int .i64 b)).setCell ⟨g, 2, none⟩ (.int .i64 c)) ∧
    (((W.setCell ⟨g, 0, none⟩ (.int .i64 a)).setCell ⟨g, 1, none⟩ (.int .i64 b)).setCell ⟨g, 2, none⟩ (.int .i64 c)).heap[g]? = some (.cells #[.int .i64 a, .int .i64 b, .int .i64 c] 23 (0, 0)) := by
  have h0 := blk_put hz.1 0 (.int .i64 a) (cs' := #[.int .i64 a, y1, y2]) rfl
  have h1 := blk_put h0 1 (.int .i64 b) (cs' := #[.int .i64 a, .int .i64 b, y2]) rfl
  have h2 := blk_put h1 2 (.int .i64 c) (cs' := #[.int .i64 a, .int .i64 b, .int .i64 c]) rfl
  exact ⟨((hb2.setCell (p := ⟨g, 0, none⟩) hz.2 _).setCell (p := ⟨g, 1, none⟩) hz.2 _).setCell (p := ⟨g, 2, none⟩) hz.2 _, h2⟩
theorem atF {W : World} {A : Option Addr} {l : List R0} (h : Kd.C k65 W A l.length l) (i : Nat) (hi : i < l.length) : ∃ ad Ax cx, A = some ad ∧ (W.cell? (ad.add (i * 3)) = some (.int .i64 l[i].f0) ∧ W.cell? ⟨(ad.add (i * 3)).block, (ad.add (i * 3)).off + 1, none⟩ = some (.int .i64 l[i].f1) ∧ W.cell? ⟨(ad.add (i * 3)).block, (ad.add (i * 3)).off + 2, none⟩ = some (.slice Ax l[i].f2.length cx)) ∧ l[i].f2.length ≤ cx ∧ Kd.C (Kd.int .u8) W Ax l[i].f2.length l[i].f2 := by
  obtain ⟨ad, Ap, cpp, rfl, hx0, hx1, hx2, hlp, hCp⟩ := at_T65 h (i : Int) (by omega) (by omega)
  rw [rd65 hi] at hx0 hx1 hx2 hlp hCp
  rw [Int.toNat_natCast] at hx0 hx1 hx2
  exact ⟨ad, Ap, cpp, rfl, ⟨hx0, hx1, hx2⟩, hlp, hCp⟩
theorem cnt_take {l : List R0} {i : Nat} (hi : i < l.length) (k : Int) : cntK (l.take (i + 1)) k = cntK (l.take i) k + (if l[i].f1 == k then 1 else 0) := by
  unfold cntK
  rw [List.take_add_one, List.getElem?_eq_getElem hi, List.filter_append, List.length_append]
  by_cases h : (l[i].f1 == k) = true
  · rw [if_pos h]; simp [h]
  · rw [if_neg h]; simp [h]
theorem cnt_range (l : List R0) (k : Int) : 0 ≤ cntK l k ∧ cntK l k ≤ l.length := by
  unfold cntK
  have := List.length_filter_le (fun x : R0 => x.f1 == k) l
  omega
theorem want_take {l : List R0} {i : Nat} (hi : i < l.length) : (l.take (i + 1)).foldl wantS 0 = wantS ((l.take i).foldl wantS 0) l[i] := by
  rw [List.take_add_one, List.getElem?_eq_getElem hi, List.foldl_append]
  rfl
def looks1.T1 : Bool × List (List Nat × List Nat) := (true, [([], []), ([0], [0]), ([], []), ([2], [2]), ([], []), ([4], [4]), ([], []), ([6], [6]), ([], []), ([8, 1, 0, 1, 8], [1, 8]), ([3, 9, 0, 1, 2, 3, 8, 9], [3]), ([5, 10, 0, 1, 2, 3, 4, 5, 8, 9, 10], [5]), ([7, 11, 0, 1, 2, 3, 4, 5, 6, 7, 8, 9, 10, 11], [7])])
def looks1.B1 : List Nat := [0, 1, 0, 4, 0, 16, 0, 64, 0, 259, 783, 1855, 4095]
theorem looks1.tab1 : rtab .any (opsOf Try.f6 1) = looks1.T1 := by kernel_rfl
theorem looks1.bits1 : waitsOk looks1.T1.2 looks1.B1 = true := by kernel_rfl
def looks19.T19 : Bool × List (List Nat × List Nat) := (true, [([], []), ([], []), ([1], [1]), ([0, 2], [0, 2]), ([3], [3]), ([4], [4]), ([5, 4, 4], [4, 5]), ([6], [6]), ([6], [6]), ([6], [6]), ([8, 9, 6], [6, 8, 9]), ([10, 6], [6, 10]), ([7, 11, 6, 6], [6, 7, 11]), ([12, 6], [6, 12]), ([6, 13, 4], [4, 6, 13]), ([4, 14], [4, 14]), ([15, 12], [15]), ([16], [16]), ([17, 16], [16, 17]), ([18, 16, 16], [16, 18]), ([19], [19]), ([19], [19]), ([20, 21, 19, 19], [19, 20, 21]), ([22, 19], [19, 22]), ([19, 23, 16], [16, 19, 23]), ([16, 24], [16, 24])])
def looks19.B19 : List Nat := [0, 0, 2, 7, 15, 31, 63, 127, 127, 127, 895, 1919, 4095, 8191, 16383, 32767, 65535, 131071, 262143, 524287, 1048575, 1048575, 4194303, 8388607, 16777215, 33554431]
theorem looks19.tab19 : rtab .any (opsOf Try.f6 19) = looks19.T19 := by kernel_rfl
theorem looks19.bits19 : waitsOk looks19.T19.2 looks19.B19 = true := by kernel_rfl
def looks21.T21 : Bool × List (List Nat × List Nat) := (true, [([], []), ([0, 0], [0]), ([1], [1]), ([2, 1, 1], [1, 2]), ([1], [1]), ([3, 4, 1], [1, 3, 4]), ([1, 5], [1, 5]), ([6, 3], [6]), ([7], [7]), ([8, 7, 7], [7, 8]), ([7], [7]), ([10, 9, 7], [7, 10]), ([9, 11, 11, 7], [7, 9, 11]), ([7, 12], [7, 12]), ([13, 12], [13]), ([14], [14]), ([14], [14]), ([15, 16, 14, 14], [14, 15, 16]), ([14], [14]), ([17, 18, 14], [14, 17, 18]), ([14, 19], [14, 19]), ([20, 17], [20]), ([21], [21]), ([21], [21]), ([22, 23, 21, 21], [21, 22, 23]), ([21], [21]), ([25, 24, 21], [21, 25]), ([26, 26, 21], [21, 26]), ([27], [27]), ([27], [27]), ([29, 27], [27, 29]), ([28, 30, 27], [27, 28, 30]), ([27, 31, 21], [21, 27, 31]), ([24, 32, 21], [21, 24, 32]), ([21, 33], [21, 33]), ([34, 27, 0, 1, 2, 3, 4, 5, 6, 7, 8, 9, 10, 11, 12, 13, 14, 15, 16, 17, 18, 19, 20, 21, 22, 23, 24, 25, 26, 27, 28, 29, 30, 31, 32, 33, 34], [34])])
def looks21.B21 : List Nat := [0, 1, 3, 7, 3, 31, 63, 127, 255, 511, 255, 2047, 4095, 8191, 16383, 32767, 32767, 131071, 32767, 524287, 1048575, 2097151, 4194303, 4194303, 16777215, 4194303, 67108863, 134217727, 268435455, 268435455, 805306367, 2147483647, 4294967295, 8589934591, 17179869183, 34359738367]
theorem looks21.tab21 : rtab .any (opsOf Try.f6 21) = looks21.T21 := by kernel_rfl
theorem looks21.bits21 : waitsOk looks21.T21.2 looks21.B21 = true := by kernel_rfl
set_option maxHeartbeats 4000000 in
set_option maxRecDepth 100000 in
theorem looks_calls {W : World} (B P C : Int) (l : List R0) (op kd : Int) (A : Option Addr) (cp : Nat) (hC : Kd.C k65 W A l.length l) (hcp : l.length ≤ cp) (hll : l.length ≤ 9223372036854775807) :
    Calls Try.prog 6 #[.agg #[.int .i64 B, .int .i64 P, .int .i64 C, .slice A l.length cp, .int .i64 op, .int .i64 kd]] W fun e w' => e = .returned (.bool true) ∧ Below W.heap.size W w' := by
  have HIN := Aside0.mk (And.intro hC (And.intro hcp hll))
  have hz1 := heap_alloc_new W (.cells #[.int .i64 B, .int .i64 P, .int .i64 C, .slice A l.length cp, .int .i64 op, .int .i64 kd] 62)
  have hb1 := below_alloc (Below.refl W.heap.size W) (.cells #[.int .i64 B, .int .i64 P, .int .i64 C, .slice A l.length cp, .int .i64 op, .int .i64 kd] 62)
  obtain ⟨g1, hg1⟩ : ∃ g, g = W.heap.size := ⟨_, rfl⟩
  clear hC hcp hll
  go_enter Try.func6, Try.ntmps6
  go_upto_region 1 with fail
  generalize W.alloc (.cells #[.int .i64 B, .int .i64 P, .int .i64 C, .slice A l.length cp, .int .i64 op, .int .i64 kd] 62) = W1 at hz1 hb1 ⊢
  rw [← hg1] at hz1 ⊢
  have HZ1 := Aside0.mk hz1
  have HB1 := Aside0.mk hb1
  have B0 := Aside0.mk (below_drew1 (Below.refl W1.heap.size W1))
  have AL := True.intro
  have ST := True.intro
  clear hz1 hb1 hg1
  refine start_ (n := 13) (S := fun w' => True) (ds := []) #[false, false, false, false, false, false, false, false, false, false, false, false, false] (by kernel_rfl) rfl rfl trivial (fun hHeld => ?_)
  refine with_tabW looks1.tab1 looks1.bits1 (fun HT_ HW_ => ?_)
  generalize W1.drew = wq at B0 hHeld ⊢
  refine inv_at [0, 1, 2, 3, 4, 5, 6, 7, 8, 9, 10, 11, 12] (fun a0_ b a w' => ∃ (g3 : Nat) (m8_ : Value), a = putSel a0_ b [(0, 14, .pointer (some ⟨g1, 0, none⟩)), (1, 15, .agg #[.int .i64 B, .int .i64 P, .int .i64 C]), (2, 16, .pointer (some ⟨g1, 3, none⟩)), (3, 17, .slice A l.length cp), (4, 18, .pointer (some ⟨g1, 4, none⟩)), (5, 19, .int .i64 op), (6, 20, .pointer (some ⟨g1, 5, none⟩)), (7, 21, .int .i64 kd), (8, 3, m8_), (10, 4, .slice A l.length cp), (11, 5, .int .i64 op), (12, 6, .int .i64 kd)] ∧ (Below W1.heap.size W1 w') ∧ (b 8 = true → b 9 = false → w'.heap[g3]? = some (.cells #[.int .i64 0, .int .i64 0, .int .i64 0] 23 (0, 0)) ∧ W1.heap.size ≤ g3) ∧ (b 9 = true → w'.heap[g3]? = some (.cells #[.int .i64 B, .int .i64 P, .int .i64 C] 23 (0, 0))) ∧ (b 8 = true → (m8_ : Value) = .pointer (some ⟨g3, 0, none⟩))) HT_.out HW_.out (by kernel_rfl) (by kernel_rfl) ?_ ?_ ?_
  · exact ⟨0, .bool false, by simp only [putSel, Bool.false_eq_true, if_false], B0.out, fun h_ => absurd h_ (by decide), fun h_ => absurd h_ (by decide), fun h_ => absurd h_ (by decide)⟩
  · skip
    clear B0
    refine steps_cons ?_ ?_
    · rintro b a w' ⟨g3, m8_, ha, Q_B0, Q_AL, Q_ST, Q_X8_⟩ hb_ hon hoff
      refine ⟨_, rfl, fun K hK => ?_⟩
      have e1 : a.tmps[1]? = some (.pointer (some ⟨g1, 0, none⟩)) := by rw [ha]; exact (putSel_off rfl).trans rfl
      replace ha := Aside0.mk ha
      have B0 := Aside0.mk Q_B0
      refine value_ (w1 := w') (v := .pointer (some ⟨g1, 0, none⟩)) (by rfl) rfl ?_ ?_
      · go_simp
        (try simp only [i64_w])
        try rfl
      refine hK.out _ _ ⟨g3, m8_, (by rw [ha.out]; exact putSel_upk 0 hb_ rfl rfl rfl), Q_B0, Q_AL, fun h0_ => absurd ((hoff 9 (by kernel_rfl)).symm.trans h0_) (by decide), Q_X8_⟩
    refine steps_cons ?_ ?_
    · rintro b a w' ⟨g3, m8_, ha, Q_B0, Q_AL, Q_ST, Q_X8_⟩ hb_ hon hoff
      refine ⟨_, rfl, fun K hK => ?_⟩
      have e14 : a.tmps[14]? = some (.pointer (some ⟨g1, 0, none⟩)) := by rw [ha]; exact putSel_on (e := (0, 14, .pointer (some ⟨g1, 0, none⟩))) 0 rfl rfl (hon 0 (by kernel_rfl)) rfl
      replace ha := Aside0.mk ha
      have B0 := Aside0.mk Q_B0
      have c0_ := blk_cell (blk_below HZ1.out B0.out) 0
      have c1_ := blk_cell (blk_below HZ1.out B0.out) 1
      have c2_ := blk_cell (blk_below HZ1.out B0.out) 2
      refine value_ (w1 := w') (v := .agg #[.int .i64 B, .int .i64 P, .int .i64 C]) (by rfl) rfl ?_ ?_
      · go_simp
        (try simp only [i64_w])
        try rfl
      refine hK.out _ _ ⟨g3, m8_, (by rw [ha.out]; exact putSel_upk 1 hb_ rfl rfl rfl), Q_B0, Q_AL, fun h0_ => absurd ((hoff 9 (by kernel_rfl)).symm.trans h0_) (by decide), Q_X8_⟩
    refine steps_cons ?_ ?_
    · rintro b a w' ⟨g3, m8_, ha, Q_B0, Q_AL, Q_ST, Q_X8_⟩ hb_ hon hoff
      refine ⟨_, rfl, fun K hK => ?_⟩
      have e1 : a.tmps[1]? = some (.pointer (some ⟨g1, 0, none⟩)) := by rw [ha]; exact (putSel_off rfl).trans rfl
      replace ha := Aside0.mk ha
      have B0 := Aside0.mk Q_B0
      refine value_ (w1 := w') (v := .pointer (some ⟨g1, 3, none⟩)) (by rfl) rfl ?_ ?_
      · go_simp
        (try simp only [i64_w])
        try rfl
      refine hK.out _ _ ⟨g3, m8_, (by rw [ha.out]; exact putSel_upk 2 hb_ rfl rfl rfl), Q_B0, Q_AL, Q_ST, Q_X8_⟩
    refine steps_cons ?_ ?_
    · rintro b a w' ⟨g3, m8_, ha, Q_B0, Q_AL, Q_ST, Q_X8_⟩ hb_ hon hoff
      refine ⟨_, rfl, fun K hK => ?_⟩
      have e16 : a.tmps[16]? = some (.pointer (some ⟨g1, 3, none⟩)) := by rw [ha]; exact putSel_on (e := (2, 16, .pointer (some ⟨g1, 3, none⟩))) 2 rfl rfl (hon 2 (by kernel_rfl)) rfl
      replace ha := Aside0.mk ha
      have B0 := Aside0.mk Q_B0
      have c0_ := blk_cell (blk_below HZ1.out B0.out) 3
      refine value_ (w1 := w') (v := .slice A l.length cp) (by rfl) rfl ?_ ?_
      · go_simp
        (try simp only [i64_w])
        try rfl
      refine hK.out _ _ ⟨g3, m8_, (by rw [ha.out]; exact putSel_upk 3 hb_ rfl rfl rfl), Q_B0, Q_AL, Q_ST, Q_X8_⟩
    refine steps_cons ?_ ?_
    · rintro b a w' ⟨g3, m8_, ha, Q_B0, Q_AL, Q_ST, Q_X8_⟩ hb_ hon hoff
      refine ⟨_, rfl, fun K hK => ?_⟩
      have e1 : a.tmps[1]? = some (.pointer (some ⟨g1, 0, none⟩)) := by rw [ha]; exact (putSel_off rfl).trans rfl
      replace ha := Aside0.mk ha
      have B0 := Aside0.mk Q_B0
      refine value_ (w1 := w') (v := .pointer (some ⟨g1, 4, none⟩)) (by rfl) rfl ?_ ?_
      · go_simp
        (try simp only [i64_w])
        try rfl
      refine hK.out _ _ ⟨g3, m8_, (by rw [ha.out]; exact putSel_upk 4 hb_ rfl rfl rfl), Q_B0, Q_AL, Q_ST, Q_X8_⟩
    refine steps_cons ?_ ?_
    · rintro b a w' ⟨g3, m8_, ha, Q_B0, Q_AL, Q_ST, Q_X8_⟩ hb_ hon hoff
      refine ⟨_, rfl, fun K hK => ?_⟩
      have e18 : a.tmps[18]? = some (.pointer (some ⟨g1, 4, none⟩)) := by rw [ha]; exact putSel_on (e := (4, 18, .pointer (some ⟨g1, 4, none⟩))) 4 rfl rfl (hon 4 (by kernel_rfl)) rfl
      replace ha := Aside0.mk ha
      have B0 := Aside0.mk Q_B0
      have c0_ := blk_cell (blk_below HZ1.out B0.out) 4
      refine value_ (w1 := w') (v := .int .i64 op) (by rfl) rfl ?_ ?_
      · go_simp
        (try simp only [i64_w])
        try rfl
      refine hK.out _ _ ⟨g3, m8_, (by rw [ha.out]; exact putSel_upk 5 hb_ rfl rfl rfl), Q_B0, Q_AL, Q_ST, Q_X8_⟩
    refine steps_cons ?_ ?_
    · rintro b a w' ⟨g3, m8_, ha, Q_B0, Q_AL, Q_ST, Q_X8_⟩ hb_ hon hoff
      refine ⟨_, rfl, fun K hK => ?_⟩
      have e1 : a.tmps[1]? = some (.pointer (some ⟨g1, 0, none⟩)) := by rw [ha]; exact (putSel_off rfl).trans rfl
      replace ha := Aside0.mk ha
      have B0 := Aside0.mk Q_B0
      refine value_ (w1 := w') (v := .pointer (some ⟨g1, 5, none⟩)) (by rfl) rfl ?_ ?_
      · go_simp
        (try simp only [i64_w])
        try rfl
      refine hK.out _ _ ⟨g3, m8_, (by rw [ha.out]; exact putSel_upk 6 hb_ rfl rfl rfl), Q_B0, Q_AL, Q_ST, Q_X8_⟩
    refine steps_cons ?_ ?_
    · rintro b a w' ⟨g3, m8_, ha, Q_B0, Q_AL, Q_ST, Q_X8_⟩ hb_ hon hoff
      refine ⟨_, rfl, fun K hK => ?_⟩
      have e20 : a.tmps[20]? = some (.pointer (some ⟨g1, 5, none⟩)) := by rw [ha]; exact putSel_on (e := (6, 20, .pointer (some ⟨g1, 5, none⟩))) 6 rfl rfl (hon 6 (by kernel_rfl)) rfl
      replace ha := Aside0.mk ha
      have B0 := Aside0.mk Q_B0
      have c0_ := blk_cell (blk_below HZ1.out B0.out) 5
      refine value_ (w1 := w') (v := .int .i64 kd) (by rfl) rfl ?_ ?_
      · go_simp
        (try simp only [i64_w])
        try rfl
      refine hK.out _ _ ⟨g3, m8_, (by rw [ha.out]; exact putSel_upk 7 hb_ rfl rfl rfl), Q_B0, Q_AL, Q_ST, Q_X8_⟩
    refine steps_cons ?_ ?_
    · rintro b a w' ⟨g3, m8_, ha, Q_B0, Q_AL, Q_ST, Q_X8_⟩ hb_ hon hoff
      refine ⟨_, rfl, fun K hK => ?_⟩
      replace ha := Aside0.mk ha
      have B0 := Aside0.mk Q_B0
      refine value_ (w1 := w'.alloc (Obj.cells #[.int .i64 0, .int .i64 0, .int .i64 0] 23)) (v := .pointer (some ⟨w'.heap.size, 0, none⟩)) (by rfl) rfl (by first | (go_simp; done) | (go_simp; rfl)) ?_
      have hb := below_alloc (Below.refl w'.heap.size w') (Obj.cells #[.int .i64 0, .int .i64 0, .int .i64 0] 23)
      refine hK.out _ _ ⟨w'.heap.size, (.pointer (some ⟨w'.heap.size, 0, none⟩)), (by rw [ha.out]; exact putSel_upk 8 hb_ rfl rfl rfl), below_then B0.out B0.out.size hb, fun _ _ => ⟨heap_alloc_new w' _, B0.out.size⟩, fun h0_ => absurd ((hoff 9 (by kernel_rfl)).symm.trans h0_) (by decide), fun _ => rfl⟩
    refine steps_cons ?_ ?_
    · rintro b a w' ⟨g3, m8_, ha, Q_B0, Q_AL, Q_ST, Q_X8_⟩ hb_ hon hoff
      refine ⟨_, rfl, fun K hK => ?_⟩
      have e3 : a.tmps[3]? = some (m8_) := by rw [ha]; exact putSel_on (e := (8, 3, m8_)) 8 rfl rfl (hon 8 (by kernel_rfl)) rfl
      rw [Q_X8_ (hon 8 (by kernel_rfl))] at e3
      have e15 : a.tmps[15]? = some (.agg #[.int .i64 B, .int .i64 P, .int .i64 C]) := by rw [ha]; exact putSel_on (e := (1, 15, .agg #[.int .i64 B, .int .i64 P, .int .i64 C])) 1 rfl rfl (hon 1 (by kernel_rfl)) rfl
      replace ha := Aside0.mk ha
      have B0 := Aside0.mk Q_B0
      have AL := Aside0.mk (Q_AL (hon 8 (by kernel_rfl)) hb_)
      have d0 := blk_cell AL.out.1 0
      have d1 := blk_cell AL.out.1 1
      have d2 := blk_cell AL.out.1 2
      have e0 := blk_frozen AL.out.1 0
      have e1 := blk_frozen AL.out.1 1
      have e2 := blk_frozen AL.out.1 2
      have hst := put3g B P C AL.out B0.out
      refine skip_ (w1 := ?_) (by rfl) rfl ?_ ?_
      rotate_left
      · go_simp
        rfl
      refine hK.out _ _ ⟨g3, m8_, (by rw [ha.out]; exact putSel_none (v := undef) rfl), hst.1, fun _ h1_ => absurd ((up_self b 9).symm.trans h1_) (by decide), fun _ => hst.2, Q_X8_⟩
    refine steps_cons ?_ ?_
    · rintro b a w' ⟨g3, m8_, ha, Q_B0, Q_AL, Q_ST, Q_X8_⟩ hb_ hon hoff
      refine ⟨_, rfl, fun K hK => ?_⟩
      have e17 : a.tmps[17]? = some (.slice A l.length cp) := by rw [ha]; exact putSel_on (e := (3, 17, .slice A l.length cp)) 3 rfl rfl (hon 3 (by kernel_rfl)) rfl
      replace ha := Aside0.mk ha
      have B0 := Aside0.mk Q_B0
      have ST := Aside0.mk (Q_ST (hon 9 (by kernel_rfl)))
      refine value_ (w1 := w') (v := .slice A l.length cp) (by rfl) rfl ?_ ?_
      · go_simp
        (try simp only [i64_w])
        try rfl
      refine hK.out _ _ ⟨g3, m8_, (by rw [ha.out]; exact putSel_upk 9 hb_ rfl rfl rfl), Q_B0, fun _ h1_ => absurd ((hon 9 (by kernel_rfl)).symm.trans h1_) (by decide), Q_ST, Q_X8_⟩
    refine steps_cons ?_ ?_
    · rintro b a w' ⟨g3, m8_, ha, Q_B0, Q_AL, Q_ST, Q_X8_⟩ hb_ hon hoff
      refine ⟨_, rfl, fun K hK => ?_⟩
      have e19 : a.tmps[19]? = some (.int .i64 op) := by rw [ha]; exact putSel_on (e := (5, 19, .int .i64 op)) 5 rfl rfl (hon 5 (by kernel_rfl)) rfl
      replace ha := Aside0.mk ha
      have B0 := Aside0.mk Q_B0
      have ST := Aside0.mk (Q_ST (hon 9 (by kernel_rfl)))
      refine value_ (w1 := w') (v := .int .i64 op) (by rfl) rfl ?_ ?_
      · go_simp
        (try simp only [i64_w])
        try rfl
      refine hK.out _ _ ⟨g3, m8_, (by rw [ha.out]; exact putSel_upk 10 hb_ rfl rfl rfl), Q_B0, fun _ h1_ => absurd ((hon 9 (by kernel_rfl)).symm.trans h1_) (by decide), Q_ST, Q_X8_⟩
    refine steps_cons ?_ ?_
    · rintro b a w' ⟨g3, m8_, ha, Q_B0, Q_AL, Q_ST, Q_X8_⟩ hb_ hon hoff
      refine ⟨_, rfl, fun K hK => ?_⟩
      have e21 : a.tmps[21]? = some (.int .i64 kd) := by rw [ha]; exact putSel_on (e := (7, 21, .int .i64 kd)) 7 rfl rfl (hon 7 (by kernel_rfl)) rfl
      replace ha := Aside0.mk ha
      have B0 := Aside0.mk Q_B0
      have ST := Aside0.mk (Q_ST (hon 9 (by kernel_rfl)))
      refine value_ (w1 := w') (v := .int .i64 kd) (by rfl) rfl ?_ ?_
      · go_simp
        (try simp only [i64_w])
        try rfl
      refine hK.out _ _ ⟨g3, m8_, (by rw [ha.out]; exact putSel_upk 11 hb_ rfl rfl rfl), Q_B0, fun _ h1_ => absurd ((hon 9 (by kernel_rfl)).symm.trans h1_) (by decide), Q_ST, Q_X8_⟩
    exact steps_nil
  rintro b a W2 hall ⟨g3, m8_, ha, Q_B0, Q_AL, Q_ST, Q_X8_⟩
  clear B0
  have hb0_ := hall 0 (by kernel_rfl)
  have hb1_ := hall 1 (by kernel_rfl)
  have hb2_ := hall 2 (by kernel_rfl)
  have hb3_ := hall 3 (by kernel_rfl)
  have hb4_ := hall 4 (by kernel_rfl)
  have hb5_ := hall 5 (by kernel_rfl)
  have hb6_ := hall 6 (by kernel_rfl)
  have hb7_ := hall 7 (by kernel_rfl)
  have hb8_ := hall 8 (by kernel_rfl)
  have hb9_ := hall 9 (by kernel_rfl)
  have hb10_ := hall 10 (by kernel_rfl)
  have hb11_ := hall 11 (by kernel_rfl)
  have hb12_ := hall 12 (by kernel_rfl)
  subst ha
  obtain rfl := Q_X8_ hb8_
  simp only [putSel, hb0_, hb1_, hb2_, hb3_, hb4_, hb5_, hb6_, hb7_, hb8_, hb9_, hb10_, hb11_, hb12_, if_true, Act.put, List.setIfInBounds_toArray, List.set_cons_zero, List.set_cons_succ]
  have B0 := Aside0.mk Q_B0
  clear Q_B0
  clear Q_AL
  have ST := Aside0.mk (Q_ST hb9_)
  clear Q_ST
  clear hall hb0_ hb1_ hb2_ hb3_ hb4_ hb5_ hb6_ hb7_ hb8_ hb9_ hb10_ hb11_ hb12_
  have HB2 := Aside0.mk (below_then HB1.out HB1.out.size B0.out)
  have HZ3 := Aside0.mk ST.out
  have HC2 := Aside0.mk (Kd.C_below HIN.out.1 HB2.out)
  have HLI := Aside0.mk (light43_calls l A cp HIN.out.2.1 HC2.out HIN.out.2.2)
  clear B0 ST HZ1 HB1
  cases hlp : lightFB l with
  | false =>
    rw [hlp] at HLI
    clear hlp
    go_wp2_with (first | (go_at_call 33; refine HLI.out.mono ?_; rintro e w3 ⟨rfl, hb⟩; have HB3 := Aside0.mk (below_then HB2.out HB2.out.size hb); clear hb) | (go_at_call 34; refine (awake43_calls _).mono ?_; rintro e w4 ⟨rfl, hb⟩; have HB4 := Aside0.mk (below_then HB3.out HB3.out.size hb); clear hb))
    go_ret
    exact ⟨rfl, HB4.out⟩
  | true =>
    have HLF : Aside0 (l.length ≤ 40 ∧ lightF l) := by
      unfold lightFB at hlp
      simp only [Bool.and_eq_true, decide_eq_true_eq, List.all_eq_true] at hlp
      exact ⟨hlp.2, by have := hlp.2; omega, fun x hx => by have := hlp.1 x hx; omega⟩
    rw [hlp] at HLI
    clear hlp
    go_upto_region 6 with (go_at_call 33; refine HLI.out.mono ?_; rintro e w3 ⟨rfl, hb⟩; have HB3 := Aside0.mk (below_then HB2.out HB2.out.size hb); have HC3 := Aside0.mk (Kd.C_below HC2.out hb); have HZ33 := Aside0.mk (blk_below HZ3.out hb); clear hb)
    clear HLI HB2 HC2 HZ3
    go_upto_block 0 with fail
    go_cut [7, 8, 9] (fun v7 v8 v9 wx => w3 = wx ∧ v7 = .int .i64 (chkL l) ∧ v8 = .int .i64 (cntK l kd) ∧ v9 = .int .i64 (cntK l 1))
    case first => as_aux_lemma =>
      go_wp2_with fail
      go_loopg [7, 8, 9, 10] (l.length + 1) (fun kq v7 v8 v9 v10 w' => ∃ (i : Nat) (wv nk nf : Int), v10 = .int .i64 (i : Int) ∧ v7 = .int .i64 wv ∧ v8 = .int .i64 nk ∧ v9 = .int .i64 nf ∧ w3 = w' ∧ Aside0 (i ≤ l.length ∧ kq + i = l.length + 1) ∧ Aside0 (wv = (l.take i).foldl wantS 0 ∧ nk = cntK (l.take i) kd ∧ nf = cntK (l.take i) 1))
      case atStart => exact ⟨0, 0, 0, 0, rfl, rfl, rfl, rfl, rfl, ⟨Nat.zero_le _, rfl⟩, ⟨rfl, rfl, rfl⟩⟩
      case round =>
        obtain ⟨i, wv, nk, nf, rfl, rfl, rfl, rfl, rfl, HI, HV⟩ := hrel
        by_cases hi : i < l.length
        case neg =>
          have hie : i = l.length := by have := HI.out; omega
          have HV2 : Aside0 (wv = chkL l ∧ nk = cntK l kd ∧ nf = cntK l 1) := ⟨by
            have h := HV.out
            rw [hie, List.take_length, want_chk] at h
            exact h⟩
          have t1 : decide ((i : Int) < (l.length : Int)) = false := decide_eq_false (by omega)
          have t2 : decide (i < l.length) = false := decide_eq_false hi
          clear hie hi
          go_wp2_with fail
          go_meet
          exact ⟨rfl, by rw [HV2.out.1], by rw [HV2.out.2.1], by rw [HV2.out.2.2]⟩
        case pos =>
          have t1 : decide ((i : Int) < (l.length : Int)) = true := decide_eq_true (by omega)
          have t2 : decide (i < l.length) = true := decide_eq_true hi
          obtain ⟨ad, Ax, cx, hA, ⟨hx0, hx1, hx2⟩, hlx, hCx⟩ := atF HC3.out i hi
          obtain ⟨x, hx⟩ : ∃ x, x = l[i] := ⟨_, rfl⟩
          rw [← hx] at hx0 hx1 hx2
          have p1 := eq_true (show (0 : Int) ≤ (i : Int) by omega)
          have q1 := eq_true (show (i : Int) < (l.length : Int) by omega)
          have HWN : Aside0 (wantS wv x = (l.take (i + 1)).foldl wantS 0) := ⟨by rw [want_take hi, HV.out.1, hx]⟩
          have HCN : Aside0 (nk + (if x.f1 == kd then 1 else 0) = cntK (l.take (i + 1)) kd ∧ nf + (if x.f1 == 1 then 1 else 0) = cntK (l.take (i + 1)) 1) := ⟨by rw [cnt_take hi, cnt_take hi, HV.out.2.1, HV.out.2.2, hx]; exact ⟨rfl, rfl⟩⟩
          have HRG : Aside0 ((0 ≤ nk ∧ nk ≤ 1000) ∧ 0 ≤ nf ∧ nf ≤ 1000) := ⟨by
            have h1 := cnt_range (l.take i) kd
            have h2 := cnt_range (l.take i) 1
            rw [← HV.out.2.1] at h1
            rw [← HV.out.2.2] at h2
            rw [List.length_take] at h1 h2
            have := HLF.out.1
            omega⟩
          have HI2 := Aside0.mk hi
          obtain ⟨wv2, hw2⟩ : ∃ v, v = wantS wv x := ⟨_, rfl⟩
          have HW2 := Aside0.mk hw2
          subst hA
          clear hi hx hlx hCx hw2
          go_upto_region 9 with fail
          obtain ⟨gt, hgt⟩ : ∃ q : Bool, q = ((wv == 0) && !kindB x.f1) := ⟨_, rfl⟩
          have HGT := Aside0.mk hgt
          clear hgt
          go_cut [49] (fun v49 wx => v49 = .bool gt ∧ w3 = wx)
          case first =>
            cases hw0 : (wv == 0) with
            | false =>
              go_wp2_with fail
              go_meet
              exact ⟨by rw [HGT.out, hw0]; rfl, rfl⟩
            | true =>
              cases hk1 : (x.f1 != 1) with
              | false =>
                have hk1' : (x.f1 == 1) = true := by simpa using hk1
                go_wp2_with fail
                go_meet
                exact ⟨by rw [HGT.out, hw0]; unfold kindB; rw [hk1']; rfl, rfl⟩
              | true =>
                have hk1' : (x.f1 == 1) = false := by simpa using hk1
                cases hk2 : (x.f1 != 2) with
                | false =>
                  have hk2' : (x.f1 == 2) = true := by simpa using hk2
                  go_wp2_with fail
                  go_meet
                  exact ⟨by rw [HGT.out, hw0]; unfold kindB; rw [hk1', hk2']; rfl, rfl⟩
                | true =>
                  have hk2' : (x.f1 == 2) = false := by simpa using hk2
                  go_wp2_with fail
                  go_meet
                  exact ⟨by rw [HGT.out, hw0]; unfold kindB; rw [hk1', hk2']; rfl, rfl⟩
          case rest =>
          obtain ⟨rfl, rfl⟩ := hcut
          go_upto_if 49 with fail
          go_cut [7, 49] (fun v7 v49 wx => v7 = .int .i64 wv2 ∧ w3 = wx)
          case first =>
            cases gt with
            | true =>
              have HE : Aside0 (wv2 = 2) := ⟨by
                have h := HGT.out.symm
                rw [Bool.and_eq_true] at h
                rw [HW2.out]
                unfold wantS
                rw [if_pos (by simpa using h.1), if_pos (by simpa using h.2)]⟩
              go_wp2_with fail
              go_meet
              exact ⟨by rw [HE.out], rfl⟩
            | false =>
              cases hw0 : (wv == 0) with
              | false =>
                have HE : Aside0 (wv2 = wv) := ⟨by rw [HW2.out]; unfold wantS; rw [if_neg (by simpa using hw0)]⟩
                go_wp2_with fail
                go_meet
                exact ⟨by rw [HE.out], rfl⟩
              | true =>
                have hwz : wv = 0 := by simpa using hw0
                have HWZ := Aside0.mk hwz
                have hkb : kindB x.f1 = true := by
                  have h := HGT.out.symm
                  rw [hw0, Bool.true_and] at h
                  simpa using h
                have HKB := Aside0.mk hkb
                clear hwz hkb
                by_cases hn : x.f0 < 0
                case pos =>
                  have t3 : decide (x.f0 < 0) = true := decide_eq_true hn
                  have HE : Aside0 (wv2 = 3) := ⟨by rw [HW2.out]; unfold wantS; rw [if_pos HWZ.out, if_neg (by rw [HKB.out]; decide), if_pos hn]⟩
                  clear hn
                  go_wp2_with fail
                  go_meet
                  exact ⟨by rw [HE.out], rfl⟩
                case neg =>
                  have t3 : decide (x.f0 < 0) = false := decide_eq_false hn
                  have HE : Aside0 (wv2 = wv) := ⟨by rw [HW2.out]; unfold wantS; rw [if_pos HWZ.out, if_neg (by rw [HKB.out]; decide), if_neg hn, HWZ.out]⟩
                  clear hn
                  go_wp2_with fail
                  go_meet
                  exact ⟨by rw [HE.out], rfl⟩
          case rest =>
          obtain ⟨rfl, rfl⟩ := hcut
          have hw1 : IntKind.i64.wrap (nk + 1) = nk + 1 := (ND.wrap_id (by have := HRG.out; omega) (by have := HRG.out; omega)).1
          have hw2 : IntKind.i64.wrap (nf + 1) = nf + 1 := (ND.wrap_id (by have := HRG.out; omega) (by have := HRG.out; omega)).1
          have hw3 : IntKind.i64.wrap ((i : Int) + 1) = (i : Int) + 1 := (ND.wrap_id (by omega) (by have := HLF.out.1; have := HI2.out; omega)).1
          cases hk : (x.f1 == kd) with
          | false =>
            cases hk1 : (x.f1 == 1) with
            | false =>
              go_wp2_with fail
              go_roundg (l.length - i)
              case measure => have := HI.out; have := HI2.out; omega
              case rel => exact ⟨i + 1, wv2, nk, nf, by first | rfl | go_num, rfl, rfl, rfl, rfl, ⟨by have := HI2.out; omega, by have := HI.out; have := HI2.out; omega⟩, ⟨HW2.out.trans HWN.out, by have h := HCN.out.1; rw [hk] at h; rw [← h]; simp, by have h := HCN.out.2; rw [hk1] at h; rw [← h]; simp⟩⟩
            | true =>
              go_wp2_with fail
              go_roundg (l.length - i)
              case measure => have := HI.out; have := HI2.out; omega
              case rel => exact ⟨i + 1, wv2, nk, nf + 1, by first | rfl | go_num, rfl, rfl, by first | rfl | go_num, rfl, ⟨by have := HI2.out; omega, by have := HI.out; have := HI2.out; omega⟩, ⟨HW2.out.trans HWN.out, by have h := HCN.out.1; rw [hk] at h; rw [← h]; simp, by have h := HCN.out.2; rw [hk1] at h; rw [← h]; simp⟩⟩
          | true =>
            cases hk1 : (x.f1 == 1) with
            | false =>
              go_wp2_with fail
              go_roundg (l.length - i)
              case measure => have := HI.out; have := HI2.out; omega
              case rel => exact ⟨i + 1, wv2, nk + 1, nf, by first | rfl | go_num, rfl, by first | rfl | go_num, rfl, rfl, ⟨by have := HI2.out; omega, by have := HI.out; have := HI2.out; omega⟩, ⟨HW2.out.trans HWN.out, by have h := HCN.out.1; rw [hk] at h; rw [← h]; simp, by have h := HCN.out.2; rw [hk1] at h; rw [← h]; simp⟩⟩
            | true =>
              go_wp2_with fail
              go_roundg (l.length - i)
              case measure => have := HI.out; have := HI2.out; omega
              case rel => exact ⟨i + 1, wv2, nk + 1, nf + 1, by first | rfl | go_num, rfl, by first | rfl | go_num, by first | rfl | go_num, rfl, ⟨by have := HI2.out; omega, by have := HI.out; have := HI2.out; omega⟩, ⟨HW2.out.trans HWN.out, by have h := HCN.out.1; rw [hk] at h; rw [← h]; simp, by have h := HCN.out.2; rw [hk1] at h; rw [← h]; simp⟩⟩
    case rest =>
    obtain ⟨rfl, rfl, rfl, rfl⟩ := hcut
    obtain ⟨⟨x, is⟩, hr⟩ : ∃ r, r = atOf l op := ⟨_, rfl⟩
    obtain ⟨fk, hfk⟩ : ∃ k, k = fnd op l 0 := ⟨_, rfl⟩
    have HSP : Aside0 ((is = false ∧ fk = -1 ∧ x = ⟨0, 0, []⟩) ∨ ∃ i : Nat, is = true ∧ fk = (i : Int) ∧ l[i]? = some x) := ⟨by
      rcases fnd_spec op l 0 with ⟨h1, h2⟩ | ⟨i, y, rest, h1, h2, h3⟩
      · left
        have e : atOf l op = (⟨0, 0, []⟩, false) := by unfold atOf; rw [show (l.filter fun x => x.f0 == op && kindB x.f1) = l.filter (hitB op) from rfl, h2]
        rw [e] at hr
        injection hr with ha hb
        exact ⟨hb, hfk.trans h1, ha⟩
      · right
        have e : atOf l op = (y, true) := by unfold atOf; rw [show (l.filter fun x => x.f0 == op && kindB x.f1) = l.filter (hitB op) from rfl, h3]
        rw [e] at hr
        injection hr with ha hb
        exact ⟨i, hb, by rw [hfk, h1, Nat.zero_add], by rw [ha]; exact h2⟩⟩
    have HAT := Aside0.mk (at_calls l A cp op w3 HLF.out.2 HC3.out)
    rw [← hr] at HAT
    have HFD : Aside0 (∀ W', Below w3.heap.size w3 W' → Calls Try.prog 36 #[.slice A l.length cp, .int .i64 op, .bool false] W' fun e w' => e = .returned (.int .i64 fk) ∧ Below W'.heap.size W' w') := ⟨fun W' hW => by rw [hfk]; exact find_calls l A cp op HIN.out.2.1 (Kd.C_below HC3.out hW) HIN.out.2.2⟩
    clear hr hfk
    go_upto_region 18 with (go_at_call 35; refine HAT.out.mono ?_; rintro e w4 ⟨Am, cm, rfl, hlm, hCm, hb⟩; have HB34 := Aside0.mk hb; have HB4 := Aside0.mk (below_then HB3.out HB3.out.size hb); have HCM := Aside0.mk (And.intro hlm hCm); clear hlm hCm hb)
    have hz5 := heap_alloc_new w4 (.cells #[.int .i64 x.f0, .int .i64 x.f1, .slice Am x.f2.length cm] 65)
    have hb5 := below_alloc (Below.refl w4.heap.size w4) (.cells #[.int .i64 x.f0, .int .i64 x.f1, .slice Am x.f2.length cm] 65)
    obtain ⟨g11, hg11⟩ : ∃ g, g = w4.heap.size := ⟨_, rfl⟩
    generalize w4.alloc (.cells #[.int .i64 x.f0, .int .i64 x.f1, .slice Am x.f2.length cm] 65) = W5 at hz5 hb5 ⊢
    rw [← hg11] at hz5 ⊢
    have HZ5 := Aside0.mk hz5
    have HB35 := Aside0.mk (below_then HB34.out HB34.out.size hb5)
    have HCM5 := Aside0.mk (Kd.C_below HCM.out.2 hb5)
    clear hz5 hb5 hg11
    go_upto_region 19 with (go_at_call 36; refine (HFD.out _ HB35.out).mono ?_; rintro e w6 ⟨rfl, hb⟩; have HB36 := Aside0.mk (below_then HB35.out HB35.out.size hb); have HZ6 := Aside0.mk (blk_below HZ5.out hb); have HCM6 := Aside0.mk (Kd.C_below HCM5.out hb); clear hb)
    clear HAT HFD HB34 HB4 HB35 HZ5 HCM5
    go_cut [111] (fun v111 wx => v111 = .bool false ∧ Aside0 (Below w3.heap.size w3 wx))
    case first => as_aux_lemma =>
      have B0 := Aside0.mk (below_drew1 (Below.refl w6.heap.size w6))
      rcases HSP.out with ⟨h1, h2, h3⟩ | ⟨i, h1, h2, h3⟩
      · subst h1 h2 h3
        have HON : Aside0 (∀ W', Below w6.heap.size w6 W' → Calls Try.prog 37 #[.agg #[.int .i64 0, .int .i64 0, .slice Am 0 cm], .agg #[.int .i64 0, .int .i64 0, .slice none 0 0]] W' fun e w' => e = .returned (.bool true) ∧ Below W'.heap.size W' w') := ⟨fun W' hW => wagtailref43_One.calls 0 0 Am cm [] 0 0 none 0 [] true W' (Kd.C_below HCM6.out hW) HCM.out.1 (Kd.C_nil _ _) (Nat.le_refl _) (one_refl 0 0 [])⟩
        have HZ0 : Aside0 (w6.heap[g11]? = some (.cells #[.int .i64 0, .int .i64 0, .slice Am 0 cm] 65 (0, 0))) := ⟨HZ6.out⟩
        clear HSP
        refine start_ (n := 26) (S := fun w' => True) (ds := []) #[false, false, false, false, false, false, false, false, false, false, false, false, false, false, false, false, false, false, false, false, false, false, false, false, false, false] (by kernel_rfl) rfl rfl trivial (fun hHeld => ?_)
        refine with_tabW looks19.tab19 looks19.bits19 (fun HT_ HW_ => ?_)
        generalize w6.drew = wq at B0 hHeld ⊢
        refine inv_at [0, 1, 2, 3, 4, 5, 6, 7, 8, 9, 10, 11, 12, 13, 14, 15, 16, 17, 18, 19, 20, 21, 22, 23, 24, 25] (fun a0_ b a w' => a = putSel a0_ b [(0, 86, .bool false), (1, 87, .int .i64 (-1)), (2, 88, .bool false), (3, 89, .bool false), (4, 90, .bool false), (5, 91, .bool false), (6, 92, .bool false), (7, 93, undef), (8, 94, undef), (9, 95, undef), (10, 96, undef), (11, 97, undef), (12, 98, undef), (13, 99, undef), (14, 100, .bool false), (15, 101, .bool false), (16, 102, .bool false), (17, 103, .bool false), (18, 104, .bool true), (19, 105, .bool true), (20, 106, .agg #[.int .i64 0, .int .i64 0, .slice Am 0 cm]), (21, 107, .agg #[.int .i64 0, .int .i64 0, .slice none 0 0]), (22, 108, .bool true), (23, 109, .bool false), (24, 110, .bool false), (25, 111, .bool false)] ∧ (Below w6.heap.size w6 w')) HT_.out HW_.out (by kernel_rfl) (by kernel_rfl) ?_ ?_ ?_
        · exact ⟨by simp only [putSel, Bool.false_eq_true, if_false], B0.out⟩
        · skip
          clear B0
          refine steps_cons ?_ ?_
          · rintro b a w' ⟨ha, Q_B0⟩ hb_ hon hoff
            refine ⟨_, rfl, fun K hK => ?_⟩
            have e12 : a.tmps[12]? = some (.bool false) := by rw [ha]; exact (putSel_off rfl).trans rfl
            replace ha := Aside0.mk ha
            have B0 := Aside0.mk Q_B0
            refine value_ (w1 := w') (v := .bool false) (by rfl) rfl ?_ ?_
            · go_simp
              (try simp only [i64_w])
              try rfl
            refine hK.out _ _ ⟨(by rw [ha.out]; exact putSel_upk 0 hb_ rfl rfl rfl), Q_B0⟩
          refine steps_cons ?_ ?_
          · rintro b a w' ⟨ha, Q_B0⟩ hb_ hon hoff
            refine ⟨_, rfl, fun K hK => ?_⟩
            have e13 : a.tmps[13]? = some (.int .i64 (-1)) := by rw [ha]; exact (putSel_off rfl).trans rfl
            replace ha := Aside0.mk ha
            have B0 := Aside0.mk Q_B0
            refine value_ (w1 := w') (v := .int .i64 (-1)) (by rfl) rfl ?_ ?_
            · go_simp
              (try simp only [i64_w])
              try rfl
            refine hK.out _ _ ⟨(by rw [ha.out]; exact putSel_upk 1 hb_ rfl rfl rfl), Q_B0⟩
          refine steps_cons ?_ ?_
          · rintro b a w' ⟨ha, Q_B0⟩ hb_ hon hoff
            refine ⟨_, rfl, fun K hK => ?_⟩
            have e87 : a.tmps[87]? = some (.int .i64 (-1)) := by rw [ha]; exact putSel_on (e := (1, 87, .int .i64 (-1))) 1 rfl rfl (hon 1 (by kernel_rfl)) rfl
            replace ha := Aside0.mk ha
            have B0 := Aside0.mk Q_B0
            refine value_ (w1 := w') (v := .bool false) (by rfl) rfl ?_ ?_
            · go_simp
              (try simp only [i64_w])
              try rfl
            refine hK.out _ _ ⟨(by rw [ha.out]; exact putSel_upk 2 hb_ rfl rfl rfl), Q_B0⟩
          refine steps_cons ?_ ?_
          · rintro b a w' ⟨ha, Q_B0⟩ hb_ hon hoff
            refine ⟨_, rfl, fun K hK => ?_⟩
            have e86 : a.tmps[86]? = some (.bool false) := by rw [ha]; exact putSel_on (e := (0, 86, .bool false)) 0 rfl rfl (hon 0 (by kernel_rfl)) rfl
            have e88 : a.tmps[88]? = some (.bool false) := by rw [ha]; exact putSel_on (e := (2, 88, .bool false)) 2 rfl rfl (hon 2 (by kernel_rfl)) rfl
            replace ha := Aside0.mk ha
            have B0 := Aside0.mk Q_B0
            refine value_ (w1 := w') (v := .bool false) (by rfl) rfl ?_ ?_
            · go_simp
              (try simp only [i64_w])
              try rfl
            refine hK.out _ _ ⟨(by rw [ha.out]; exact putSel_upk 3 hb_ rfl rfl rfl), Q_B0⟩
          refine steps_cons ?_ ?_
          · rintro b a w' ⟨ha, Q_B0⟩ hb_ hon hoff
            refine ⟨_, rfl, fun K hK => ?_⟩
            have e89 : a.tmps[89]? = some (.bool false) := by rw [ha]; exact putSel_on (e := (3, 89, .bool false)) 3 rfl rfl (hon 3 (by kernel_rfl)) rfl
            replace ha := Aside0.mk ha
            have B0 := Aside0.mk Q_B0
            refine value_ (w1 := w') (v := .bool false) (by rfl) rfl ?_ ?_
            · go_simp
              (try simp only [i64_w])
              try rfl
            refine hK.out _ _ ⟨(by rw [ha.out]; exact putSel_upk 4 hb_ rfl rfl rfl), Q_B0⟩
          refine steps_cons ?_ ?_
          · rintro b a w' ⟨ha, Q_B0⟩ hb_ hon hoff
            refine ⟨_, rfl, fun K hK => ?_⟩
            have e12 : a.tmps[12]? = some (.bool false) := by rw [ha]; exact (putSel_off rfl).trans rfl
            have e90 : a.tmps[90]? = some (.bool false) := by rw [ha]; exact putSel_on (e := (4, 90, .bool false)) 4 rfl rfl (hon 4 (by kernel_rfl)) rfl
            replace ha := Aside0.mk ha
            have B0 := Aside0.mk Q_B0
            refine value_ (w1 := w') (v := .bool false) (wanted_on rfl rfl rfl (e90.trans (by first | rfl | (simp [*]; done)))) rfl ?_ ?_
            · go_simp
              (try simp only [i64_w])
              try rfl
            refine hK.out _ _ ⟨(by rw [ha.out]; exact putSel_upk 5 hb_ rfl rfl rfl), Q_B0⟩
          refine steps_cons ?_ ?_
          · rintro b a w' ⟨ha, Q_B0⟩ hb_ hon hoff
            refine ⟨_, rfl, fun K hK => ?_⟩
            have e91 : a.tmps[91]? = some (.bool false) := by rw [ha]; exact putSel_on (e := (5, 91, .bool false)) 5 rfl rfl (hon 5 (by kernel_rfl)) rfl
            have e90 : a.tmps[90]? = some (.bool false) := by rw [ha]; exact putSel_on (e := (4, 90, .bool false)) 4 rfl rfl (hon 4 (by kernel_rfl)) rfl
            replace ha := Aside0.mk ha
            have B0 := Aside0.mk Q_B0
            refine value_ (w1 := w') (v := .bool false) (wanted_on rfl rfl rfl (e90.trans (by first | rfl | (simp [*]; done)))) rfl ?_ ?_
            · go_simp
              (try simp only [i64_w])
              try rfl
            refine hK.out _ _ ⟨(by rw [ha.out]; exact putSel_upk 6 hb_ rfl rfl rfl), Q_B0⟩
          refine steps_cons ?_ ?_
          · rintro b a w' ⟨ha, Q_B0⟩ hb_ hon hoff
            refine ⟨_, rfl, fun K hK => ?_⟩
            have e92 : a.tmps[92]? = some (.bool false) := by rw [ha]; exact putSel_on (e := (6, 92, .bool false)) 6 rfl rfl (hon 6 (by kernel_rfl)) rfl
            replace ha := Aside0.mk ha
            have B0 := Aside0.mk Q_B0
            refine off_ (wanted_off rfl rfl rfl (e92.trans (by first | rfl | (simp [*]; done)))) ?_
            refine hK.out _ _ ⟨(by rw [ha.out]; exact putSel_upk 7 hb_ rfl rfl rfl), Q_B0⟩
          refine steps_cons ?_ ?_
          · rintro b a w' ⟨ha, Q_B0⟩ hb_ hon hoff
            refine ⟨_, rfl, fun K hK => ?_⟩
            have e92 : a.tmps[92]? = some (.bool false) := by rw [ha]; exact putSel_on (e := (6, 92, .bool false)) 6 rfl rfl (hon 6 (by kernel_rfl)) rfl
            replace ha := Aside0.mk ha
            have B0 := Aside0.mk Q_B0
            refine off_ (wanted_off rfl rfl rfl (e92.trans (by first | rfl | (simp [*]; done)))) ?_
            refine hK.out _ _ ⟨(by rw [ha.out]; exact putSel_upk 8 hb_ rfl rfl rfl), Q_B0⟩
          refine steps_cons ?_ ?_
          · rintro b a w' ⟨ha, Q_B0⟩ hb_ hon hoff
            refine ⟨_, rfl, fun K hK => ?_⟩
            have e92 : a.tmps[92]? = some (.bool false) := by rw [ha]; exact putSel_on (e := (6, 92, .bool false)) 6 rfl rfl (hon 6 (by kernel_rfl)) rfl
            replace ha := Aside0.mk ha
            have B0 := Aside0.mk Q_B0
            refine off_ (wanted_off rfl rfl rfl (e92.trans (by first | rfl | (simp [*]; done)))) ?_
            refine hK.out _ _ ⟨(by rw [ha.out]; exact putSel_upk 9 hb_ rfl rfl rfl), Q_B0⟩
          refine steps_cons ?_ ?_
          · rintro b a w' ⟨ha, Q_B0⟩ hb_ hon hoff
            refine ⟨_, rfl, fun K hK => ?_⟩
            have e92 : a.tmps[92]? = some (.bool false) := by rw [ha]; exact putSel_on (e := (6, 92, .bool false)) 6 rfl rfl (hon 6 (by kernel_rfl)) rfl
            replace ha := Aside0.mk ha
            have B0 := Aside0.mk Q_B0
            refine off_ (wanted_off rfl rfl rfl (e92.trans (by first | rfl | (simp [*]; done)))) ?_
            refine hK.out _ _ ⟨(by rw [ha.out]; exact putSel_upk 10 hb_ rfl rfl rfl), Q_B0⟩
          refine steps_cons ?_ ?_
          · rintro b a w' ⟨ha, Q_B0⟩ hb_ hon hoff
            refine ⟨_, rfl, fun K hK => ?_⟩
            have e92 : a.tmps[92]? = some (.bool false) := by rw [ha]; exact putSel_on (e := (6, 92, .bool false)) 6 rfl rfl (hon 6 (by kernel_rfl)) rfl
            replace ha := Aside0.mk ha
            have B0 := Aside0.mk Q_B0
            refine off_ (wanted_off rfl rfl rfl (e92.trans (by first | rfl | (simp [*]; done)))) ?_
            refine hK.out _ _ ⟨(by rw [ha.out]; exact putSel_upk 11 hb_ rfl rfl rfl), Q_B0⟩
          refine steps_cons ?_ ?_
          · rintro b a w' ⟨ha, Q_B0⟩ hb_ hon hoff
            refine ⟨_, rfl, fun K hK => ?_⟩
            have e92 : a.tmps[92]? = some (.bool false) := by rw [ha]; exact putSel_on (e := (6, 92, .bool false)) 6 rfl rfl (hon 6 (by kernel_rfl)) rfl
            replace ha := Aside0.mk ha
            have B0 := Aside0.mk Q_B0
            refine off_ (wanted_off rfl rfl rfl (e92.trans (by first | rfl | (simp [*]; done)))) ?_
            refine hK.out _ _ ⟨(by rw [ha.out]; exact putSel_upk 12 hb_ rfl rfl rfl), Q_B0⟩
          refine steps_cons ?_ ?_
          · rintro b a w' ⟨ha, Q_B0⟩ hb_ hon hoff
            refine ⟨_, rfl, fun K hK => ?_⟩
            have e92 : a.tmps[92]? = some (.bool false) := by rw [ha]; exact putSel_on (e := (6, 92, .bool false)) 6 rfl rfl (hon 6 (by kernel_rfl)) rfl
            replace ha := Aside0.mk ha
            have B0 := Aside0.mk Q_B0
            refine off_ (wanted_off rfl rfl rfl (e92.trans (by first | rfl | (simp [*]; done)))) ?_
            refine hK.out _ _ ⟨(by rw [ha.out]; exact putSel_upk 13 hb_ rfl rfl rfl), Q_B0⟩
          refine steps_cons ?_ ?_
          · rintro b a w' ⟨ha, Q_B0⟩ hb_ hon hoff
            refine ⟨_, rfl, fun K hK => ?_⟩
            have e92 : a.tmps[92]? = some (.bool false) := by rw [ha]; exact putSel_on (e := (6, 92, .bool false)) 6 rfl rfl (hon 6 (by kernel_rfl)) rfl
            have e99 : a.tmps[99]? = some (undef) := by rw [ha]; exact putSel_on (e := (13, 99, undef)) 13 rfl rfl (hon 13 (by kernel_rfl)) rfl
            have e90 : a.tmps[90]? = some (.bool false) := by rw [ha]; exact putSel_on (e := (4, 90, .bool false)) 4 rfl rfl (hon 4 (by kernel_rfl)) rfl
            replace ha := Aside0.mk ha
            have B0 := Aside0.mk Q_B0
            refine value_ (w1 := w') (v := .bool false) (wanted_on rfl rfl rfl (e90.trans (by first | rfl | (simp [*]; done)))) rfl ?_ ?_
            · go_simp
              (try simp only [i64_w])
              try rfl
            refine hK.out _ _ ⟨(by rw [ha.out]; exact putSel_upk 14 hb_ rfl rfl rfl), Q_B0⟩
          refine steps_cons ?_ ?_
          · rintro b a w' ⟨ha, Q_B0⟩ hb_ hon hoff
            refine ⟨_, rfl, fun K hK => ?_⟩
            have e90 : a.tmps[90]? = some (.bool false) := by rw [ha]; exact putSel_on (e := (4, 90, .bool false)) 4 rfl rfl (hon 4 (by kernel_rfl)) rfl
            have e100 : a.tmps[100]? = some (.bool false) := by rw [ha]; exact putSel_on (e := (14, 100, .bool false)) 14 rfl rfl (hon 14 (by kernel_rfl)) rfl
            replace ha := Aside0.mk ha
            have B0 := Aside0.mk Q_B0
            refine value_ (w1 := w') (v := .bool false) (by rfl) rfl ?_ ?_
            · go_simp
              (try simp only [i64_w])
              try rfl
            refine hK.out _ _ ⟨(by rw [ha.out]; exact putSel_upk 15 hb_ rfl rfl rfl), Q_B0⟩
          refine steps_cons ?_ ?_
          · rintro b a w' ⟨ha, Q_B0⟩ hb_ hon hoff
            refine ⟨_, rfl, fun K hK => ?_⟩
            have e101 : a.tmps[101]? = some (.bool false) := by rw [ha]; exact putSel_on (e := (15, 101, .bool false)) 15 rfl rfl (hon 15 (by kernel_rfl)) rfl
            replace ha := Aside0.mk ha
            have B0 := Aside0.mk Q_B0
            refine value_ (w1 := w') (v := .bool false) (by rfl) rfl ?_ ?_
            · go_simp
              (try simp only [i64_w])
              try rfl
            refine hK.out _ _ ⟨(by rw [ha.out]; exact putSel_upk 16 hb_ rfl rfl rfl), Q_B0⟩
          refine steps_cons ?_ ?_
          · rintro b a w' ⟨ha, Q_B0⟩ hb_ hon hoff
            refine ⟨_, rfl, fun K hK => ?_⟩
            have e12 : a.tmps[12]? = some (.bool false) := by rw [ha]; exact (putSel_off rfl).trans rfl
            have e102 : a.tmps[102]? = some (.bool false) := by rw [ha]; exact putSel_on (e := (16, 102, .bool false)) 16 rfl rfl (hon 16 (by kernel_rfl)) rfl
            replace ha := Aside0.mk ha
            have B0 := Aside0.mk Q_B0
            refine value_ (w1 := w') (v := .bool false) (wanted_on rfl rfl rfl (e102.trans (by first | rfl | (simp [*]; done)))) rfl ?_ ?_
            · go_simp
              (try simp only [i64_w])
              try rfl
            refine hK.out _ _ ⟨(by rw [ha.out]; exact putSel_upk 17 hb_ rfl rfl rfl), Q_B0⟩
          refine steps_cons ?_ ?_
          · rintro b a w' ⟨ha, Q_B0⟩ hb_ hon hoff
            refine ⟨_, rfl, fun K hK => ?_⟩
            have e103 : a.tmps[103]? = some (.bool false) := by rw [ha]; exact putSel_on (e := (17, 103, .bool false)) 17 rfl rfl (hon 17 (by kernel_rfl)) rfl
            have e102 : a.tmps[102]? = some (.bool false) := by rw [ha]; exact putSel_on (e := (16, 102, .bool false)) 16 rfl rfl (hon 16 (by kernel_rfl)) rfl
            replace ha := Aside0.mk ha
            have B0 := Aside0.mk Q_B0
            refine value_ (w1 := w') (v := .bool true) (wanted_on rfl rfl rfl (e102.trans (by first | rfl | (simp [*]; done)))) rfl ?_ ?_
            · go_simp
              (try simp only [i64_w])
              try rfl
            refine hK.out _ _ ⟨(by rw [ha.out]; exact putSel_upk 18 hb_ rfl rfl rfl), Q_B0⟩
          refine steps_cons ?_ ?_
          · rintro b a w' ⟨ha, Q_B0⟩ hb_ hon hoff
            refine ⟨_, rfl, fun K hK => ?_⟩
            have e104 : a.tmps[104]? = some (.bool true) := by rw [ha]; exact putSel_on (e := (18, 104, .bool true)) 18 rfl rfl (hon 18 (by kernel_rfl)) rfl
            have e102 : a.tmps[102]? = some (.bool false) := by rw [ha]; exact putSel_on (e := (16, 102, .bool false)) 16 rfl rfl (hon 16 (by kernel_rfl)) rfl
            replace ha := Aside0.mk ha
            have B0 := Aside0.mk Q_B0
            refine value_ (w1 := w') (v := .bool true) (wanted_on rfl rfl rfl (e102.trans (by first | rfl | (simp [*]; done)))) rfl ?_ ?_
            · go_simp
              (try simp only [i64_w])
              try rfl
            refine hK.out _ _ ⟨(by rw [ha.out]; exact putSel_upk 19 hb_ rfl rfl rfl), Q_B0⟩
          refine steps_cons ?_ ?_
          · rintro b a w' ⟨ha, Q_B0⟩ hb_ hon hoff
            refine ⟨_, rfl, fun K hK => ?_⟩
            have e11 : a.tmps[11]? = some (.pointer (some ⟨g11, 0, none⟩)) := by rw [ha]; exact (putSel_off rfl).trans rfl
            have e105 : a.tmps[105]? = some (.bool true) := by rw [ha]; exact putSel_on (e := (19, 105, .bool true)) 19 rfl rfl (hon 19 (by kernel_rfl)) rfl
            replace ha := Aside0.mk ha
            have B0 := Aside0.mk Q_B0
            have c0_ := blk_cell (blk_below HZ0.out B0.out) 0
            have c1_ := blk_cell (blk_below HZ0.out B0.out) 1
            have c2_ := blk_cell (blk_below HZ0.out B0.out) 2
            refine value_ (w1 := w') (v := .agg #[.int .i64 0, .int .i64 0, .slice Am 0 cm]) (wanted_on rfl rfl rfl (e105.trans (by first | rfl | (simp [*]; done)))) rfl ?_ ?_
            · go_simp
              (try simp only [i64_w])
              try rfl
            refine hK.out _ _ ⟨(by rw [ha.out]; exact putSel_upk 20 hb_ rfl rfl rfl), Q_B0⟩
          refine steps_cons ?_ ?_
          · rintro b a w' ⟨ha, Q_B0⟩ hb_ hon hoff
            refine ⟨_, rfl, fun K hK => ?_⟩
            have e105 : a.tmps[105]? = some (.bool true) := by rw [ha]; exact putSel_on (e := (19, 105, .bool true)) 19 rfl rfl (hon 19 (by kernel_rfl)) rfl
            replace ha := Aside0.mk ha
            have B0 := Aside0.mk Q_B0
            refine value_ (w1 := w') (v := .agg #[.int .i64 0, .int .i64 0, .slice none 0 0]) (wanted_on rfl rfl rfl (e105.trans (by first | rfl | (simp [*]; done)))) rfl ?_ ?_
            · go_simp
              (try simp only [i64_w])
              try rfl
            refine hK.out _ _ ⟨(by rw [ha.out]; exact putSel_upk 21 hb_ rfl rfl rfl), Q_B0⟩
          refine steps_cons ?_ ?_
          · rintro b a w' ⟨ha, Q_B0⟩ hb_ hon hoff
            refine ⟨_, rfl, fun K hK => ?_⟩
            have e106 : a.tmps[106]? = some (.agg #[.int .i64 0, .int .i64 0, .slice Am 0 cm]) := by rw [ha]; exact putSel_on (e := (20, 106, .agg #[.int .i64 0, .int .i64 0, .slice Am 0 cm])) 20 rfl rfl (hon 20 (by kernel_rfl)) rfl
            have e107 : a.tmps[107]? = some (.agg #[.int .i64 0, .int .i64 0, .slice none 0 0]) := by rw [ha]; exact putSel_on (e := (21, 107, .agg #[.int .i64 0, .int .i64 0, .slice none 0 0])) 21 rfl rfl (hon 21 (by kernel_rfl)) rfl
            have e105 : a.tmps[105]? = some (.bool true) := by rw [ha]; exact putSel_on (e := (19, 105, .bool true)) 19 rfl rfl (hon 19 (by kernel_rfl)) rfl
            replace ha := Aside0.mk ha
            have B0 := Aside0.mk Q_B0
            refine goes_ Try.func37 (by kernel_rfl) rfl #[.agg #[.int .i64 0, .int .i64 0, .slice Am 0 cm], .agg #[.int .i64 0, .int .i64 0, .slice none 0 0]] (wanted_on rfl rfl rfl (e105.trans rfl)) rfl rfl (by first | (simp only [List.map_toArray, List.map_cons, List.map_nil, Act.eval, Array.getD_eq_getD_getElem?, Option.getD_some, e106, e107, e105]; done) | (simp only [List.map_toArray, List.map_cons, List.map_nil, Act.eval, Array.getD_eq_getD_getElem?, Option.getD_some, e106, e107, e105]; rfl)) ?_
            with_reducible refine (HON.out _ B0.out).mono ?_
            rintro e w2 ⟨rfl, hb⟩
            refine ⟨_, rfl, ?_⟩
            refine hK.out _ _ ⟨(by rw [ha.out]; exact putSel_upk 22 hb_ rfl rfl rfl), below_then B0.out B0.out.size hb⟩
          refine steps_cons ?_ ?_
          · rintro b a w' ⟨ha, Q_B0⟩ hb_ hon hoff
            refine ⟨_, rfl, fun K hK => ?_⟩
            have e108 : a.tmps[108]? = some (.bool true) := by rw [ha]; exact putSel_on (e := (22, 108, .bool true)) 22 rfl rfl (hon 22 (by kernel_rfl)) rfl
            have e105 : a.tmps[105]? = some (.bool true) := by rw [ha]; exact putSel_on (e := (19, 105, .bool true)) 19 rfl rfl (hon 19 (by kernel_rfl)) rfl
            replace ha := Aside0.mk ha
            have B0 := Aside0.mk Q_B0
            refine value_ (w1 := w') (v := .bool false) (wanted_on rfl rfl rfl (e105.trans (by first | rfl | (simp [*]; done)))) rfl ?_ ?_
            · go_simp
              (try simp only [i64_w])
              try rfl
            refine hK.out _ _ ⟨(by rw [ha.out]; exact putSel_upk 23 hb_ rfl rfl rfl), Q_B0⟩
          refine steps_cons ?_ ?_
          · rintro b a w' ⟨ha, Q_B0⟩ hb_ hon hoff
            refine ⟨_, rfl, fun K hK => ?_⟩
            have e105 : a.tmps[105]? = some (.bool true) := by rw [ha]; exact putSel_on (e := (19, 105, .bool true)) 19 rfl rfl (hon 19 (by kernel_rfl)) rfl
            have e109 : a.tmps[109]? = some (.bool false) := by rw [ha]; exact putSel_on (e := (23, 109, .bool false)) 23 rfl rfl (hon 23 (by kernel_rfl)) rfl
            have e102 : a.tmps[102]? = some (.bool false) := by rw [ha]; exact putSel_on (e := (16, 102, .bool false)) 16 rfl rfl (hon 16 (by kernel_rfl)) rfl
            replace ha := Aside0.mk ha
            have B0 := Aside0.mk Q_B0
            refine value_ (w1 := w') (v := .bool false) (wanted_on rfl rfl rfl (e102.trans (by first | rfl | (simp [*]; done)))) rfl ?_ ?_
            · go_simp
              (try simp only [i64_w])
              try rfl
            refine hK.out _ _ ⟨(by rw [ha.out]; exact putSel_upk 24 hb_ rfl rfl rfl), Q_B0⟩
          refine steps_cons ?_ ?_
          · rintro b a w' ⟨ha, Q_B0⟩ hb_ hon hoff
            refine ⟨_, rfl, fun K hK => ?_⟩
            have e102 : a.tmps[102]? = some (.bool false) := by rw [ha]; exact putSel_on (e := (16, 102, .bool false)) 16 rfl rfl (hon 16 (by kernel_rfl)) rfl
            have e110 : a.tmps[110]? = some (.bool false) := by rw [ha]; exact putSel_on (e := (24, 110, .bool false)) 24 rfl rfl (hon 24 (by kernel_rfl)) rfl
            replace ha := Aside0.mk ha
            have B0 := Aside0.mk Q_B0
            refine value_ (w1 := w') (v := .bool false) (by rfl) rfl ?_ ?_
            · go_simp
              (try simp only [i64_w])
              try rfl
            refine hK.out _ _ ⟨(by rw [ha.out]; exact putSel_upk 25 hb_ rfl rfl rfl), Q_B0⟩
          exact steps_nil
        rintro b a w7a hall ⟨ha, Q_B0⟩
        clear B0
        have hb0_ := hall 0 (by kernel_rfl)
        have hb1_ := hall 1 (by kernel_rfl)
        have hb2_ := hall 2 (by kernel_rfl)
        have hb3_ := hall 3 (by kernel_rfl)
        have hb4_ := hall 4 (by kernel_rfl)
        have hb5_ := hall 5 (by kernel_rfl)
        have hb6_ := hall 6 (by kernel_rfl)
        have hb7_ := hall 7 (by kernel_rfl)
        have hb8_ := hall 8 (by kernel_rfl)
        have hb9_ := hall 9 (by kernel_rfl)
        have hb10_ := hall 10 (by kernel_rfl)
        have hb11_ := hall 11 (by kernel_rfl)
        have hb12_ := hall 12 (by kernel_rfl)
        have hb13_ := hall 13 (by kernel_rfl)
        have hb14_ := hall 14 (by kernel_rfl)
        have hb15_ := hall 15 (by kernel_rfl)
        have hb16_ := hall 16 (by kernel_rfl)
        have hb17_ := hall 17 (by kernel_rfl)
        have hb18_ := hall 18 (by kernel_rfl)
        have hb19_ := hall 19 (by kernel_rfl)
        have hb20_ := hall 20 (by kernel_rfl)
        have hb21_ := hall 21 (by kernel_rfl)
        have hb22_ := hall 22 (by kernel_rfl)
        have hb23_ := hall 23 (by kernel_rfl)
        have hb24_ := hall 24 (by kernel_rfl)
        have hb25_ := hall 25 (by kernel_rfl)
        subst ha
        simp only [putSel, hb0_, hb1_, hb2_, hb3_, hb4_, hb5_, hb6_, hb7_, hb8_, hb9_, hb10_, hb11_, hb12_, hb13_, hb14_, hb15_, hb16_, hb17_, hb18_, hb19_, hb20_, hb21_, hb22_, hb23_, hb24_, hb25_, if_true, Act.put, List.setIfInBounds_toArray, List.set_cons_zero, List.set_cons_succ]
        have B0 := Aside0.mk Q_B0
        clear Q_B0
        clear hall hb0_ hb1_ hb2_ hb3_ hb4_ hb5_ hb6_ hb7_ hb8_ hb9_ hb10_ hb11_ hb12_ hb13_ hb14_ hb15_ hb16_ hb17_ hb18_ hb19_ hb20_ hb21_ hb22_ hb23_ hb24_ hb25_
        go_wp2_with fail
        go_meet
        exact ⟨rfl, ⟨below_then HB36.out HB36.out.size B0.out⟩⟩
      · subst h1 h2
        have hi : i < l.length := (List.getElem?_eq_some_iff.1 h3).1
        obtain ⟨ad, Ax, cx, hA, hxs, hlx, hCx⟩ := atF (Kd.C_below HC3.out HB36.out) i hi
        have hxe : l[i] = x := by rw [List.getElem?_eq_getElem hi] at h3; exact Option.some.inj h3
        rw [hxe] at hxs hlx hCx
        subst hA
        have HX := Aside0.mk hxs
        have HON : Aside0 (∀ W', Below w6.heap.size w6 W' → Calls Try.prog 37 #[.agg #[.int .i64 x.f0, .int .i64 x.f1, .slice Am x.f2.length cm], .agg #[.int .i64 x.f0, .int .i64 x.f1, .slice Ax x.f2.length cx]] W' fun e w' => e = .returned (.bool true) ∧ Below W'.heap.size W' w') := ⟨fun W' hW => wagtailref43_One.calls x.f0 x.f1 Am cm x.f2 x.f0 x.f1 Ax cx x.f2 true W' (Kd.C_below HCM6.out hW) HCM.out.1 (Kd.C_below hCx hW) hlx (one_refl _ _ _)⟩
        have HPQ := Aside0.mk (And.intro (eq_true (show (0 : Int) ≤ (i : Int) by omega)) (And.intro (eq_true (show (i : Int) < (l.length : Int) by omega)) (decide_eq_true (show (i : Int) ≥ 0 by omega))))
        clear HSP hi hxs hlx hCx hxe h3
        refine start_ (n := 26) (S := fun w' => True) (ds := []) #[false, false, false, false, false, false, false, false, false, false, false, false, false, false, false, false, false, false, false, false, false, false, false, false, false, false] (by kernel_rfl) rfl rfl trivial (fun hHeld => ?_)
        refine with_tabW looks19.tab19 looks19.bits19 (fun HT_ HW_ => ?_)
        generalize w6.drew = wq at B0 hHeld ⊢
        refine inv_at [0, 1, 2, 3, 4, 5, 6, 7, 8, 9, 10, 11, 12, 13, 14, 15, 16, 17, 18, 19, 20, 21, 22, 23, 24, 25] (fun a0_ b a w' => a = putSel a0_ b [(0, 86, .bool true), (1, 87, .int .i64 (i : Int)), (2, 88, .bool true), (3, 89, .bool false), (4, 90, .bool false), (5, 91, .bool true), (6, 92, .bool true), (7, 93, .agg #[.int .i64 x.f0, .int .i64 x.f1, .slice Am x.f2.length cm]), (8, 94, .slice (some ad) l.length cp), (9, 95, .int .i64 (i : Int)), (10, 96, .pointer (some (ad.add (i * 3)))), (11, 97, .agg #[.int .i64 x.f0, .int .i64 x.f1, .slice Ax x.f2.length cx]), (12, 98, .bool true), (13, 99, .bool false), (14, 100, .bool false), (15, 101, .bool false), (16, 102, .bool false), (17, 103, .bool true), (18, 104, .bool false), (19, 105, .bool false), (20, 106, undef), (21, 107, undef), (22, 108, undef), (23, 109, undef), (24, 110, .bool false), (25, 111, .bool false)] ∧ (Below w6.heap.size w6 w')) HT_.out HW_.out (by kernel_rfl) (by kernel_rfl) ?_ ?_ ?_
        · exact ⟨by simp only [putSel, Bool.false_eq_true, if_false], B0.out⟩
        · skip
          clear B0
          refine steps_cons ?_ ?_
          · rintro b a w' ⟨ha, Q_B0⟩ hb_ hon hoff
            refine ⟨_, rfl, fun K hK => ?_⟩
            have e12 : a.tmps[12]? = some (.bool true) := by rw [ha]; exact (putSel_off rfl).trans rfl
            replace ha := Aside0.mk ha
            have B0 := Aside0.mk Q_B0
            refine value_ (w1 := w') (v := .bool true) (by rfl) rfl ?_ ?_
            · go_simp
              (try simp only [i64_w])
              try rfl
            refine hK.out _ _ ⟨(by rw [ha.out]; exact putSel_upk 0 hb_ rfl rfl rfl), Q_B0⟩
          refine steps_cons ?_ ?_
          · rintro b a w' ⟨ha, Q_B0⟩ hb_ hon hoff
            refine ⟨_, rfl, fun K hK => ?_⟩
            have e13 : a.tmps[13]? = some (.int .i64 (i : Int)) := by rw [ha]; exact (putSel_off rfl).trans rfl
            replace ha := Aside0.mk ha
            have B0 := Aside0.mk Q_B0
            refine value_ (w1 := w') (v := .int .i64 (i : Int)) (by rfl) rfl ?_ ?_
            · go_simp
              (try simp only [i64_w])
              try rfl
            refine hK.out _ _ ⟨(by rw [ha.out]; exact putSel_upk 1 hb_ rfl rfl rfl), Q_B0⟩
          refine steps_cons ?_ ?_
          · rintro b a w' ⟨ha, Q_B0⟩ hb_ hon hoff
            refine ⟨_, rfl, fun K hK => ?_⟩
            have e87 : a.tmps[87]? = some (.int .i64 (i : Int)) := by rw [ha]; exact putSel_on (e := (1, 87, .int .i64 (i : Int))) 1 rfl rfl (hon 1 (by kernel_rfl)) rfl
            replace ha := Aside0.mk ha
            have B0 := Aside0.mk Q_B0
            have q_ := HPQ.out.2.2
            refine value_ (w1 := w') (v := .bool true) (by rfl) rfl ?_ ?_
            · go_simp
              (try simp only [i64_w])
              try rfl
            refine hK.out _ _ ⟨(by rw [ha.out]; exact putSel_upk 2 hb_ rfl rfl rfl), Q_B0⟩
          refine steps_cons ?_ ?_
          · rintro b a w' ⟨ha, Q_B0⟩ hb_ hon hoff
            refine ⟨_, rfl, fun K hK => ?_⟩
            have e86 : a.tmps[86]? = some (.bool true) := by rw [ha]; exact putSel_on (e := (0, 86, .bool true)) 0 rfl rfl (hon 0 (by kernel_rfl)) rfl
            have e88 : a.tmps[88]? = some (.bool true) := by rw [ha]; exact putSel_on (e := (2, 88, .bool true)) 2 rfl rfl (hon 2 (by kernel_rfl)) rfl
            replace ha := Aside0.mk ha
            have B0 := Aside0.mk Q_B0
            refine value_ (w1 := w') (v := .bool false) (by rfl) rfl ?_ ?_
            · go_simp
              (try simp only [i64_w])
              try rfl
            refine hK.out _ _ ⟨(by rw [ha.out]; exact putSel_upk 3 hb_ rfl rfl rfl), Q_B0⟩
          refine steps_cons ?_ ?_
          · rintro b a w' ⟨ha, Q_B0⟩ hb_ hon hoff
            refine ⟨_, rfl, fun K hK => ?_⟩
            have e89 : a.tmps[89]? = some (.bool false) := by rw [ha]; exact putSel_on (e := (3, 89, .bool false)) 3 rfl rfl (hon 3 (by kernel_rfl)) rfl
            replace ha := Aside0.mk ha
            have B0 := Aside0.mk Q_B0
            refine value_ (w1 := w') (v := .bool false) (by rfl) rfl ?_ ?_
            · go_simp
              (try simp only [i64_w])
              try rfl
            refine hK.out _ _ ⟨(by rw [ha.out]; exact putSel_upk 4 hb_ rfl rfl rfl), Q_B0⟩
          refine steps_cons ?_ ?_
          · rintro b a w' ⟨ha, Q_B0⟩ hb_ hon hoff
            refine ⟨_, rfl, fun K hK => ?_⟩
            have e12 : a.tmps[12]? = some (.bool true) := by rw [ha]; exact (putSel_off rfl).trans rfl
            have e90 : a.tmps[90]? = some (.bool false) := by rw [ha]; exact putSel_on (e := (4, 90, .bool false)) 4 rfl rfl (hon 4 (by kernel_rfl)) rfl
            replace ha := Aside0.mk ha
            have B0 := Aside0.mk Q_B0
            refine value_ (w1 := w') (v := .bool true) (wanted_on rfl rfl rfl (e90.trans (by first | rfl | (simp [*]; done)))) rfl ?_ ?_
            · go_simp
              (try simp only [i64_w])
              try rfl
            refine hK.out _ _ ⟨(by rw [ha.out]; exact putSel_upk 5 hb_ rfl rfl rfl), Q_B0⟩
          refine steps_cons ?_ ?_
          · rintro b a w' ⟨ha, Q_B0⟩ hb_ hon hoff
            refine ⟨_, rfl, fun K hK => ?_⟩
            have e91 : a.tmps[91]? = some (.bool true) := by rw [ha]; exact putSel_on (e := (5, 91, .bool true)) 5 rfl rfl (hon 5 (by kernel_rfl)) rfl
            have e90 : a.tmps[90]? = some (.bool false) := by rw [ha]; exact putSel_on (e := (4, 90, .bool false)) 4 rfl rfl (hon 4 (by kernel_rfl)) rfl
            replace ha := Aside0.mk ha
            have B0 := Aside0.mk Q_B0
            refine value_ (w1 := w') (v := .bool true) (wanted_on rfl rfl rfl (e90.trans (by first | rfl | (simp [*]; done)))) rfl ?_ ?_
            · go_simp
              (try simp only [i64_w])
              try rfl
            refine hK.out _ _ ⟨(by rw [ha.out]; exact putSel_upk 6 hb_ rfl rfl rfl), Q_B0⟩
          refine steps_cons ?_ ?_
          · rintro b a w' ⟨ha, Q_B0⟩ hb_ hon hoff
            refine ⟨_, rfl, fun K hK => ?_⟩
            have e11 : a.tmps[11]? = some (.pointer (some ⟨g11, 0, none⟩)) := by rw [ha]; exact (putSel_off rfl).trans rfl
            have e92 : a.tmps[92]? = some (.bool true) := by rw [ha]; exact putSel_on (e := (6, 92, .bool true)) 6 rfl rfl (hon 6 (by kernel_rfl)) rfl
            replace ha := Aside0.mk ha
            have B0 := Aside0.mk Q_B0
            have c0_ := blk_cell (blk_below HZ6.out B0.out) 0
            have c1_ := blk_cell (blk_below HZ6.out B0.out) 1
            have c2_ := blk_cell (blk_below HZ6.out B0.out) 2
            refine value_ (w1 := w') (v := .agg #[.int .i64 x.f0, .int .i64 x.f1, .slice Am x.f2.length cm]) (wanted_on rfl rfl rfl (e92.trans (by first | rfl | (simp [*]; done)))) rfl ?_ ?_
            · go_simp
              (try simp only [i64_w])
              try rfl
            refine hK.out _ _ ⟨(by rw [ha.out]; exact putSel_upk 7 hb_ rfl rfl rfl), Q_B0⟩
          refine steps_cons ?_ ?_
          · rintro b a w' ⟨ha, Q_B0⟩ hb_ hon hoff
            refine ⟨_, rfl, fun K hK => ?_⟩
            have e4 : a.tmps[4]? = some (.slice (some ad) l.length cp) := by rw [ha]; exact (putSel_off rfl).trans rfl
            have e92 : a.tmps[92]? = some (.bool true) := by rw [ha]; exact putSel_on (e := (6, 92, .bool true)) 6 rfl rfl (hon 6 (by kernel_rfl)) rfl
            replace ha := Aside0.mk ha
            have B0 := Aside0.mk Q_B0
            refine value_ (w1 := w') (v := .slice (some ad) l.length cp) (wanted_on rfl rfl rfl (e92.trans (by first | rfl | (simp [*]; done)))) rfl ?_ ?_
            · go_simp
              (try simp only [i64_w])
              try rfl
            refine hK.out _ _ ⟨(by rw [ha.out]; exact putSel_upk 8 hb_ rfl rfl rfl), Q_B0⟩
          refine steps_cons ?_ ?_
          · rintro b a w' ⟨ha, Q_B0⟩ hb_ hon hoff
            refine ⟨_, rfl, fun K hK => ?_⟩
            have e13 : a.tmps[13]? = some (.int .i64 (i : Int)) := by rw [ha]; exact (putSel_off rfl).trans rfl
            have e92 : a.tmps[92]? = some (.bool true) := by rw [ha]; exact putSel_on (e := (6, 92, .bool true)) 6 rfl rfl (hon 6 (by kernel_rfl)) rfl
            replace ha := Aside0.mk ha
            have B0 := Aside0.mk Q_B0
            refine value_ (w1 := w') (v := .int .i64 (i : Int)) (wanted_on rfl rfl rfl (e92.trans (by first | rfl | (simp [*]; done)))) rfl ?_ ?_
            · go_simp
              (try simp only [i64_w])
              try rfl
            refine hK.out _ _ ⟨(by rw [ha.out]; exact putSel_upk 9 hb_ rfl rfl rfl), Q_B0⟩
          refine steps_cons ?_ ?_
          · rintro b a w' ⟨ha, Q_B0⟩ hb_ hon hoff
            refine ⟨_, rfl, fun K hK => ?_⟩
            have e94 : a.tmps[94]? = some (.slice (some ad) l.length cp) := by rw [ha]; exact putSel_on (e := (8, 94, .slice (some ad) l.length cp)) 8 rfl rfl (hon 8 (by kernel_rfl)) rfl
            have e95 : a.tmps[95]? = some (.int .i64 (i : Int)) := by rw [ha]; exact putSel_on (e := (9, 95, .int .i64 (i : Int))) 9 rfl rfl (hon 9 (by kernel_rfl)) rfl
            have e92 : a.tmps[92]? = some (.bool true) := by rw [ha]; exact putSel_on (e := (6, 92, .bool true)) 6 rfl rfl (hon 6 (by kernel_rfl)) rfl
            replace ha := Aside0.mk ha
            have B0 := Aside0.mk Q_B0
            have p_ := HPQ.out.1
            have q_ := HPQ.out.2.1
            refine value_ (w1 := w') (v := .pointer (some (ad.add (i * 3)))) (wanted_on rfl rfl rfl (e92.trans (by first | rfl | (simp [*]; done)))) rfl ?_ ?_
            · go_simp
              (try simp only [i64_w])
              try rfl
            refine hK.out _ _ ⟨(by rw [ha.out]; exact putSel_upk 10 hb_ rfl rfl rfl), Q_B0⟩
          refine steps_cons ?_ ?_
          · rintro b a w' ⟨ha, Q_B0⟩ hb_ hon hoff
            refine ⟨_, rfl, fun K hK => ?_⟩
            have e96 : a.tmps[96]? = some (.pointer (some (ad.add (i * 3)))) := by rw [ha]; exact putSel_on (e := (10, 96, .pointer (some (ad.add (i * 3))))) 10 rfl rfl (hon 10 (by kernel_rfl)) rfl
            have e92 : a.tmps[92]? = some (.bool true) := by rw [ha]; exact putSel_on (e := (6, 92, .bool true)) 6 rfl rfl (hon 6 (by kernel_rfl)) rfl
            replace ha := Aside0.mk ha
            have B0 := Aside0.mk Q_B0
            have x0_ := (B0.out.cell (World.block_lt_of_cell? w6 _ HX.out.1)).trans HX.out.1
            have x1_ := (B0.out.cell (World.block_lt_of_cell? w6 _ HX.out.2.1)).trans HX.out.2.1
            have x2_ := (B0.out.cell (World.block_lt_of_cell? w6 _ HX.out.2.2)).trans HX.out.2.2
            refine value_ (w1 := w') (v := .agg #[.int .i64 x.f0, .int .i64 x.f1, .slice Ax x.f2.length cx]) (wanted_on rfl rfl rfl (e92.trans (by first | rfl | (simp [*]; done)))) rfl ?_ ?_
            · go_simp
              (try simp only [i64_w])
              try rfl
            refine hK.out _ _ ⟨(by rw [ha.out]; exact putSel_upk 11 hb_ rfl rfl rfl), Q_B0⟩
          refine steps_cons ?_ ?_
          · rintro b a w' ⟨ha, Q_B0⟩ hb_ hon hoff
            refine ⟨_, rfl, fun K hK => ?_⟩
            have e93 : a.tmps[93]? = some (.agg #[.int .i64 x.f0, .int .i64 x.f1, .slice Am x.f2.length cm]) := by rw [ha]; exact putSel_on (e := (7, 93, .agg #[.int .i64 x.f0, .int .i64 x.f1, .slice Am x.f2.length cm])) 7 rfl rfl (hon 7 (by kernel_rfl)) rfl
            have e97 : a.tmps[97]? = some (.agg #[.int .i64 x.f0, .int .i64 x.f1, .slice Ax x.f2.length cx]) := by rw [ha]; exact putSel_on (e := (11, 97, .agg #[.int .i64 x.f0, .int .i64 x.f1, .slice Ax x.f2.length cx])) 11 rfl rfl (hon 11 (by kernel_rfl)) rfl
            have e92 : a.tmps[92]? = some (.bool true) := by rw [ha]; exact putSel_on (e := (6, 92, .bool true)) 6 rfl rfl (hon 6 (by kernel_rfl)) rfl
            replace ha := Aside0.mk ha
            have B0 := Aside0.mk Q_B0
            refine goes_ Try.func37 (by kernel_rfl) rfl #[.agg #[.int .i64 x.f0, .int .i64 x.f1, .slice Am x.f2.length cm], .agg #[.int .i64 x.f0, .int .i64 x.f1, .slice Ax x.f2.length cx]] (wanted_on rfl rfl rfl (e92.trans rfl)) rfl rfl (by first | (simp only [List.map_toArray, List.map_cons, List.map_nil, Act.eval, Array.getD_eq_getD_getElem?, Option.getD_some, e93, e97, e92]; done) | (simp only [List.map_toArray, List.map_cons, List.map_nil, Act.eval, Array.getD_eq_getD_getElem?, Option.getD_some, e93, e97, e92]; rfl)) ?_
            with_reducible refine (HON.out _ B0.out).mono ?_
            rintro e w2 ⟨rfl, hb⟩
            refine ⟨_, rfl, ?_⟩
            refine hK.out _ _ ⟨(by rw [ha.out]; exact putSel_upk 12 hb_ rfl rfl rfl), below_then B0.out B0.out.size hb⟩
          refine steps_cons ?_ ?_
          · rintro b a w' ⟨ha, Q_B0⟩ hb_ hon hoff
            refine ⟨_, rfl, fun K hK => ?_⟩
            have e98 : a.tmps[98]? = some (.bool true) := by rw [ha]; exact putSel_on (e := (12, 98, .bool true)) 12 rfl rfl (hon 12 (by kernel_rfl)) rfl
            have e92 : a.tmps[92]? = some (.bool true) := by rw [ha]; exact putSel_on (e := (6, 92, .bool true)) 6 rfl rfl (hon 6 (by kernel_rfl)) rfl
            replace ha := Aside0.mk ha
            have B0 := Aside0.mk Q_B0
            refine value_ (w1 := w') (v := .bool false) (wanted_on rfl rfl rfl (e92.trans (by first | rfl | (simp [*]; done)))) rfl ?_ ?_
            · go_simp
              (try simp only [i64_w])
              try rfl
            refine hK.out _ _ ⟨(by rw [ha.out]; exact putSel_upk 13 hb_ rfl rfl rfl), Q_B0⟩
          refine steps_cons ?_ ?_
          · rintro b a w' ⟨ha, Q_B0⟩ hb_ hon hoff
            refine ⟨_, rfl, fun K hK => ?_⟩
            have e92 : a.tmps[92]? = some (.bool true) := by rw [ha]; exact putSel_on (e := (6, 92, .bool true)) 6 rfl rfl (hon 6 (by kernel_rfl)) rfl
            have e99 : a.tmps[99]? = some (.bool false) := by rw [ha]; exact putSel_on (e := (13, 99, .bool false)) 13 rfl rfl (hon 13 (by kernel_rfl)) rfl
            have e90 : a.tmps[90]? = some (.bool false) := by rw [ha]; exact putSel_on (e := (4, 90, .bool false)) 4 rfl rfl (hon 4 (by kernel_rfl)) rfl
            replace ha := Aside0.mk ha
            have B0 := Aside0.mk Q_B0
            refine value_ (w1 := w') (v := .bool false) (wanted_on rfl rfl rfl (e90.trans (by first | rfl | (simp [*]; done)))) rfl ?_ ?_
            · go_simp
              (try simp only [i64_w])
              try rfl
            refine hK.out _ _ ⟨(by rw [ha.out]; exact putSel_upk 14 hb_ rfl rfl rfl), Q_B0⟩
          refine steps_cons ?_ ?_
          · rintro b a w' ⟨ha, Q_B0⟩ hb_ hon hoff
            refine ⟨_, rfl, fun K hK => ?_⟩
            have e90 : a.tmps[90]? = some (.bool false) := by rw [ha]; exact putSel_on (e := (4, 90, .bool false)) 4 rfl rfl (hon 4 (by kernel_rfl)) rfl
            have e100 : a.tmps[100]? = some (.bool false) := by rw [ha]; exact putSel_on (e := (14, 100, .bool false)) 14 rfl rfl (hon 14 (by kernel_rfl)) rfl
            replace ha := Aside0.mk ha
            have B0 := Aside0.mk Q_B0
            refine value_ (w1 := w') (v := .bool false) (by rfl) rfl ?_ ?_
            · go_simp
              (try simp only [i64_w])
              try rfl
            refine hK.out _ _ ⟨(by rw [ha.out]; exact putSel_upk 15 hb_ rfl rfl rfl), Q_B0⟩
          refine steps_cons ?_ ?_
          · rintro b a w' ⟨ha, Q_B0⟩ hb_ hon hoff
            refine ⟨_, rfl, fun K hK => ?_⟩
            have e101 : a.tmps[101]? = some (.bool false) := by rw [ha]; exact putSel_on (e := (15, 101, .bool false)) 15 rfl rfl (hon 15 (by kernel_rfl)) rfl
            replace ha := Aside0.mk ha
            have B0 := Aside0.mk Q_B0
            refine value_ (w1 := w') (v := .bool false) (by rfl) rfl ?_ ?_
            · go_simp
              (try simp only [i64_w])
              try rfl
            refine hK.out _ _ ⟨(by rw [ha.out]; exact putSel_upk 16 hb_ rfl rfl rfl), Q_B0⟩
          refine steps_cons ?_ ?_
          · rintro b a w' ⟨ha, Q_B0⟩ hb_ hon hoff
            refine ⟨_, rfl, fun K hK => ?_⟩
            have e12 : a.tmps[12]? = some (.bool true) := by rw [ha]; exact (putSel_off rfl).trans rfl
            have e102 : a.tmps[102]? = some (.bool false) := by rw [ha]; exact putSel_on (e := (16, 102, .bool false)) 16 rfl rfl (hon 16 (by kernel_rfl)) rfl
            replace ha := Aside0.mk ha
            have B0 := Aside0.mk Q_B0
            refine value_ (w1 := w') (v := .bool true) (wanted_on rfl rfl rfl (e102.trans (by first | rfl | (simp [*]; done)))) rfl ?_ ?_
            · go_simp
              (try simp only [i64_w])
              try rfl
            refine hK.out _ _ ⟨(by rw [ha.out]; exact putSel_upk 17 hb_ rfl rfl rfl), Q_B0⟩
          refine steps_cons ?_ ?_
          · rintro b a w' ⟨ha, Q_B0⟩ hb_ hon hoff
            refine ⟨_, rfl, fun K hK => ?_⟩
            have e103 : a.tmps[103]? = some (.bool true) := by rw [ha]; exact putSel_on (e := (17, 103, .bool true)) 17 rfl rfl (hon 17 (by kernel_rfl)) rfl
            have e102 : a.tmps[102]? = some (.bool false) := by rw [ha]; exact putSel_on (e := (16, 102, .bool false)) 16 rfl rfl (hon 16 (by kernel_rfl)) rfl
            replace ha := Aside0.mk ha
            have B0 := Aside0.mk Q_B0
            refine value_ (w1 := w') (v := .bool false) (wanted_on rfl rfl rfl (e102.trans (by first | rfl | (simp [*]; done)))) rfl ?_ ?_
            · go_simp
              (try simp only [i64_w])
              try rfl
            refine hK.out _ _ ⟨(by rw [ha.out]; exact putSel_upk 18 hb_ rfl rfl rfl), Q_B0⟩
          refine steps_cons ?_ ?_
          · rintro b a w' ⟨ha, Q_B0⟩ hb_ hon hoff
            refine ⟨_, rfl, fun K hK => ?_⟩
            have e104 : a.tmps[104]? = some (.bool false) := by rw [ha]; exact putSel_on (e := (18, 104, .bool false)) 18 rfl rfl (hon 18 (by kernel_rfl)) rfl
            have e102 : a.tmps[102]? = some (.bool false) := by rw [ha]; exact putSel_on (e := (16, 102, .bool false)) 16 rfl rfl (hon 16 (by kernel_rfl)) rfl
            replace ha := Aside0.mk ha
            have B0 := Aside0.mk Q_B0
            refine value_ (w1 := w') (v := .bool false) (wanted_on rfl rfl rfl (e102.trans (by first | rfl | (simp [*]; done)))) rfl ?_ ?_
            · go_simp
              (try simp only [i64_w])
              try rfl
            refine hK.out _ _ ⟨(by rw [ha.out]; exact putSel_upk 19 hb_ rfl rfl rfl), Q_B0⟩
          refine steps_cons ?_ ?_
          · rintro b a w' ⟨ha, Q_B0⟩ hb_ hon hoff
            refine ⟨_, rfl, fun K hK => ?_⟩
            have e105 : a.tmps[105]? = some (.bool false) := by rw [ha]; exact putSel_on (e := (19, 105, .bool false)) 19 rfl rfl (hon 19 (by kernel_rfl)) rfl
            replace ha := Aside0.mk ha
            have B0 := Aside0.mk Q_B0
            refine off_ (wanted_off rfl rfl rfl (e105.trans (by first | rfl | (simp [*]; done)))) ?_
            refine hK.out _ _ ⟨(by rw [ha.out]; exact putSel_upk 20 hb_ rfl rfl rfl), Q_B0⟩
          refine steps_cons ?_ ?_
          · rintro b a w' ⟨ha, Q_B0⟩ hb_ hon hoff
            refine ⟨_, rfl, fun K hK => ?_⟩
            have e105 : a.tmps[105]? = some (.bool false) := by rw [ha]; exact putSel_on (e := (19, 105, .bool false)) 19 rfl rfl (hon 19 (by kernel_rfl)) rfl
            replace ha := Aside0.mk ha
            have B0 := Aside0.mk Q_B0
            refine off_ (wanted_off rfl rfl rfl (e105.trans (by first | rfl | (simp [*]; done)))) ?_
            refine hK.out _ _ ⟨(by rw [ha.out]; exact putSel_upk 21 hb_ rfl rfl rfl), Q_B0⟩
          refine steps_cons ?_ ?_
          · rintro b a w' ⟨ha, Q_B0⟩ hb_ hon hoff
            refine ⟨_, rfl, fun K hK => ?_⟩
            have e105 : a.tmps[105]? = some (.bool false) := by rw [ha]; exact putSel_on (e := (19, 105, .bool false)) 19 rfl rfl (hon 19 (by kernel_rfl)) rfl
            replace ha := Aside0.mk ha
            have B0 := Aside0.mk Q_B0
            refine off_ (wanted_off rfl rfl rfl (e105.trans (by first | rfl | (simp [*]; done)))) ?_
            refine hK.out _ _ ⟨(by rw [ha.out]; exact putSel_upk 22 hb_ rfl rfl rfl), Q_B0⟩
          refine steps_cons ?_ ?_
          · rintro b a w' ⟨ha, Q_B0⟩ hb_ hon hoff
            refine ⟨_, rfl, fun K hK => ?_⟩
            have e105 : a.tmps[105]? = some (.bool false) := by rw [ha]; exact putSel_on (e := (19, 105, .bool false)) 19 rfl rfl (hon 19 (by kernel_rfl)) rfl
            replace ha := Aside0.mk ha
            have B0 := Aside0.mk Q_B0
            refine off_ (wanted_off rfl rfl rfl (e105.trans (by first | rfl | (simp [*]; done)))) ?_
            refine hK.out _ _ ⟨(by rw [ha.out]; exact putSel_upk 23 hb_ rfl rfl rfl), Q_B0⟩
          refine steps_cons ?_ ?_
          · rintro b a w' ⟨ha, Q_B0⟩ hb_ hon hoff
            refine ⟨_, rfl, fun K hK => ?_⟩
            have e105 : a.tmps[105]? = some (.bool false) := by rw [ha]; exact putSel_on (e := (19, 105, .bool false)) 19 rfl rfl (hon 19 (by kernel_rfl)) rfl
            have e109 : a.tmps[109]? = some (undef) := by rw [ha]; exact putSel_on (e := (23, 109, undef)) 23 rfl rfl (hon 23 (by kernel_rfl)) rfl
            have e102 : a.tmps[102]? = some (.bool false) := by rw [ha]; exact putSel_on (e := (16, 102, .bool false)) 16 rfl rfl (hon 16 (by kernel_rfl)) rfl
            replace ha := Aside0.mk ha
            have B0 := Aside0.mk Q_B0
            refine value_ (w1 := w') (v := .bool false) (wanted_on rfl rfl rfl (e102.trans (by first | rfl | (simp [*]; done)))) rfl ?_ ?_
            · go_simp
              (try simp only [i64_w])
              try rfl
            refine hK.out _ _ ⟨(by rw [ha.out]; exact putSel_upk 24 hb_ rfl rfl rfl), Q_B0⟩
          refine steps_cons ?_ ?_
          · rintro b a w' ⟨ha, Q_B0⟩ hb_ hon hoff
            refine ⟨_, rfl, fun K hK => ?_⟩
            have e102 : a.tmps[102]? = some (.bool false) := by rw [ha]; exact putSel_on (e := (16, 102, .bool false)) 16 rfl rfl (hon 16 (by kernel_rfl)) rfl
            have e110 : a.tmps[110]? = some (.bool false) := by rw [ha]; exact putSel_on (e := (24, 110, .bool false)) 24 rfl rfl (hon 24 (by kernel_rfl)) rfl
            replace ha := Aside0.mk ha
            have B0 := Aside0.mk Q_B0
            refine value_ (w1 := w') (v := .bool false) (by rfl) rfl ?_ ?_
            · go_simp
              (try simp only [i64_w])
              try rfl
            refine hK.out _ _ ⟨(by rw [ha.out]; exact putSel_upk 25 hb_ rfl rfl rfl), Q_B0⟩
          exact steps_nil
        rintro b a w7a hall ⟨ha, Q_B0⟩
        clear B0
        have hb0_ := hall 0 (by kernel_rfl)
        have hb1_ := hall 1 (by kernel_rfl)
        have hb2_ := hall 2 (by kernel_rfl)
        have hb3_ := hall 3 (by kernel_rfl)
        have hb4_ := hall 4 (by kernel_rfl)
        have hb5_ := hall 5 (by kernel_rfl)
        have hb6_ := hall 6 (by kernel_rfl)
        have hb7_ := hall 7 (by kernel_rfl)
        have hb8_ := hall 8 (by kernel_rfl)
        have hb9_ := hall 9 (by kernel_rfl)
        have hb10_ := hall 10 (by kernel_rfl)
        have hb11_ := hall 11 (by kernel_rfl)
        have hb12_ := hall 12 (by kernel_rfl)
        have hb13_ := hall 13 (by kernel_rfl)
        have hb14_ := hall 14 (by kernel_rfl)
        have hb15_ := hall 15 (by kernel_rfl)
        have hb16_ := hall 16 (by kernel_rfl)
        have hb17_ := hall 17 (by kernel_rfl)
        have hb18_ := hall 18 (by kernel_rfl)
        have hb19_ := hall 19 (by kernel_rfl)
        have hb20_ := hall 20 (by kernel_rfl)
        have hb21_ := hall 21 (by kernel_rfl)
        have hb22_ := hall 22 (by kernel_rfl)
        have hb23_ := hall 23 (by kernel_rfl)
        have hb24_ := hall 24 (by kernel_rfl)
        have hb25_ := hall 25 (by kernel_rfl)
        subst ha
        simp only [putSel, hb0_, hb1_, hb2_, hb3_, hb4_, hb5_, hb6_, hb7_, hb8_, hb9_, hb10_, hb11_, hb12_, hb13_, hb14_, hb15_, hb16_, hb17_, hb18_, hb19_, hb20_, hb21_, hb22_, hb23_, hb24_, hb25_, if_true, Act.put, List.setIfInBounds_toArray, List.set_cons_zero, List.set_cons_succ]
        have B0 := Aside0.mk Q_B0
        clear Q_B0
        clear hall hb0_ hb1_ hb2_ hb3_ hb4_ hb5_ hb6_ hb7_ hb8_ hb9_ hb10_ hb11_ hb12_ hb13_ hb14_ hb15_ hb16_ hb17_ hb18_ hb19_ hb20_ hb21_ hb22_ hb23_ hb24_ hb25_
        go_wp2_with fail
        go_meet
        exact ⟨rfl, ⟨below_then HB36.out HB36.out.size B0.out⟩⟩
    case rest =>
    obtain ⟨rfl, HB37⟩ := hcut
    obtain ⟨w7, hw7⟩ : ∃ w : World, w = wc := ⟨_, rfl⟩
    subst hw7
    clear HB36 HZ6 HCM6 HCM HSP
    have HC7 := Aside0.mk (Kd.C_below HC3.out HB37.out)
    have HZ7 := Aside0.mk (blk_below HZ33.out HB37.out)
    have HB7 := Aside0.mk (below_then HB3.out HB3.out.size HB37.out)
    obtain ⟨so, hso⟩ : ∃ s, s = ssort ltS l := ⟨_, rfl⟩
    have HSO := Aside0.mk hso
    have HSL : Aside0 (so.length = l.length) := ⟨by rw [hso]; exact ssort_length l⟩
    obtain ⟨ck, hck⟩ : ∃ s, s = chkL l := ⟨_, rfl⟩
    obtain ⟨nk, hnk⟩ : ∃ s, s = cntK l kd := ⟨_, rfl⟩
    obtain ⟨nf, hnf⟩ : ∃ s, s = cntK l 1 := ⟨_, rfl⟩
    rw [← hck, ← hnk, ← hnf]
    have HCK : Aside0 (∀ W', Below w7.heap.size w7 W' → Calls Try.prog 38 #[.slice A l.length cp] W' fun e w' => e = .returned (.int .i64 ck) ∧ Below W'.heap.size W' w') := ⟨fun W' hW => by rw [hck]; exact check_calls l A cp HIN.out.2.1 (Kd.C_below HC7.out hW) HIN.out.2.2⟩
    have HST : Aside0 (∀ W', Below w7.heap.size w7 W' → Calls Try.prog 40 #[.slice A l.length cp] W' fun e w' => ∃ A1 c1, e = .returned (.slice A1 so.length c1) ∧ (so.length ≤ c1 ∧ Kd.C k65 w' A1 so.length so) ∧ Below W'.heap.size W' w') := ⟨fun W' hW => (sort_calls2 l A cp W' HLF.out.2 (Kd.C_below HC7.out hW)).mono fun e w' ⟨v, he, hR, hb⟩ => by
      rw [← hso] at hR
      obtain ⟨A1, c1, hv, hl1, hC1⟩ := Kd.R_reads hR
      exact ⟨A1, c1, by rw [he, hv], ⟨hl1, hC1⟩, hb⟩⟩
    have HRS : Aside0 (∀ W', Below w7.heap.size w7 W' → Calls Try.prog 41 #[.slice A l.length cp] W' fun e w' => ∃ A1 c1, e = .returned (.slice A1 so.length c1) ∧ (so.length ≤ c1 ∧ Kd.C k65 w' A1 so.length so) ∧ Below W'.heap.size W' w') := ⟨fun W' hW => by
      obtain ⟨K, hK⟩ := rsort_ev l HLF.out.2.1
      have h0 := hK K (Nat.le_refl _)
      rw [← hso] at h0
      refine (wagtailref43_Sort.calls K (fun k => k < W'.heap.size) A cp l so W' ⟨A, cp, rfl, HIN.out.2.1, Kd.C_F heap_flt (Kd.C_below HC7.out hW)⟩ h0).mono fun e w' ⟨v, he, hN, hb⟩ => ?_
      obtain ⟨A1, c1, hv, hl1, hF⟩ := Kd.N_V (base' := 0) hN
      exact ⟨A1, c1, by rw [he, hv], ⟨hl1, Kd.F_now hF⟩, hb⟩⟩
    have HSA : Aside0 (∀ W' A1 c1 A2 c2, so.length ≤ c1 ∧ Kd.C k65 W' A1 so.length so → so.length ≤ c2 ∧ Kd.C k65 W' A2 so.length so → Calls Try.prog 39 #[.slice A1 so.length c1, .slice A2 so.length c2] W' fun e w' => e = .returned (.bool true) ∧ Below W'.heap.size W' w') := ⟨fun W' A1 c1 A2 c2 h1 h2 => by
      obtain ⟨K, hK⟩ := same_ev so (by rw [HSL.out]; exact HIN.out.2.2)
      exact wagtailref43_Same.calls K A1 c1 so A2 c2 so true W' h1.2 h1.1 h2.2 h2.1 (hK K (Nat.le_refl _))⟩
    have HCT : Aside0 (∀ W', Below w7.heap.size w7 W' → Calls Try.prog 42 #[.slice A l.length cp, .int .i64 kd] W' fun e w' => e = .returned (.int .i64 nk) ∧ Below W'.heap.size W' w') := ⟨fun W' hW => by rw [hnk]; exact count_calls l A cp kd W' HLF.out.2 (Kd.C_below HC7.out hW)⟩
    have HNF := Aside0.mk hnf
    clear hso hck hnk hnf
    cases hrg : ND.rightG B P C with
    | false =>
      have HWI : Aside0 (∀ W', Below w7.heap.size w7 W' → Calls Try.prog 43 #[.agg #[.int .i64 B, .int .i64 P, .int .i64 C], .slice A l.length cp] W' fun e w' => e = .returned (.bool false) ∧ Below W'.heap.size W' w') := ⟨fun W' hW => by
        have k := within_calls B P C l A cp W' HLF.out.2 (Kd.C_below HC7.out hW)
        rw [show withinB B P C l = false by unfold withinB; rw [hrg]; rfl] at k
        exact k⟩
      have HRI : Aside0 (∀ W', Calls Try.prog 12 #[.agg #[.int .i64 B, .int .i64 P, .int .i64 C]] W' fun e w' => e = .returned (.bool false) ∧ Below W'.heap.size W' w') := ⟨fun W' => by have k := ND.right_calls B P C W'; rw [hrg] at k; exact k⟩
      go_upto_region 21 with fail
      have B0 := Aside0.mk (below_drew1 (Below.refl w7.heap.size w7))
      have SA := True.intro
      have SR := True.intro
      clear hrg
      refine start_ (n := 36) (S := fun w' => True) (ds := []) #[false, false, false, false, false, false, false, false, false, false, false, false, false, false, false, false, false, false, false, false, false, false, false, false, false, false, false, false, false, false, false, false, false, false, false, false] (by kernel_rfl) rfl rfl trivial (fun hHeld => ?_)
      refine with_tabW looks21.tab21 looks21.bits21 (fun HT_ HW_ => ?_)
      generalize w7.drew = wz at B0 hHeld ⊢
      refine inv_at [0, 1, 2, 3, 4, 5, 6, 7, 8, 9, 10, 11, 12, 13, 14, 15, 16, 17, 18, 19, 20, 21, 22, 23, 24, 25, 26, 27, 28, 29, 30, 31, 32, 33, 34, 35] (fun a0_ b a w' => ∃ (As : Option Addr) (cs : Nat) (Ar : Option Addr) (cr : Nat) (m9_ : Value) (m11_ : Value), a = putSel a0_ b [(0, 112, .bool true), (1, 113, .bool true), (2, 114, .slice A l.length cp), (3, 115, .int .i64 ck), (4, 116, .int .i64 ck), (5, 117, .bool true), (6, 118, .bool true), (7, 119, .bool true), (8, 120, .slice A l.length cp), (9, 121, m9_), (10, 122, .slice A l.length cp), (11, 123, m11_), (12, 124, .bool true), (13, 125, .bool true), (14, 126, .bool true), (15, 127, .slice A l.length cp), (16, 128, .int .i64 kd), (17, 129, .int .i64 nk), (18, 130, .int .i64 nk), (19, 131, .bool true), (20, 132, .bool true), (21, 133, .bool true), (22, 134, .agg #[.int .i64 B, .int .i64 P, .int .i64 C]), (23, 135, .slice A l.length cp), (24, 136, .bool false), (25, 137, .agg #[.int .i64 B, .int .i64 P, .int .i64 C]), (26, 138, .bool false), (27, 139, .bool false), (28, 140, undef), (29, 141, undef), (30, 142, undef), (31, 143, undef), (32, 144, .bool false), (33, 145, .bool true), (34, 146, .bool true), (35, 2, .bool true)] ∧ (Below w7.heap.size w7 w') ∧ (b 9 = true → so.length ≤ cs ∧ Kd.C k65 w' As so.length so) ∧ (b 11 = true → so.length ≤ cr ∧ Kd.C k65 w' Ar so.length so) ∧ (b 9 = true → (m9_ : Value) = .slice As so.length cs) ∧ (b 11 = true → (m11_ : Value) = .slice Ar so.length cr)) HT_.out HW_.out (by kernel_rfl) (by kernel_rfl) ?_ ?_ ?_
      · exact ⟨none, 0, none, 0, .bool false, .bool false, by simp only [putSel, Bool.false_eq_true, if_false], B0.out, fun h_ => absurd h_ (by decide), fun h_ => absurd h_ (by decide), fun h_ => absurd h_ (by decide), fun h_ => absurd h_ (by decide)⟩
      · skip
        clear B0
        refine steps_cons ?_ ?_
        · rintro b a w' ⟨As, cs, Ar, cr, m9_, m11_, ha, Q_B0, Q_SA, Q_SR, Q_X9_, Q_X11_⟩ hb_ hon hoff
          refine ⟨_, rfl, fun K hK => ?_⟩
          replace ha := Aside0.mk ha
          have B0 := Aside0.mk Q_B0
          refine goes_ Try.func34 (by kernel_rfl) rfl #[] (by rfl) rfl rfl (by first | (simp only [List.map_toArray, List.map_cons, List.map_nil, Act.eval, Array.getD_eq_getD_getElem?, Option.getD_some]; done) | (simp only [List.map_toArray, List.map_cons, List.map_nil, Act.eval, Array.getD_eq_getD_getElem?, Option.getD_some]; rfl)) ?_
          with_reducible refine (awake43_calls w').mono ?_
          rintro e w2 ⟨rfl, hb⟩
          refine ⟨_, rfl, ?_⟩
          refine hK.out _ _ ⟨As, cs, Ar, cr, m9_, m11_, (by rw [ha.out]; exact putSel_upk 0 hb_ rfl rfl rfl), below_then B0.out B0.out.size hb, fun h0_ => absurd ((hoff 9 (by kernel_rfl)).symm.trans h0_) (by decide), fun h0_ => absurd ((hoff 11 (by kernel_rfl)).symm.trans h0_) (by decide), fun h0_ => absurd ((hoff 9 (by kernel_rfl)).symm.trans h0_) (by decide), fun h0_ => absurd ((hoff 11 (by kernel_rfl)).symm.trans h0_) (by decide)⟩
        refine steps_cons ?_ ?_
        · rintro b a w' ⟨As, cs, Ar, cr, m9_, m11_, ha, Q_B0, Q_SA, Q_SR, Q_X9_, Q_X11_⟩ hb_ hon hoff
          refine ⟨_, rfl, fun K hK => ?_⟩
          have e112 : a.tmps[112]? = some (.bool true) := by rw [ha]; exact putSel_on (e := (0, 112, .bool true)) 0 rfl rfl (hon 0 (by kernel_rfl)) rfl
          replace ha := Aside0.mk ha
          have B0 := Aside0.mk Q_B0
          refine value_ (w1 := w') (v := .bool true) (by rfl) rfl ?_ ?_
          · go_simp
            (try simp only [i64_w])
            try rfl
          refine hK.out _ _ ⟨As, cs, Ar, cr, m9_, m11_, (by rw [ha.out]; exact putSel_upk 1 hb_ rfl rfl rfl), Q_B0, fun h0_ => absurd ((hoff 9 (by kernel_rfl)).symm.trans h0_) (by decide), fun h0_ => absurd ((hoff 11 (by kernel_rfl)).symm.trans h0_) (by decide), fun h0_ => absurd ((hoff 9 (by kernel_rfl)).symm.trans h0_) (by decide), fun h0_ => absurd ((hoff 11 (by kernel_rfl)).symm.trans h0_) (by decide)⟩
        refine steps_cons ?_ ?_
        · rintro b a w' ⟨As, cs, Ar, cr, m9_, m11_, ha, Q_B0, Q_SA, Q_SR, Q_X9_, Q_X11_⟩ hb_ hon hoff
          refine ⟨_, rfl, fun K hK => ?_⟩
          have e4 : a.tmps[4]? = some (.slice A l.length cp) := by rw [ha]; exact (putSel_off rfl).trans rfl
          have e113 : a.tmps[113]? = some (.bool true) := by rw [ha]; exact putSel_on (e := (1, 113, .bool true)) 1 rfl rfl (hon 1 (by kernel_rfl)) rfl
          replace ha := Aside0.mk ha
          have B0 := Aside0.mk Q_B0
          refine value_ (w1 := w') (v := .slice A l.length cp) (wanted_on rfl rfl rfl (e113.trans (by first | rfl | (simp [*]; done)))) rfl ?_ ?_
          · go_simp
            (try simp only [i64_w])
            try rfl
          refine hK.out _ _ ⟨As, cs, Ar, cr, m9_, m11_, (by rw [ha.out]; exact putSel_upk 2 hb_ rfl rfl rfl), Q_B0, fun h0_ => absurd ((hoff 9 (by kernel_rfl)).symm.trans h0_) (by decide), fun h0_ => absurd ((hoff 11 (by kernel_rfl)).symm.trans h0_) (by decide), fun h0_ => absurd ((hoff 9 (by kernel_rfl)).symm.trans h0_) (by decide), fun h0_ => absurd ((hoff 11 (by kernel_rfl)).symm.trans h0_) (by decide)⟩
        refine steps_cons ?_ ?_
        · rintro b a w' ⟨As, cs, Ar, cr, m9_, m11_, ha, Q_B0, Q_SA, Q_SR, Q_X9_, Q_X11_⟩ hb_ hon hoff
          refine ⟨_, rfl, fun K hK => ?_⟩
          have e114 : a.tmps[114]? = some (.slice A l.length cp) := by rw [ha]; exact putSel_on (e := (2, 114, .slice A l.length cp)) 2 rfl rfl (hon 2 (by kernel_rfl)) rfl
          have e113 : a.tmps[113]? = some (.bool true) := by rw [ha]; exact putSel_on (e := (1, 113, .bool true)) 1 rfl rfl (hon 1 (by kernel_rfl)) rfl
          replace ha := Aside0.mk ha
          have B0 := Aside0.mk Q_B0
          refine goes_ Try.func38 (by kernel_rfl) rfl #[.slice A l.length cp] (wanted_on rfl rfl rfl (e113.trans rfl)) rfl rfl (by first | (simp only [List.map_toArray, List.map_cons, List.map_nil, Act.eval, Array.getD_eq_getD_getElem?, Option.getD_some, e114, e113]; done) | (simp only [List.map_toArray, List.map_cons, List.map_nil, Act.eval, Array.getD_eq_getD_getElem?, Option.getD_some, e114, e113]; rfl)) ?_
          with_reducible refine (HCK.out _ B0.out).mono ?_
          rintro e w2 ⟨rfl, hb⟩
          refine ⟨_, rfl, ?_⟩
          refine hK.out _ _ ⟨As, cs, Ar, cr, m9_, m11_, (by rw [ha.out]; exact putSel_upk 3 hb_ rfl rfl rfl), below_then B0.out B0.out.size hb, fun h0_ => absurd ((hoff 9 (by kernel_rfl)).symm.trans h0_) (by decide), fun h0_ => absurd ((hoff 11 (by kernel_rfl)).symm.trans h0_) (by decide), fun h0_ => absurd ((hoff 9 (by kernel_rfl)).symm.trans h0_) (by decide), fun h0_ => absurd ((hoff 11 (by kernel_rfl)).symm.trans h0_) (by decide)⟩
        refine steps_cons ?_ ?_
        · rintro b a w' ⟨As, cs, Ar, cr, m9_, m11_, ha, Q_B0, Q_SA, Q_SR, Q_X9_, Q_X11_⟩ hb_ hon hoff
          refine ⟨_, rfl, fun K hK => ?_⟩
          have e7 : a.tmps[7]? = some (.int .i64 ck) := by rw [ha]; exact (putSel_off rfl).trans rfl
          have e113 : a.tmps[113]? = some (.bool true) := by rw [ha]; exact putSel_on (e := (1, 113, .bool true)) 1 rfl rfl (hon 1 (by kernel_rfl)) rfl
          replace ha := Aside0.mk ha
          have B0 := Aside0.mk Q_B0
          refine value_ (w1 := w') (v := .int .i64 ck) (wanted_on rfl rfl rfl (e113.trans (by first | rfl | (simp [*]; done)))) rfl ?_ ?_
          · go_simp
            (try simp only [i64_w])
            try rfl
          refine hK.out _ _ ⟨As, cs, Ar, cr, m9_, m11_, (by rw [ha.out]; exact putSel_upk 4 hb_ rfl rfl rfl), Q_B0, fun h0_ => absurd ((hoff 9 (by kernel_rfl)).symm.trans h0_) (by decide), fun h0_ => absurd ((hoff 11 (by kernel_rfl)).symm.trans h0_) (by decide), fun h0_ => absurd ((hoff 9 (by kernel_rfl)).symm.trans h0_) (by decide), fun h0_ => absurd ((hoff 11 (by kernel_rfl)).symm.trans h0_) (by decide)⟩
        refine steps_cons ?_ ?_
        · rintro b a w' ⟨As, cs, Ar, cr, m9_, m11_, ha, Q_B0, Q_SA, Q_SR, Q_X9_, Q_X11_⟩ hb_ hon hoff
          refine ⟨_, rfl, fun K hK => ?_⟩
          have e115 : a.tmps[115]? = some (.int .i64 ck) := by rw [ha]; exact putSel_on (e := (3, 115, .int .i64 ck)) 3 rfl rfl (hon 3 (by kernel_rfl)) rfl
          have e116 : a.tmps[116]? = some (.int .i64 ck) := by rw [ha]; exact putSel_on (e := (4, 116, .int .i64 ck)) 4 rfl rfl (hon 4 (by kernel_rfl)) rfl
          have e113 : a.tmps[113]? = some (.bool true) := by rw [ha]; exact putSel_on (e := (1, 113, .bool true)) 1 rfl rfl (hon 1 (by kernel_rfl)) rfl
          replace ha := Aside0.mk ha
          have B0 := Aside0.mk Q_B0
          refine value_ (w1 := w') (v := .bool true) (wanted_on rfl rfl rfl (e113.trans (by first | rfl | (simp [*]; done)))) rfl ?_ ?_
          · go_simp
            (try simp only [i64_w])
            try rfl
          refine hK.out _ _ ⟨As, cs, Ar, cr, m9_, m11_, (by rw [ha.out]; exact putSel_upk 5 hb_ rfl rfl rfl), Q_B0, fun h0_ => absurd ((hoff 9 (by kernel_rfl)).symm.trans h0_) (by decide), fun h0_ => absurd ((hoff 11 (by kernel_rfl)).symm.trans h0_) (by decide), fun h0_ => absurd ((hoff 9 (by kernel_rfl)).symm.trans h0_) (by decide), fun h0_ => absurd ((hoff 11 (by kernel_rfl)).symm.trans h0_) (by decide)⟩
        refine steps_cons ?_ ?_
        · rintro b a w' ⟨As, cs, Ar, cr, m9_, m11_, ha, Q_B0, Q_SA, Q_SR, Q_X9_, Q_X11_⟩ hb_ hon hoff
          refine ⟨_, rfl, fun K hK => ?_⟩
          have e113 : a.tmps[113]? = some (.bool true) := by rw [ha]; exact putSel_on (e := (1, 113, .bool true)) 1 rfl rfl (hon 1 (by kernel_rfl)) rfl
          have e117 : a.tmps[117]? = some (.bool true) := by rw [ha]; exact putSel_on (e := (5, 117, .bool true)) 5 rfl rfl (hon 5 (by kernel_rfl)) rfl
          replace ha := Aside0.mk ha
          have B0 := Aside0.mk Q_B0
          refine value_ (w1 := w') (v := .bool true) (by rfl) rfl ?_ ?_
          · go_simp
            (try simp only [i64_w])
            try rfl
          refine hK.out _ _ ⟨As, cs, Ar, cr, m9_, m11_, (by rw [ha.out]; exact putSel_upk 6 hb_ rfl rfl rfl), Q_B0, fun h0_ => absurd ((hoff 9 (by kernel_rfl)).symm.trans h0_) (by decide), fun h0_ => absurd ((hoff 11 (by kernel_rfl)).symm.trans h0_) (by decide), fun h0_ => absurd ((hoff 9 (by kernel_rfl)).symm.trans h0_) (by decide), fun h0_ => absurd ((hoff 11 (by kernel_rfl)).symm.trans h0_) (by decide)⟩
        refine steps_cons ?_ ?_
        · rintro b a w' ⟨As, cs, Ar, cr, m9_, m11_, ha, Q_B0, Q_SA, Q_SR, Q_X9_, Q_X11_⟩ hb_ hon hoff
          refine ⟨_, rfl, fun K hK => ?_⟩
          have e118 : a.tmps[118]? = some (.bool true) := by rw [ha]; exact putSel_on (e := (6, 118, .bool true)) 6 rfl rfl (hon 6 (by kernel_rfl)) rfl
          replace ha := Aside0.mk ha
          have B0 := Aside0.mk Q_B0
          refine value_ (w1 := w') (v := .bool true) (by rfl) rfl ?_ ?_
          · go_simp
            (try simp only [i64_w])
            try rfl
          refine hK.out _ _ ⟨As, cs, Ar, cr, m9_, m11_, (by rw [ha.out]; exact putSel_upk 7 hb_ rfl rfl rfl), Q_B0, fun h0_ => absurd ((hoff 9 (by kernel_rfl)).symm.trans h0_) (by decide), fun h0_ => absurd ((hoff 11 (by kernel_rfl)).symm.trans h0_) (by decide), fun h0_ => absurd ((hoff 9 (by kernel_rfl)).symm.trans h0_) (by decide), fun h0_ => absurd ((hoff 11 (by kernel_rfl)).symm.trans h0_) (by decide)⟩
        refine steps_cons ?_ ?_
        · rintro b a w' ⟨As, cs, Ar, cr, m9_, m11_, ha, Q_B0, Q_SA, Q_SR, Q_X9_, Q_X11_⟩ hb_ hon hoff
          refine ⟨_, rfl, fun K hK => ?_⟩
          have e4 : a.tmps[4]? = some (.slice A l.length cp) := by rw [ha]; exact (putSel_off rfl).trans rfl
          have e119 : a.tmps[119]? = some (.bool true) := by rw [ha]; exact putSel_on (e := (7, 119, .bool true)) 7 rfl rfl (hon 7 (by kernel_rfl)) rfl
          replace ha := Aside0.mk ha
          have B0 := Aside0.mk Q_B0
          refine value_ (w1 := w') (v := .slice A l.length cp) (wanted_on rfl rfl rfl (e119.trans (by first | rfl | (simp [*]; done)))) rfl ?_ ?_
          · go_simp
            (try simp only [i64_w])
            try rfl
          refine hK.out _ _ ⟨As, cs, Ar, cr, m9_, m11_, (by rw [ha.out]; exact putSel_upk 8 hb_ rfl rfl rfl), Q_B0, fun h0_ => absurd ((hoff 9 (by kernel_rfl)).symm.trans h0_) (by decide), fun h0_ => absurd ((hoff 11 (by kernel_rfl)).symm.trans h0_) (by decide), fun h0_ => absurd ((hoff 9 (by kernel_rfl)).symm.trans h0_) (by decide), fun h0_ => absurd ((hoff 11 (by kernel_rfl)).symm.trans h0_) (by decide)⟩
        refine steps_cons ?_ ?_
        · rintro b a w' ⟨As, cs, Ar, cr, m9_, m11_, ha, Q_B0, Q_SA, Q_SR, Q_X9_, Q_X11_⟩ hb_ hon hoff
          refine ⟨_, rfl, fun K hK => ?_⟩
          have e120 : a.tmps[120]? = some (.slice A l.length cp) := by rw [ha]; exact putSel_on (e := (8, 120, .slice A l.length cp)) 8 rfl rfl (hon 8 (by kernel_rfl)) rfl
          have e119 : a.tmps[119]? = some (.bool true) := by rw [ha]; exact putSel_on (e := (7, 119, .bool true)) 7 rfl rfl (hon 7 (by kernel_rfl)) rfl
          replace ha := Aside0.mk ha
          have B0 := Aside0.mk Q_B0
          refine goes_ Try.func40 (by kernel_rfl) rfl #[.slice A l.length cp] (wanted_on rfl rfl rfl (e119.trans rfl)) rfl rfl (by first | (simp only [List.map_toArray, List.map_cons, List.map_nil, Act.eval, Array.getD_eq_getD_getElem?, Option.getD_some, e120, e119]; done) | (simp only [List.map_toArray, List.map_cons, List.map_nil, Act.eval, Array.getD_eq_getD_getElem?, Option.getD_some, e120, e119]; rfl)) ?_
          with_reducible refine (HST.out _ B0.out).mono ?_
          rintro e w2 ⟨A_, c_, rfl, hc_, hb⟩
          refine ⟨_, rfl, ?_⟩
          refine hK.out _ _ ⟨A_, c_, Ar, cr, (.slice A_ so.length c_), m11_, (by rw [ha.out]; exact putSel_upk 9 hb_ rfl rfl rfl), below_then B0.out B0.out.size hb, fun _ => hc_, fun h0_ => absurd ((hoff 11 (by kernel_rfl)).symm.trans h0_) (by decide), fun _ => rfl, fun h0_ => absurd ((hoff 11 (by kernel_rfl)).symm.trans h0_) (by decide)⟩
        refine steps_cons ?_ ?_
        · rintro b a w' ⟨As, cs, Ar, cr, m9_, m11_, ha, Q_B0, Q_SA, Q_SR, Q_X9_, Q_X11_⟩ hb_ hon hoff
          refine ⟨_, rfl, fun K hK => ?_⟩
          have e4 : a.tmps[4]? = some (.slice A l.length cp) := by rw [ha]; exact (putSel_off rfl).trans rfl
          have e119 : a.tmps[119]? = some (.bool true) := by rw [ha]; exact putSel_on (e := (7, 119, .bool true)) 7 rfl rfl (hon 7 (by kernel_rfl)) rfl
          replace ha := Aside0.mk ha
          have B0 := Aside0.mk Q_B0
          refine value_ (w1 := w') (v := .slice A l.length cp) (wanted_on rfl rfl rfl (e119.trans (by first | rfl | (simp [*]; done)))) rfl ?_ ?_
          · go_simp
            (try simp only [i64_w])
            try rfl
          refine hK.out _ _ ⟨As, cs, Ar, cr, m9_, m11_, (by rw [ha.out]; exact putSel_upk 10 hb_ rfl rfl rfl), Q_B0, Q_SA, fun h0_ => absurd ((hoff 11 (by kernel_rfl)).symm.trans h0_) (by decide), Q_X9_, fun h0_ => absurd ((hoff 11 (by kernel_rfl)).symm.trans h0_) (by decide)⟩
        refine steps_cons ?_ ?_
        · rintro b a w' ⟨As, cs, Ar, cr, m9_, m11_, ha, Q_B0, Q_SA, Q_SR, Q_X9_, Q_X11_⟩ hb_ hon hoff
          refine ⟨_, rfl, fun K hK => ?_⟩
          have e122 : a.tmps[122]? = some (.slice A l.length cp) := by rw [ha]; exact putSel_on (e := (10, 122, .slice A l.length cp)) 10 rfl rfl (hon 10 (by kernel_rfl)) rfl
          have e119 : a.tmps[119]? = some (.bool true) := by rw [ha]; exact putSel_on (e := (7, 119, .bool true)) 7 rfl rfl (hon 7 (by kernel_rfl)) rfl
          replace ha := Aside0.mk ha
          have B0 := Aside0.mk Q_B0
          have SA := Aside0.mk (Q_SA (hon 9 (by kernel_rfl)))
          refine goes_ Try.func41 (by kernel_rfl) rfl #[.slice A l.length cp] (wanted_on rfl rfl rfl (e119.trans rfl)) rfl rfl (by first | (simp only [List.map_toArray, List.map_cons, List.map_nil, Act.eval, Array.getD_eq_getD_getElem?, Option.getD_some, e122, e119]; done) | (simp only [List.map_toArray, List.map_cons, List.map_nil, Act.eval, Array.getD_eq_getD_getElem?, Option.getD_some, e122, e119]; rfl)) ?_
          with_reducible refine (HRS.out _ B0.out).mono ?_
          rintro e w2 ⟨A_, c_, rfl, hc_, hb⟩
          refine ⟨_, rfl, ?_⟩
          refine hK.out _ _ ⟨As, cs, A_, c_, m9_, (.slice A_ so.length c_), (by rw [ha.out]; exact putSel_upk 11 hb_ rfl rfl rfl), below_then B0.out B0.out.size hb, fun _ => ⟨SA.out.1, Kd.C_below SA.out.2 hb⟩, fun _ => hc_, Q_X9_, fun _ => rfl⟩
        refine steps_cons ?_ ?_
        · rintro b a w' ⟨As, cs, Ar, cr, m9_, m11_, ha, Q_B0, Q_SA, Q_SR, Q_X9_, Q_X11_⟩ hb_ hon hoff
          refine ⟨_, rfl, fun K hK => ?_⟩
          have e121 : a.tmps[121]? = some (m9_) := by rw [ha]; exact putSel_on (e := (9, 121, m9_)) 9 rfl rfl (hon 9 (by kernel_rfl)) rfl
          rw [Q_X9_ (hon 9 (by kernel_rfl))] at e121
          have e123 : a.tmps[123]? = some (m11_) := by rw [ha]; exact putSel_on (e := (11, 123, m11_)) 11 rfl rfl (hon 11 (by kernel_rfl)) rfl
          rw [Q_X11_ (hon 11 (by kernel_rfl))] at e123
          have e119 : a.tmps[119]? = some (.bool true) := by rw [ha]; exact putSel_on (e := (7, 119, .bool true)) 7 rfl rfl (hon 7 (by kernel_rfl)) rfl
          replace ha := Aside0.mk ha
          have B0 := Aside0.mk Q_B0
          have SA := Aside0.mk (Q_SA (hon 9 (by kernel_rfl)))
          have SR := Aside0.mk (Q_SR (hon 11 (by kernel_rfl)))
          refine goes_ Try.func39 (by kernel_rfl) rfl #[.slice As so.length cs, .slice Ar so.length cr] (wanted_on rfl rfl rfl (e119.trans rfl)) rfl rfl (by first | (simp only [List.map_toArray, List.map_cons, List.map_nil, Act.eval, Array.getD_eq_getD_getElem?, Option.getD_some, e121, e123, e119]; done) | (simp only [List.map_toArray, List.map_cons, List.map_nil, Act.eval, Array.getD_eq_getD_getElem?, Option.getD_some, e121, e123, e119]; rfl)) ?_
          with_reducible refine (HSA.out _ _ _ _ _ SA.out SR.out).mono ?_
          rintro e w2 ⟨rfl, hb⟩
          refine ⟨_, rfl, ?_⟩
          refine hK.out _ _ ⟨As, cs, Ar, cr, m9_, m11_, (by rw [ha.out]; exact putSel_upk 12 hb_ rfl rfl rfl), below_then B0.out B0.out.size hb, fun _ => ⟨SA.out.1, Kd.C_below SA.out.2 hb⟩, fun _ => ⟨SR.out.1, Kd.C_below SR.out.2 hb⟩, Q_X9_, Q_X11_⟩
        refine steps_cons ?_ ?_
        · rintro b a w' ⟨As, cs, Ar, cr, m9_, m11_, ha, Q_B0, Q_SA, Q_SR, Q_X9_, Q_X11_⟩ hb_ hon hoff
          refine ⟨_, rfl, fun K hK => ?_⟩
          have e119 : a.tmps[119]? = some (.bool true) := by rw [ha]; exact putSel_on (e := (7, 119, .bool true)) 7 rfl rfl (hon 7 (by kernel_rfl)) rfl
          have e124 : a.tmps[124]? = some (.bool true) := by rw [ha]; exact putSel_on (e := (12, 124, .bool true)) 12 rfl rfl (hon 12 (by kernel_rfl)) rfl
          replace ha := Aside0.mk ha
          have B0 := Aside0.mk Q_B0
          have SA := Aside0.mk (Q_SA (hon 9 (by kernel_rfl)))
          have SR := Aside0.mk (Q_SR (hon 11 (by kernel_rfl)))
          refine value_ (w1 := w') (v := .bool true) (by rfl) rfl ?_ ?_
          · go_simp
            (try simp only [i64_w])
            try rfl
          refine hK.out _ _ ⟨As, cs, Ar, cr, m9_, m11_, (by rw [ha.out]; exact putSel_upk 13 hb_ rfl rfl rfl), Q_B0, Q_SA, Q_SR, Q_X9_, Q_X11_⟩
        refine steps_cons ?_ ?_
        · rintro b a w' ⟨As, cs, Ar, cr, m9_, m11_, ha, Q_B0, Q_SA, Q_SR, Q_X9_, Q_X11_⟩ hb_ hon hoff
          refine ⟨_, rfl, fun K hK => ?_⟩
          have e125 : a.tmps[125]? = some (.bool true) := by rw [ha]; exact putSel_on (e := (13, 125, .bool true)) 13 rfl rfl (hon 13 (by kernel_rfl)) rfl
          replace ha := Aside0.mk ha
          have B0 := Aside0.mk Q_B0
          have SA := Aside0.mk (Q_SA (hon 9 (by kernel_rfl)))
          have SR := Aside0.mk (Q_SR (hon 11 (by kernel_rfl)))
          refine value_ (w1 := w') (v := .bool true) (by rfl) rfl ?_ ?_
          · go_simp
            (try simp only [i64_w])
            try rfl
          refine hK.out _ _ ⟨As, cs, Ar, cr, m9_, m11_, (by rw [ha.out]; exact putSel_upk 14 hb_ rfl rfl rfl), Q_B0, Q_SA, Q_SR, Q_X9_, Q_X11_⟩
        refine steps_cons ?_ ?_
        · rintro b a w' ⟨As, cs, Ar, cr, m9_, m11_, ha, Q_B0, Q_SA, Q_SR, Q_X9_, Q_X11_⟩ hb_ hon hoff
          refine ⟨_, rfl, fun K hK => ?_⟩
          have e4 : a.tmps[4]? = some (.slice A l.length cp) := by rw [ha]; exact (putSel_off rfl).trans rfl
          have e126 : a.tmps[126]? = some (.bool true) := by rw [ha]; exact putSel_on (e := (14, 126, .bool true)) 14 rfl rfl (hon 14 (by kernel_rfl)) rfl
          replace ha := Aside0.mk ha
          have B0 := Aside0.mk Q_B0
          have SA := Aside0.mk (Q_SA (hon 9 (by kernel_rfl)))
          have SR := Aside0.mk (Q_SR (hon 11 (by kernel_rfl)))
          refine value_ (w1 := w') (v := .slice A l.length cp) (wanted_on rfl rfl rfl (e126.trans (by first | rfl | (simp [*]; done)))) rfl ?_ ?_
          · go_simp
            (try simp only [i64_w])
            try rfl
          refine hK.out _ _ ⟨As, cs, Ar, cr, m9_, m11_, (by rw [ha.out]; exact putSel_upk 15 hb_ rfl rfl rfl), Q_B0, Q_SA, Q_SR, Q_X9_, Q_X11_⟩
        refine steps_cons ?_ ?_
        · rintro b a w' ⟨As, cs, Ar, cr, m9_, m11_, ha, Q_B0, Q_SA, Q_SR, Q_X9_, Q_X11_⟩ hb_ hon hoff
          refine ⟨_, rfl, fun K hK => ?_⟩
          have e6 : a.tmps[6]? = some (.int .i64 kd) := by rw [ha]; exact (putSel_off rfl).trans rfl
          have e126 : a.tmps[126]? = some (.bool true) := by rw [ha]; exact putSel_on (e := (14, 126, .bool true)) 14 rfl rfl (hon 14 (by kernel_rfl)) rfl
          replace ha := Aside0.mk ha
          have B0 := Aside0.mk Q_B0
          have SA := Aside0.mk (Q_SA (hon 9 (by kernel_rfl)))
          have SR := Aside0.mk (Q_SR (hon 11 (by kernel_rfl)))
          refine value_ (w1 := w') (v := .int .i64 kd) (wanted_on rfl rfl rfl (e126.trans (by first | rfl | (simp [*]; done)))) rfl ?_ ?_
          · go_simp
            (try simp only [i64_w])
            try rfl
          refine hK.out _ _ ⟨As, cs, Ar, cr, m9_, m11_, (by rw [ha.out]; exact putSel_upk 16 hb_ rfl rfl rfl), Q_B0, Q_SA, Q_SR, Q_X9_, Q_X11_⟩
        refine steps_cons ?_ ?_
        · rintro b a w' ⟨As, cs, Ar, cr, m9_, m11_, ha, Q_B0, Q_SA, Q_SR, Q_X9_, Q_X11_⟩ hb_ hon hoff
          refine ⟨_, rfl, fun K hK => ?_⟩
          have e127 : a.tmps[127]? = some (.slice A l.length cp) := by rw [ha]; exact putSel_on (e := (15, 127, .slice A l.length cp)) 15 rfl rfl (hon 15 (by kernel_rfl)) rfl
          have e128 : a.tmps[128]? = some (.int .i64 kd) := by rw [ha]; exact putSel_on (e := (16, 128, .int .i64 kd)) 16 rfl rfl (hon 16 (by kernel_rfl)) rfl
          have e126 : a.tmps[126]? = some (.bool true) := by rw [ha]; exact putSel_on (e := (14, 126, .bool true)) 14 rfl rfl (hon 14 (by kernel_rfl)) rfl
          replace ha := Aside0.mk ha
          have B0 := Aside0.mk Q_B0
          have SA := Aside0.mk (Q_SA (hon 9 (by kernel_rfl)))
          have SR := Aside0.mk (Q_SR (hon 11 (by kernel_rfl)))
          refine goes_ Try.func42 (by kernel_rfl) rfl #[.slice A l.length cp, .int .i64 kd] (wanted_on rfl rfl rfl (e126.trans rfl)) rfl rfl (by first | (simp only [List.map_toArray, List.map_cons, List.map_nil, Act.eval, Array.getD_eq_getD_getElem?, Option.getD_some, e127, e128, e126]; done) | (simp only [List.map_toArray, List.map_cons, List.map_nil, Act.eval, Array.getD_eq_getD_getElem?, Option.getD_some, e127, e128, e126]; rfl)) ?_
          with_reducible refine (HCT.out _ B0.out).mono ?_
          rintro e w2 ⟨rfl, hb⟩
          refine ⟨_, rfl, ?_⟩
          refine hK.out _ _ ⟨As, cs, Ar, cr, m9_, m11_, (by rw [ha.out]; exact putSel_upk 17 hb_ rfl rfl rfl), below_then B0.out B0.out.size hb, fun _ => ⟨SA.out.1, Kd.C_below SA.out.2 hb⟩, fun _ => ⟨SR.out.1, Kd.C_below SR.out.2 hb⟩, Q_X9_, Q_X11_⟩
        refine steps_cons ?_ ?_
        · rintro b a w' ⟨As, cs, Ar, cr, m9_, m11_, ha, Q_B0, Q_SA, Q_SR, Q_X9_, Q_X11_⟩ hb_ hon hoff
          refine ⟨_, rfl, fun K hK => ?_⟩
          have e8 : a.tmps[8]? = some (.int .i64 nk) := by rw [ha]; exact (putSel_off rfl).trans rfl
          have e126 : a.tmps[126]? = some (.bool true) := by rw [ha]; exact putSel_on (e := (14, 126, .bool true)) 14 rfl rfl (hon 14 (by kernel_rfl)) rfl
          replace ha := Aside0.mk ha
          have B0 := Aside0.mk Q_B0
          have SA := Aside0.mk (Q_SA (hon 9 (by kernel_rfl)))
          have SR := Aside0.mk (Q_SR (hon 11 (by kernel_rfl)))
          refine value_ (w1 := w') (v := .int .i64 nk) (wanted_on rfl rfl rfl (e126.trans (by first | rfl | (simp [*]; done)))) rfl ?_ ?_
          · go_simp
            (try simp only [i64_w])
            try rfl
          refine hK.out _ _ ⟨As, cs, Ar, cr, m9_, m11_, (by rw [ha.out]; exact putSel_upk 18 hb_ rfl rfl rfl), Q_B0, Q_SA, Q_SR, Q_X9_, Q_X11_⟩
        refine steps_cons ?_ ?_
        · rintro b a w' ⟨As, cs, Ar, cr, m9_, m11_, ha, Q_B0, Q_SA, Q_SR, Q_X9_, Q_X11_⟩ hb_ hon hoff
          refine ⟨_, rfl, fun K hK => ?_⟩
          have e129 : a.tmps[129]? = some (.int .i64 nk) := by rw [ha]; exact putSel_on (e := (17, 129, .int .i64 nk)) 17 rfl rfl (hon 17 (by kernel_rfl)) rfl
          have e130 : a.tmps[130]? = some (.int .i64 nk) := by rw [ha]; exact putSel_on (e := (18, 130, .int .i64 nk)) 18 rfl rfl (hon 18 (by kernel_rfl)) rfl
          have e126 : a.tmps[126]? = some (.bool true) := by rw [ha]; exact putSel_on (e := (14, 126, .bool true)) 14 rfl rfl (hon 14 (by kernel_rfl)) rfl
          replace ha := Aside0.mk ha
          have B0 := Aside0.mk Q_B0
          have SA := Aside0.mk (Q_SA (hon 9 (by kernel_rfl)))
          have SR := Aside0.mk (Q_SR (hon 11 (by kernel_rfl)))
          refine value_ (w1 := w') (v := .bool true) (wanted_on rfl rfl rfl (e126.trans (by first | rfl | (simp [*]; done)))) rfl ?_ ?_
          · go_simp
            (try simp only [i64_w])
            try rfl
          refine hK.out _ _ ⟨As, cs, Ar, cr, m9_, m11_, (by rw [ha.out]; exact putSel_upk 19 hb_ rfl rfl rfl), Q_B0, Q_SA, Q_SR, Q_X9_, Q_X11_⟩
        refine steps_cons ?_ ?_
        · rintro b a w' ⟨As, cs, Ar, cr, m9_, m11_, ha, Q_B0, Q_SA, Q_SR, Q_X9_, Q_X11_⟩ hb_ hon hoff
          refine ⟨_, rfl, fun K hK => ?_⟩
          have e126 : a.tmps[126]? = some (.bool true) := by rw [ha]; exact putSel_on (e := (14, 126, .bool true)) 14 rfl rfl (hon 14 (by kernel_rfl)) rfl
          have e131 : a.tmps[131]? = some (.bool true) := by rw [ha]; exact putSel_on (e := (19, 131, .bool true)) 19 rfl rfl (hon 19 (by kernel_rfl)) rfl
          replace ha := Aside0.mk ha
          have B0 := Aside0.mk Q_B0
          have SA := Aside0.mk (Q_SA (hon 9 (by kernel_rfl)))
          have SR := Aside0.mk (Q_SR (hon 11 (by kernel_rfl)))
          refine value_ (w1 := w') (v := .bool true) (by rfl) rfl ?_ ?_
          · go_simp
            (try simp only [i64_w])
            try rfl
          refine hK.out _ _ ⟨As, cs, Ar, cr, m9_, m11_, (by rw [ha.out]; exact putSel_upk 20 hb_ rfl rfl rfl), Q_B0, Q_SA, Q_SR, Q_X9_, Q_X11_⟩
        refine steps_cons ?_ ?_
        · rintro b a w' ⟨As, cs, Ar, cr, m9_, m11_, ha, Q_B0, Q_SA, Q_SR, Q_X9_, Q_X11_⟩ hb_ hon hoff
          refine ⟨_, rfl, fun K hK => ?_⟩
          have e132 : a.tmps[132]? = some (.bool true) := by rw [ha]; exact putSel_on (e := (20, 132, .bool true)) 20 rfl rfl (hon 20 (by kernel_rfl)) rfl
          replace ha := Aside0.mk ha
          have B0 := Aside0.mk Q_B0
          have SA := Aside0.mk (Q_SA (hon 9 (by kernel_rfl)))
          have SR := Aside0.mk (Q_SR (hon 11 (by kernel_rfl)))
          refine value_ (w1 := w') (v := .bool true) (by rfl) rfl ?_ ?_
          · go_simp
            (try simp only [i64_w])
            try rfl
          refine hK.out _ _ ⟨As, cs, Ar, cr, m9_, m11_, (by rw [ha.out]; exact putSel_upk 21 hb_ rfl rfl rfl), Q_B0, Q_SA, Q_SR, Q_X9_, Q_X11_⟩
        refine steps_cons ?_ ?_
        · rintro b a w' ⟨As, cs, Ar, cr, m9_, m11_, ha, Q_B0, Q_SA, Q_SR, Q_X9_, Q_X11_⟩ hb_ hon hoff
          refine ⟨_, rfl, fun K hK => ?_⟩
          have e3 : a.tmps[3]? = some (.pointer (some ⟨g3, 0, none⟩)) := by rw [ha]; exact (putSel_off rfl).trans rfl
          have e133 : a.tmps[133]? = some (.bool true) := by rw [ha]; exact putSel_on (e := (21, 133, .bool true)) 21 rfl rfl (hon 21 (by kernel_rfl)) rfl
          replace ha := Aside0.mk ha
          have B0 := Aside0.mk Q_B0
          have SA := Aside0.mk (Q_SA (hon 9 (by kernel_rfl)))
          have SR := Aside0.mk (Q_SR (hon 11 (by kernel_rfl)))
          have c0_ := blk_cell (blk_below HZ7.out B0.out) 0
          have c1_ := blk_cell (blk_below HZ7.out B0.out) 1
          have c2_ := blk_cell (blk_below HZ7.out B0.out) 2
          refine value_ (w1 := w') (v := .agg #[.int .i64 B, .int .i64 P, .int .i64 C]) (wanted_on rfl rfl rfl (e133.trans (by first | rfl | (simp [*]; done)))) rfl ?_ ?_
          · go_simp
            (try simp only [i64_w])
            try rfl
          refine hK.out _ _ ⟨As, cs, Ar, cr, m9_, m11_, (by rw [ha.out]; exact putSel_upk 22 hb_ rfl rfl rfl), Q_B0, Q_SA, Q_SR, Q_X9_, Q_X11_⟩
        refine steps_cons ?_ ?_
        · rintro b a w' ⟨As, cs, Ar, cr, m9_, m11_, ha, Q_B0, Q_SA, Q_SR, Q_X9_, Q_X11_⟩ hb_ hon hoff
          refine ⟨_, rfl, fun K hK => ?_⟩
          have e4 : a.tmps[4]? = some (.slice A l.length cp) := by rw [ha]; exact (putSel_off rfl).trans rfl
          have e133 : a.tmps[133]? = some (.bool true) := by rw [ha]; exact putSel_on (e := (21, 133, .bool true)) 21 rfl rfl (hon 21 (by kernel_rfl)) rfl
          replace ha := Aside0.mk ha
          have B0 := Aside0.mk Q_B0
          have SA := Aside0.mk (Q_SA (hon 9 (by kernel_rfl)))
          have SR := Aside0.mk (Q_SR (hon 11 (by kernel_rfl)))
          refine value_ (w1 := w') (v := .slice A l.length cp) (wanted_on rfl rfl rfl (e133.trans (by first | rfl | (simp [*]; done)))) rfl ?_ ?_
          · go_simp
            (try simp only [i64_w])
            try rfl
          refine hK.out _ _ ⟨As, cs, Ar, cr, m9_, m11_, (by rw [ha.out]; exact putSel_upk 23 hb_ rfl rfl rfl), Q_B0, Q_SA, Q_SR, Q_X9_, Q_X11_⟩
        refine steps_cons ?_ ?_
        · rintro b a w' ⟨As, cs, Ar, cr, m9_, m11_, ha, Q_B0, Q_SA, Q_SR, Q_X9_, Q_X11_⟩ hb_ hon hoff
          refine ⟨_, rfl, fun K hK => ?_⟩
          have e134 : a.tmps[134]? = some (.agg #[.int .i64 B, .int .i64 P, .int .i64 C]) := by rw [ha]; exact putSel_on (e := (22, 134, .agg #[.int .i64 B, .int .i64 P, .int .i64 C])) 22 rfl rfl (hon 22 (by kernel_rfl)) rfl
          have e135 : a.tmps[135]? = some (.slice A l.length cp) := by rw [ha]; exact putSel_on (e := (23, 135, .slice A l.length cp)) 23 rfl rfl (hon 23 (by kernel_rfl)) rfl
          have e133 : a.tmps[133]? = some (.bool true) := by rw [ha]; exact putSel_on (e := (21, 133, .bool true)) 21 rfl rfl (hon 21 (by kernel_rfl)) rfl
          replace ha := Aside0.mk ha
          have B0 := Aside0.mk Q_B0
          have SA := Aside0.mk (Q_SA (hon 9 (by kernel_rfl)))
          have SR := Aside0.mk (Q_SR (hon 11 (by kernel_rfl)))
          refine goes_ Try.func43 (by kernel_rfl) rfl #[.agg #[.int .i64 B, .int .i64 P, .int .i64 C], .slice A l.length cp] (wanted_on rfl rfl rfl (e133.trans rfl)) rfl rfl (by first | (simp only [List.map_toArray, List.map_cons, List.map_nil, Act.eval, Array.getD_eq_getD_getElem?, Option.getD_some, e134, e135, e133]; done) | (simp only [List.map_toArray, List.map_cons, List.map_nil, Act.eval, Array.getD_eq_getD_getElem?, Option.getD_some, e134, e135, e133]; rfl)) ?_
          with_reducible refine (HWI.out _ B0.out).mono ?_
          rintro e w2 ⟨rfl, hb⟩
          refine ⟨_, rfl, ?_⟩
          refine hK.out _ _ ⟨As, cs, Ar, cr, m9_, m11_, (by rw [ha.out]; exact putSel_upk 24 hb_ rfl rfl rfl), below_then B0.out B0.out.size hb, fun _ => ⟨SA.out.1, Kd.C_below SA.out.2 hb⟩, fun _ => ⟨SR.out.1, Kd.C_below SR.out.2 hb⟩, Q_X9_, Q_X11_⟩
        refine steps_cons ?_ ?_
        · rintro b a w' ⟨As, cs, Ar, cr, m9_, m11_, ha, Q_B0, Q_SA, Q_SR, Q_X9_, Q_X11_⟩ hb_ hon hoff
          refine ⟨_, rfl, fun K hK => ?_⟩
          have e3 : a.tmps[3]? = some (.pointer (some ⟨g3, 0, none⟩)) := by rw [ha]; exact (putSel_off rfl).trans rfl
          have e133 : a.tmps[133]? = some (.bool true) := by rw [ha]; exact putSel_on (e := (21, 133, .bool true)) 21 rfl rfl (hon 21 (by kernel_rfl)) rfl
          replace ha := Aside0.mk ha
          have B0 := Aside0.mk Q_B0
          have SA := Aside0.mk (Q_SA (hon 9 (by kernel_rfl)))
          have SR := Aside0.mk (Q_SR (hon 11 (by kernel_rfl)))
          have c0_ := blk_cell (blk_below HZ7.out B0.out) 0
          have c1_ := blk_cell (blk_below HZ7.out B0.out) 1
          have c2_ := blk_cell (blk_below HZ7.out B0.out) 2
          refine value_ (w1 := w') (v := .agg #[.int .i64 B, .int .i64 P, .int .i64 C]) (wanted_on rfl rfl rfl (e133.trans (by first | rfl | (simp [*]; done)))) rfl ?_ ?_
          · go_simp
            (try simp only [i64_w])
            try rfl
          refine hK.out _ _ ⟨As, cs, Ar, cr, m9_, m11_, (by rw [ha.out]; exact putSel_upk 25 hb_ rfl rfl rfl), Q_B0, Q_SA, Q_SR, Q_X9_, Q_X11_⟩
        refine steps_cons ?_ ?_
        · rintro b a w' ⟨As, cs, Ar, cr, m9_, m11_, ha, Q_B0, Q_SA, Q_SR, Q_X9_, Q_X11_⟩ hb_ hon hoff
          refine ⟨_, rfl, fun K hK => ?_⟩
          have e137 : a.tmps[137]? = some (.agg #[.int .i64 B, .int .i64 P, .int .i64 C]) := by rw [ha]; exact putSel_on (e := (25, 137, .agg #[.int .i64 B, .int .i64 P, .int .i64 C])) 25 rfl rfl (hon 25 (by kernel_rfl)) rfl
          have e133 : a.tmps[133]? = some (.bool true) := by rw [ha]; exact putSel_on (e := (21, 133, .bool true)) 21 rfl rfl (hon 21 (by kernel_rfl)) rfl
          replace ha := Aside0.mk ha
          have B0 := Aside0.mk Q_B0
          have SA := Aside0.mk (Q_SA (hon 9 (by kernel_rfl)))
          have SR := Aside0.mk (Q_SR (hon 11 (by kernel_rfl)))
          refine goes_ Try.func12 (by kernel_rfl) rfl #[.agg #[.int .i64 B, .int .i64 P, .int .i64 C]] (wanted_on rfl rfl rfl (e133.trans rfl)) rfl rfl (by first | (simp only [List.map_toArray, List.map_cons, List.map_nil, Act.eval, Array.getD_eq_getD_getElem?, Option.getD_some, e137, e133]; done) | (simp only [List.map_toArray, List.map_cons, List.map_nil, Act.eval, Array.getD_eq_getD_getElem?, Option.getD_some, e137, e133]; rfl)) ?_
          with_reducible refine (HRI.out w').mono ?_
          rintro e w2 ⟨rfl, hb⟩
          refine ⟨_, rfl, ?_⟩
          refine hK.out _ _ ⟨As, cs, Ar, cr, m9_, m11_, (by rw [ha.out]; exact putSel_upk 26 hb_ rfl rfl rfl), below_then B0.out B0.out.size hb, fun _ => ⟨SA.out.1, Kd.C_below SA.out.2 hb⟩, fun _ => ⟨SR.out.1, Kd.C_below SR.out.2 hb⟩, Q_X9_, Q_X11_⟩
        refine steps_cons ?_ ?_
        · rintro b a w' ⟨As, cs, Ar, cr, m9_, m11_, ha, Q_B0, Q_SA, Q_SR, Q_X9_, Q_X11_⟩ hb_ hon hoff
          refine ⟨_, rfl, fun K hK => ?_⟩
          have e138 : a.tmps[138]? = some (.bool false) := by rw [ha]; exact putSel_on (e := (26, 138, .bool false)) 26 rfl rfl (hon 26 (by kernel_rfl)) rfl
          have e133 : a.tmps[133]? = some (.bool true) := by rw [ha]; exact putSel_on (e := (21, 133, .bool true)) 21 rfl rfl (hon 21 (by kernel_rfl)) rfl
          replace ha := Aside0.mk ha
          have B0 := Aside0.mk Q_B0
          have SA := Aside0.mk (Q_SA (hon 9 (by kernel_rfl)))
          have SR := Aside0.mk (Q_SR (hon 11 (by kernel_rfl)))
          refine value_ (w1 := w') (v := .bool false) (wanted_on rfl rfl rfl (e133.trans (by first | rfl | (simp [*]; done)))) rfl ?_ ?_
          · go_simp
            (try simp only [i64_w])
            try rfl
          refine hK.out _ _ ⟨As, cs, Ar, cr, m9_, m11_, (by rw [ha.out]; exact putSel_upk 27 hb_ rfl rfl rfl), Q_B0, Q_SA, Q_SR, Q_X9_, Q_X11_⟩
        refine steps_cons ?_ ?_
        · rintro b a w' ⟨As, cs, Ar, cr, m9_, m11_, ha, Q_B0, Q_SA, Q_SR, Q_X9_, Q_X11_⟩ hb_ hon hoff
          refine ⟨_, rfl, fun K hK => ?_⟩
          have e139 : a.tmps[139]? = some (.bool false) := by rw [ha]; exact putSel_on (e := (27, 139, .bool false)) 27 rfl rfl (hon 27 (by kernel_rfl)) rfl
          replace ha := Aside0.mk ha
          have B0 := Aside0.mk Q_B0
          have SA := Aside0.mk (Q_SA (hon 9 (by kernel_rfl)))
          have SR := Aside0.mk (Q_SR (hon 11 (by kernel_rfl)))
          refine off_ (wanted_off rfl rfl rfl (e139.trans (by first | rfl | (simp [*]; done)))) ?_
          refine hK.out _ _ ⟨As, cs, Ar, cr, m9_, m11_, (by rw [ha.out]; exact putSel_upk 28 hb_ rfl rfl rfl), Q_B0, Q_SA, Q_SR, Q_X9_, Q_X11_⟩
        refine steps_cons ?_ ?_
        · rintro b a w' ⟨As, cs, Ar, cr, m9_, m11_, ha, Q_B0, Q_SA, Q_SR, Q_X9_, Q_X11_⟩ hb_ hon hoff
          refine ⟨_, rfl, fun K hK => ?_⟩
          have e139 : a.tmps[139]? = some (.bool false) := by rw [ha]; exact putSel_on (e := (27, 139, .bool false)) 27 rfl rfl (hon 27 (by kernel_rfl)) rfl
          replace ha := Aside0.mk ha
          have B0 := Aside0.mk Q_B0
          have SA := Aside0.mk (Q_SA (hon 9 (by kernel_rfl)))
          have SR := Aside0.mk (Q_SR (hon 11 (by kernel_rfl)))
          refine off_ (wanted_off rfl rfl rfl (e139.trans (by first | rfl | (simp [*]; done)))) ?_
          refine hK.out _ _ ⟨As, cs, Ar, cr, m9_, m11_, (by rw [ha.out]; exact putSel_upk 29 hb_ rfl rfl rfl), Q_B0, Q_SA, Q_SR, Q_X9_, Q_X11_⟩
        refine steps_cons ?_ ?_
        · rintro b a w' ⟨As, cs, Ar, cr, m9_, m11_, ha, Q_B0, Q_SA, Q_SR, Q_X9_, Q_X11_⟩ hb_ hon hoff
          refine ⟨_, rfl, fun K hK => ?_⟩
          have e139 : a.tmps[139]? = some (.bool false) := by rw [ha]; exact putSel_on (e := (27, 139, .bool false)) 27 rfl rfl (hon 27 (by kernel_rfl)) rfl
          replace ha := Aside0.mk ha
          have B0 := Aside0.mk Q_B0
          have SA := Aside0.mk (Q_SA (hon 9 (by kernel_rfl)))
          have SR := Aside0.mk (Q_SR (hon 11 (by kernel_rfl)))
          refine off_ (wanted_off rfl rfl rfl (e139.trans (by first | rfl | (simp [*]; done)))) ?_
          refine hK.out _ _ ⟨As, cs, Ar, cr, m9_, m11_, (by rw [ha.out]; exact putSel_upk 30 hb_ rfl rfl rfl), Q_B0, Q_SA, Q_SR, Q_X9_, Q_X11_⟩
        refine steps_cons ?_ ?_
        · rintro b a w' ⟨As, cs, Ar, cr, m9_, m11_, ha, Q_B0, Q_SA, Q_SR, Q_X9_, Q_X11_⟩ hb_ hon hoff
          refine ⟨_, rfl, fun K hK => ?_⟩
          have e139 : a.tmps[139]? = some (.bool false) := by rw [ha]; exact putSel_on (e := (27, 139, .bool false)) 27 rfl rfl (hon 27 (by kernel_rfl)) rfl
          replace ha := Aside0.mk ha
          have B0 := Aside0.mk Q_B0
          have SA := Aside0.mk (Q_SA (hon 9 (by kernel_rfl)))
          have SR := Aside0.mk (Q_SR (hon 11 (by kernel_rfl)))
          refine off_ (wanted_off rfl rfl rfl (e139.trans (by first | rfl | (simp [*]; done)))) ?_
          refine hK.out _ _ ⟨As, cs, Ar, cr, m9_, m11_, (by rw [ha.out]; exact putSel_upk 31 hb_ rfl rfl rfl), Q_B0, Q_SA, Q_SR, Q_X9_, Q_X11_⟩
        refine steps_cons ?_ ?_
        · rintro b a w' ⟨As, cs, Ar, cr, m9_, m11_, ha, Q_B0, Q_SA, Q_SR, Q_X9_, Q_X11_⟩ hb_ hon hoff
          refine ⟨_, rfl, fun K hK => ?_⟩
          have e139 : a.tmps[139]? = some (.bool false) := by rw [ha]; exact putSel_on (e := (27, 139, .bool false)) 27 rfl rfl (hon 27 (by kernel_rfl)) rfl
          have e143 : a.tmps[143]? = some (undef) := by rw [ha]; exact putSel_on (e := (31, 143, undef)) 31 rfl rfl (hon 31 (by kernel_rfl)) rfl
          have e133 : a.tmps[133]? = some (.bool true) := by rw [ha]; exact putSel_on (e := (21, 133, .bool true)) 21 rfl rfl (hon 21 (by kernel_rfl)) rfl
          replace ha := Aside0.mk ha
          have B0 := Aside0.mk Q_B0
          have SA := Aside0.mk (Q_SA (hon 9 (by kernel_rfl)))
          have SR := Aside0.mk (Q_SR (hon 11 (by kernel_rfl)))
          refine value_ (w1 := w') (v := .bool false) (wanted_on rfl rfl rfl (e133.trans (by first | rfl | (simp [*]; done)))) rfl ?_ ?_
          · go_simp
            (try simp only [i64_w])
            try rfl
          refine hK.out _ _ ⟨As, cs, Ar, cr, m9_, m11_, (by rw [ha.out]; exact putSel_upk 32 hb_ rfl rfl rfl), Q_B0, Q_SA, Q_SR, Q_X9_, Q_X11_⟩
        refine steps_cons ?_ ?_
        · rintro b a w' ⟨As, cs, Ar, cr, m9_, m11_, ha, Q_B0, Q_SA, Q_SR, Q_X9_, Q_X11_⟩ hb_ hon hoff
          refine ⟨_, rfl, fun K hK => ?_⟩
          have e136 : a.tmps[136]? = some (.bool false) := by rw [ha]; exact putSel_on (e := (24, 136, .bool false)) 24 rfl rfl (hon 24 (by kernel_rfl)) rfl
          have e144 : a.tmps[144]? = some (.bool false) := by rw [ha]; exact putSel_on (e := (32, 144, .bool false)) 32 rfl rfl (hon 32 (by kernel_rfl)) rfl
          have e133 : a.tmps[133]? = some (.bool true) := by rw [ha]; exact putSel_on (e := (21, 133, .bool true)) 21 rfl rfl (hon 21 (by kernel_rfl)) rfl
          replace ha := Aside0.mk ha
          have B0 := Aside0.mk Q_B0
          have SA := Aside0.mk (Q_SA (hon 9 (by kernel_rfl)))
          have SR := Aside0.mk (Q_SR (hon 11 (by kernel_rfl)))
          refine value_ (w1 := w') (v := .bool true) (wanted_on rfl rfl rfl (e133.trans (by first | rfl | (simp [*]; done)))) rfl ?_ ?_
          · go_simp
            (try simp only [i64_w])
            try rfl
          refine hK.out _ _ ⟨As, cs, Ar, cr, m9_, m11_, (by rw [ha.out]; exact putSel_upk 33 hb_ rfl rfl rfl), Q_B0, Q_SA, Q_SR, Q_X9_, Q_X11_⟩
        refine steps_cons ?_ ?_
        · rintro b a w' ⟨As, cs, Ar, cr, m9_, m11_, ha, Q_B0, Q_SA, Q_SR, Q_X9_, Q_X11_⟩ hb_ hon hoff
          refine ⟨_, rfl, fun K hK => ?_⟩
          have e133 : a.tmps[133]? = some (.bool true) := by rw [ha]; exact putSel_on (e := (21, 133, .bool true)) 21 rfl rfl (hon 21 (by kernel_rfl)) rfl
          have e145 : a.tmps[145]? = some (.bool true) := by rw [ha]; exact putSel_on (e := (33, 145, .bool true)) 33 rfl rfl (hon 33 (by kernel_rfl)) rfl
          replace ha := Aside0.mk ha
          have B0 := Aside0.mk Q_B0
          have SA := Aside0.mk (Q_SA (hon 9 (by kernel_rfl)))
          have SR := Aside0.mk (Q_SR (hon 11 (by kernel_rfl)))
          refine value_ (w1 := w') (v := .bool true) (by rfl) rfl ?_ ?_
          · go_simp
            (try simp only [i64_w])
            try rfl
          refine hK.out _ _ ⟨As, cs, Ar, cr, m9_, m11_, (by rw [ha.out]; exact putSel_upk 34 hb_ rfl rfl rfl), Q_B0, Q_SA, Q_SR, Q_X9_, Q_X11_⟩
        refine steps_cons ?_ ?_
        · rintro b a w' ⟨As, cs, Ar, cr, m9_, m11_, ha, Q_B0, Q_SA, Q_SR, Q_X9_, Q_X11_⟩ hb_ hon hoff
          refine ⟨_, rfl, fun K hK => ?_⟩
          have e146 : a.tmps[146]? = some (.bool true) := by rw [ha]; exact putSel_on (e := (34, 146, .bool true)) 34 rfl rfl (hon 34 (by kernel_rfl)) rfl
          replace ha := Aside0.mk ha
          have B0 := Aside0.mk Q_B0
          have SA := Aside0.mk (Q_SA (hon 9 (by kernel_rfl)))
          have SR := Aside0.mk (Q_SR (hon 11 (by kernel_rfl)))
          refine value_ (w1 := w') (v := .bool true) (by rfl) rfl ?_ ?_
          · go_simp
            (try simp only [i64_w])
            try rfl
          refine hK.out _ _ ⟨As, cs, Ar, cr, m9_, m11_, (by rw [ha.out]; exact putSel_upk 35 hb_ rfl rfl rfl), Q_B0, Q_SA, Q_SR, Q_X9_, Q_X11_⟩
        exact steps_nil
      rintro b a w8 hall ⟨As, cs, Ar, cr, m9_, m11_, ha, Q_B0, Q_SA, Q_SR, Q_X9_, Q_X11_⟩
      clear B0
      have hb0_ := hall 0 (by kernel_rfl)
      have hb1_ := hall 1 (by kernel_rfl)
      have hb2_ := hall 2 (by kernel_rfl)
      have hb3_ := hall 3 (by kernel_rfl)
      have hb4_ := hall 4 (by kernel_rfl)
      have hb5_ := hall 5 (by kernel_rfl)
      have hb6_ := hall 6 (by kernel_rfl)
      have hb7_ := hall 7 (by kernel_rfl)
      have hb8_ := hall 8 (by kernel_rfl)
      have hb9_ := hall 9 (by kernel_rfl)
      have hb10_ := hall 10 (by kernel_rfl)
      have hb11_ := hall 11 (by kernel_rfl)
      have hb12_ := hall 12 (by kernel_rfl)
      have hb13_ := hall 13 (by kernel_rfl)
      have hb14_ := hall 14 (by kernel_rfl)
      have hb15_ := hall 15 (by kernel_rfl)
      have hb16_ := hall 16 (by kernel_rfl)
      have hb17_ := hall 17 (by kernel_rfl)
      have hb18_ := hall 18 (by kernel_rfl)
      have hb19_ := hall 19 (by kernel_rfl)
      have hb20_ := hall 20 (by kernel_rfl)
      have hb21_ := hall 21 (by kernel_rfl)
      have hb22_ := hall 22 (by kernel_rfl)
      have hb23_ := hall 23 (by kernel_rfl)
      have hb24_ := hall 24 (by kernel_rfl)
      have hb25_ := hall 25 (by kernel_rfl)
      have hb26_ := hall 26 (by kernel_rfl)
      have hb27_ := hall 27 (by kernel_rfl)
      have hb28_ := hall 28 (by kernel_rfl)
      have hb29_ := hall 29 (by kernel_rfl)
      have hb30_ := hall 30 (by kernel_rfl)
      have hb31_ := hall 31 (by kernel_rfl)
      have hb32_ := hall 32 (by kernel_rfl)
      have hb33_ := hall 33 (by kernel_rfl)
      have hb34_ := hall 34 (by kernel_rfl)
      have hb35_ := hall 35 (by kernel_rfl)
      subst ha
      obtain rfl := Q_X9_ hb9_
      obtain rfl := Q_X11_ hb11_
      simp only [putSel, hb0_, hb1_, hb2_, hb3_, hb4_, hb5_, hb6_, hb7_, hb8_, hb9_, hb10_, hb11_, hb12_, hb13_, hb14_, hb15_, hb16_, hb17_, hb18_, hb19_, hb20_, hb21_, hb22_, hb23_, hb24_, hb25_, hb26_, hb27_, hb28_, hb29_, hb30_, hb31_, hb32_, hb33_, hb34_, hb35_, if_true, Act.put, List.setIfInBounds_toArray, List.set_cons_zero, List.set_cons_succ]
      have B0 := Aside0.mk Q_B0
      clear Q_B0
      have SA := Aside0.mk (Q_SA hb9_)
      clear Q_SA
      have SR := Aside0.mk (Q_SR hb11_)
      clear Q_SR
      clear hall hb0_ hb1_ hb2_ hb3_ hb4_ hb5_ hb6_ hb7_ hb8_ hb9_ hb10_ hb11_ hb12_ hb13_ hb14_ hb15_ hb16_ hb17_ hb18_ hb19_ hb20_ hb21_ hb22_ hb23_ hb24_ hb25_ hb26_ hb27_ hb28_ hb29_ hb30_ hb31_ hb32_ hb33_ hb34_ hb35_
      go_wp2_with fail
      go_ret
      exact ⟨rfl, below_then HB7.out HB7.out.size B0.out⟩
    | true =>
      obtain ⟨wq, hwq⟩ : ∃ q, q = decide (nf ≤ C) := ⟨_, rfl⟩
      have HWQ := Aside0.mk hwq.symm
      have HWI : Aside0 (∀ W', Below w7.heap.size w7 W' → Calls Try.prog 43 #[.agg #[.int .i64 B, .int .i64 P, .int .i64 C], .slice A l.length cp] W' fun e w' => e = .returned (.bool wq) ∧ Below W'.heap.size W' w') := ⟨fun W' hW => by
        have k := within_calls B P C l A cp W' HLF.out.2 (Kd.C_below HC7.out hW)
        rw [show withinB B P C l = wq by unfold withinB; rw [hrg, Bool.true_and, ← HNF.out, hwq]] at k
        exact k⟩
      have HRI : Aside0 (∀ W', Calls Try.prog 12 #[.agg #[.int .i64 B, .int .i64 P, .int .i64 C]] W' fun e w' => e = .returned (.bool true) ∧ Below W'.heap.size W' w') := ⟨fun W' => by have k := ND.right_calls B P C W'; rw [hrg] at k; exact k⟩
      have HQQ : Aside0 ((wq == wq) = true) := ⟨beq_self_eq_true _⟩
      go_upto_region 21 with fail
      have B0 := Aside0.mk (below_drew1 (Below.refl w7.heap.size w7))
      have SA := True.intro
      have SR := True.intro
      clear hrg hwq
      refine start_ (n := 36) (S := fun w' => True) (ds := []) #[false, false, false, false, false, false, false, false, false, false, false, false, false, false, false, false, false, false, false, false, false, false, false, false, false, false, false, false, false, false, false, false, false, false, false, false] (by kernel_rfl) rfl rfl trivial (fun hHeld => ?_)
      refine with_tabW looks21.tab21 looks21.bits21 (fun HT_ HW_ => ?_)
      generalize w7.drew = wz at B0 hHeld ⊢
      refine inv_at [0, 1, 2, 3, 4, 5, 6, 7, 8, 9, 10, 11, 12, 13, 14, 15, 16, 17, 18, 19, 20, 21, 22, 23, 24, 25, 26, 27, 28, 29, 30, 31, 32, 33, 34, 35] (fun a0_ b a w' => ∃ (As : Option Addr) (cs : Nat) (Ar : Option Addr) (cr : Nat) (m9_ : Value) (m11_ : Value), a = putSel a0_ b [(0, 112, .bool true), (1, 113, .bool true), (2, 114, .slice A l.length cp), (3, 115, .int .i64 ck), (4, 116, .int .i64 ck), (5, 117, .bool true), (6, 118, .bool true), (7, 119, .bool true), (8, 120, .slice A l.length cp), (9, 121, m9_), (10, 122, .slice A l.length cp), (11, 123, m11_), (12, 124, .bool true), (13, 125, .bool true), (14, 126, .bool true), (15, 127, .slice A l.length cp), (16, 128, .int .i64 kd), (17, 129, .int .i64 nk), (18, 130, .int .i64 nk), (19, 131, .bool true), (20, 132, .bool true), (21, 133, .bool true), (22, 134, .agg #[.int .i64 B, .int .i64 P, .int .i64 C]), (23, 135, .slice A l.length cp), (24, 136, .bool wq), (25, 137, .agg #[.int .i64 B, .int .i64 P, .int .i64 C]), (26, 138, .bool true), (27, 139, .bool true), (28, 140, .int .i64 nf), (29, 141, .pointer (some ⟨g3, 2, none⟩)), (30, 142, .int .i64 C), (31, 143, .bool wq), (32, 144, .bool wq), (33, 145, .bool true), (34, 146, .bool true), (35, 2, .bool true)] ∧ (Below w7.heap.size w7 w') ∧ (b 9 = true → so.length ≤ cs ∧ Kd.C k65 w' As so.length so) ∧ (b 11 = true → so.length ≤ cr ∧ Kd.C k65 w' Ar so.length so) ∧ (b 9 = true → (m9_ : Value) = .slice As so.length cs) ∧ (b 11 = true → (m11_ : Value) = .slice Ar so.length cr)) HT_.out HW_.out (by kernel_rfl) (by kernel_rfl) ?_ ?_ ?_
      · exact ⟨none, 0, none, 0, .bool false, .bool false, by simp only [putSel, Bool.false_eq_true, if_false], B0.out, fun h_ => absurd h_ (by decide), fun h_ => absurd h_ (by decide), fun h_ => absurd h_ (by decide), fun h_ => absurd h_ (by decide)⟩
      · skip
        clear B0
        refine steps_cons ?_ ?_
        · rintro b a w' ⟨As, cs, Ar, cr, m9_, m11_, ha, Q_B0, Q_SA, Q_SR, Q_X9_, Q_X11_⟩ hb_ hon hoff
          refine ⟨_, rfl, fun K hK => ?_⟩
          replace ha := Aside0.mk ha
          have B0 := Aside0.mk Q_B0
          refine goes_ Try.func34 (by kernel_rfl) rfl #[] (by rfl) rfl rfl (by first | (simp only [List.map_toArray, List.map_cons, List.map_nil, Act.eval, Array.getD_eq_getD_getElem?, Option.getD_some]; done) | (simp only [List.map_toArray, List.map_cons, List.map_nil, Act.eval, Array.getD_eq_getD_getElem?, Option.getD_some]; rfl)) ?_
          with_reducible refine (awake43_calls w').mono ?_
          rintro e w2 ⟨rfl, hb⟩
          refine ⟨_, rfl, ?_⟩
          refine hK.out _ _ ⟨As, cs, Ar, cr, m9_, m11_, (by rw [ha.out]; exact putSel_upk 0 hb_ rfl rfl rfl), below_then B0.out B0.out.size hb, fun h0_ => absurd ((hoff 9 (by kernel_rfl)).symm.trans h0_) (by decide), fun h0_ => absurd ((hoff 11 (by kernel_rfl)).symm.trans h0_) (by decide), fun h0_ => absurd ((hoff 9 (by kernel_rfl)).symm.trans h0_) (by decide), fun h0_ => absurd ((hoff 11 (by kernel_rfl)).symm.trans h0_) (by decide)⟩
        refine steps_cons ?_ ?_
        · rintro b a w' ⟨As, cs, Ar, cr, m9_, m11_, ha, Q_B0, Q_SA, Q_SR, Q_X9_, Q_X11_⟩ hb_ hon hoff
          refine ⟨_, rfl, fun K hK => ?_⟩
          have e112 : a.tmps[112]? = some (.bool true) := by rw [ha]; exact putSel_on (e := (0, 112, .bool true)) 0 rfl rfl (hon 0 (by kernel_rfl)) rfl
          replace ha := Aside0.mk ha
          have B0 := Aside0.mk Q_B0
          refine value_ (w1 := w') (v := .bool true) (by rfl) rfl ?_ ?_
          · go_simp
            (try simp only [i64_w])
            try rfl
          refine hK.out _ _ ⟨As, cs, Ar, cr, m9_, m11_, (by rw [ha.out]; exact putSel_upk 1 hb_ rfl rfl rfl), Q_B0, fun h0_ => absurd ((hoff 9 (by kernel_rfl)).symm.trans h0_) (by decide), fun h0_ => absurd ((hoff 11 (by kernel_rfl)).symm.trans h0_) (by decide), fun h0_ => absurd ((hoff 9 (by kernel_rfl)).symm.trans h0_) (by decide), fun h0_ => absurd ((hoff 11 (by kernel_rfl)).symm.trans h0_) (by decide)⟩
        refine steps_cons ?_ ?_
        · rintro b a w' ⟨As, cs, Ar, cr, m9_, m11_, ha, Q_B0, Q_SA, Q_SR, Q_X9_, Q_X11_⟩ hb_ hon hoff
          refine ⟨_, rfl, fun K hK => ?_⟩
          have e4 : a.tmps[4]? = some (.slice A l.length cp) := by rw [ha]; exact (putSel_off rfl).trans rfl
          have e113 : a.tmps[113]? = some (.bool true) := by rw [ha]; exact putSel_on (e := (1, 113, .bool true)) 1 rfl rfl (hon 1 (by kernel_rfl)) rfl
          replace ha := Aside0.mk ha
          have B0 := Aside0.mk Q_B0
          refine value_ (w1 := w') (v := .slice A l.length cp) (wanted_on rfl rfl rfl (e113.trans (by first | rfl | (simp [*]; done)))) rfl ?_ ?_
          · go_simp
            (try simp only [i64_w])
            try rfl
          refine hK.out _ _ ⟨As, cs, Ar, cr, m9_, m11_, (by rw [ha.out]; exact putSel_upk 2 hb_ rfl rfl rfl), Q_B0, fun h0_ => absurd ((hoff 9 (by kernel_rfl)).symm.trans h0_) (by decide), fun h0_ => absurd ((hoff 11 (by kernel_rfl)).symm.trans h0_) (by decide), fun h0_ => absurd ((hoff 9 (by kernel_rfl)).symm.trans h0_) (by decide), fun h0_ => absurd ((hoff 11 (by kernel_rfl)).symm.trans h0_) (by decide)⟩
        refine steps_cons ?_ ?_
        · rintro b a w' ⟨As, cs, Ar, cr, m9_, m11_, ha, Q_B0, Q_SA, Q_SR, Q_X9_, Q_X11_⟩ hb_ hon hoff
          refine ⟨_, rfl, fun K hK => ?_⟩
          have e114 : a.tmps[114]? = some (.slice A l.length cp) := by rw [ha]; exact putSel_on (e := (2, 114, .slice A l.length cp)) 2 rfl rfl (hon 2 (by kernel_rfl)) rfl
          have e113 : a.tmps[113]? = some (.bool true) := by rw [ha]; exact putSel_on (e := (1, 113, .bool true)) 1 rfl rfl (hon 1 (by kernel_rfl)) rfl
          replace ha := Aside0.mk ha
          have B0 := Aside0.mk Q_B0
          refine goes_ Try.func38 (by kernel_rfl) rfl #[.slice A l.length cp] (wanted_on rfl rfl rfl (e113.trans rfl)) rfl rfl (by first | (simp only [List.map_toArray, List.map_cons, List.map_nil, Act.eval, Array.getD_eq_getD_getElem?, Option.getD_some, e114, e113]; done) | (simp only [List.map_toArray, List.map_cons, List.map_nil, Act.eval, Array.getD_eq_getD_getElem?, Option.getD_some, e114, e113]; rfl)) ?_
          with_reducible refine (HCK.out _ B0.out).mono ?_
          rintro e w2 ⟨rfl, hb⟩
          refine ⟨_, rfl, ?_⟩
          refine hK.out _ _ ⟨As, cs, Ar, cr, m9_, m11_, (by rw [ha.out]; exact putSel_upk 3 hb_ rfl rfl rfl), below_then B0.out B0.out.size hb, fun h0_ => absurd ((hoff 9 (by kernel_rfl)).symm.trans h0_) (by decide), fun h0_ => absurd ((hoff 11 (by kernel_rfl)).symm.trans h0_) (by decide), fun h0_ => absurd ((hoff 9 (by kernel_rfl)).symm.trans h0_) (by decide), fun h0_ => absurd ((hoff 11 (by kernel_rfl)).symm.trans h0_) (by decide)⟩
        refine steps_cons ?_ ?_
        · rintro b a w' ⟨As, cs, Ar, cr, m9_, m11_, ha, Q_B0, Q_SA, Q_SR, Q_X9_, Q_X11_⟩ hb_ hon hoff
          refine ⟨_, rfl, fun K hK => ?_⟩
          have e7 : a.tmps[7]? = some (.int .i64 ck) := by rw [ha]; exact (putSel_off rfl).trans rfl
          have e113 : a.tmps[113]? = some (.bool true) := by rw [ha]; exact putSel_on (e := (1, 113, .bool true)) 1 rfl rfl (hon 1 (by kernel_rfl)) rfl
          replace ha := Aside0.mk ha
          have B0 := Aside0.mk Q_B0
          refine value_ (w1 := w') (v := .int .i64 ck) (wanted_on rfl rfl rfl (e113.trans (by first | rfl | (simp [*]; done)))) rfl ?_ ?_
          · go_simp
            (try simp only [i64_w])
            try rfl
          refine hK.out _ _ ⟨As, cs, Ar, cr, m9_, m11_, (by rw [ha.out]; exact putSel_upk 4 hb_ rfl rfl rfl), Q_B0, fun h0_ => absurd ((hoff 9 (by kernel_rfl)).symm.trans h0_) (by decide), fun h0_ => absurd ((hoff 11 (by kernel_rfl)).symm.trans h0_) (by decide), fun h0_ => absurd ((hoff 9 (by kernel_rfl)).symm.trans h0_) (by decide), fun h0_ => absurd ((hoff 11 (by kernel_rfl)).symm.trans h0_) (by decide)⟩
        refine steps_cons ?_ ?_
        · rintro b a w' ⟨As, cs, Ar, cr, m9_, m11_, ha, Q_B0, Q_SA, Q_SR, Q_X9_, Q_X11_⟩ hb_ hon hoff
          refine ⟨_, rfl, fun K hK => ?_⟩
          have e115 : a.tmps[115]? = some (.int .i64 ck) := by rw [ha]; exact putSel_on (e := (3, 115, .int .i64 ck)) 3 rfl rfl (hon 3 (by kernel_rfl)) rfl
          have e116 : a.tmps[116]? = some (.int .i64 ck) := by rw [ha]; exact putSel_on (e := (4, 116, .int .i64 ck)) 4 rfl rfl (hon 4 (by kernel_rfl)) rfl
          have e113 : a.tmps[113]? = some (.bool true) := by rw [ha]; exact putSel_on (e := (1, 113, .bool true)) 1 rfl rfl (hon 1 (by kernel_rfl)) rfl
          replace ha := Aside0.mk ha
          have B0 := Aside0.mk Q_B0
          refine value_ (w1 := w') (v := .bool true) (wanted_on rfl rfl rfl (e113.trans (by first | rfl | (simp [*]; done)))) rfl ?_ ?_
          · go_simp
            (try simp only [i64_w])
            try rfl
          refine hK.out _ _ ⟨As, cs, Ar, cr, m9_, m11_, (by rw [ha.out]; exact putSel_upk 5 hb_ rfl rfl rfl), Q_B0, fun h0_ => absurd ((hoff 9 (by kernel_rfl)).symm.trans h0_) (by decide), fun h0_ => absurd ((hoff 11 (by kernel_rfl)).symm.trans h0_) (by decide), fun h0_ => absurd ((hoff 9 (by kernel_rfl)).symm.trans h0_) (by decide), fun h0_ => absurd ((hoff 11 (by kernel_rfl)).symm.trans h0_) (by decide)⟩
        refine steps_cons ?_ ?_
        · rintro b a w' ⟨As, cs, Ar, cr, m9_, m11_, ha, Q_B0, Q_SA, Q_SR, Q_X9_, Q_X11_⟩ hb_ hon hoff
          refine ⟨_, rfl, fun K hK => ?_⟩
          have e113 : a.tmps[113]? = some (.bool true) := by rw [ha]; exact putSel_on (e := (1, 113, .bool true)) 1 rfl rfl (hon 1 (by kernel_rfl)) rfl
          have e117 : a.tmps[117]? = some (.bool true) := by rw [ha]; exact putSel_on (e := (5, 117, .bool true)) 5 rfl rfl (hon 5 (by kernel_rfl)) rfl
          replace ha := Aside0.mk ha
          have B0 := Aside0.mk Q_B0
          refine value_ (w1 := w') (v := .bool true) (by rfl) rfl ?_ ?_
          · go_simp
            (try simp only [i64_w])
            try rfl
          refine hK.out _ _ ⟨As, cs, Ar, cr, m9_, m11_, (by rw [ha.out]; exact putSel_upk 6 hb_ rfl rfl rfl), Q_B0, fun h0_ => absurd ((hoff 9 (by kernel_rfl)).symm.trans h0_) (by decide), fun h0_ => absurd ((hoff 11 (by kernel_rfl)).symm.trans h0_) (by decide), fun h0_ => absurd ((hoff 9 (by kernel_rfl)).symm.trans h0_) (by decide), fun h0_ => absurd ((hoff 11 (by kernel_rfl)).symm.trans h0_) (by decide)⟩
        refine steps_cons ?_ ?_
        · rintro b a w' ⟨As, cs, Ar, cr, m9_, m11_, ha, Q_B0, Q_SA, Q_SR, Q_X9_, Q_X11_⟩ hb_ hon hoff
          refine ⟨_, rfl, fun K hK => ?_⟩
          have e118 : a.tmps[118]? = some (.bool true) := by rw [ha]; exact putSel_on (e := (6, 118, .bool true)) 6 rfl rfl (hon 6 (by kernel_rfl)) rfl
          replace ha := Aside0.mk ha
          have B0 := Aside0.mk Q_B0
          refine value_ (w1 := w') (v := .bool true) (by rfl) rfl ?_ ?_
          · go_simp
            (try simp only [i64_w])
            try rfl
          refine hK.out _ _ ⟨As, cs, Ar, cr, m9_, m11_, (by rw [ha.out]; exact putSel_upk 7 hb_ rfl rfl rfl), Q_B0, fun h0_ => absurd ((hoff 9 (by kernel_rfl)).symm.trans h0_) (by decide), fun h0_ => absurd ((hoff 11 (by kernel_rfl)).symm.trans h0_) (by decide), fun h0_ => absurd ((hoff 9 (by kernel_rfl)).symm.trans h0_) (by decide), fun h0_ => absurd ((hoff 11 (by kernel_rfl)).symm.trans h0_) (by decide)⟩
        refine steps_cons ?_ ?_
        · rintro b a w' ⟨As, cs, Ar, cr, m9_, m11_, ha, Q_B0, Q_SA, Q_SR, Q_X9_, Q_X11_⟩ hb_ hon hoff
          refine ⟨_, rfl, fun K hK => ?_⟩
          have e4 : a.tmps[4]? = some (.slice A l.length cp) := by rw [ha]; exact (putSel_off rfl).trans rfl
          have e119 : a.tmps[119]? = some (.bool true) := by rw [ha]; exact putSel_on (e := (7, 119, .bool true)) 7 rfl rfl (hon 7 (by kernel_rfl)) rfl
          replace ha := Aside0.mk ha
          have B0 := Aside0.mk Q_B0
          refine value_ (w1 := w') (v := .slice A l.length cp) (wanted_on rfl rfl rfl (e119.trans (by first | rfl | (simp [*]; done)))) rfl ?_ ?_
          · go_simp
            (try simp only [i64_w])
            try rfl
          refine hK.out _ _ ⟨As, cs, Ar, cr, m9_, m11_, (by rw [ha.out]; exact putSel_upk 8 hb_ rfl rfl rfl), Q_B0, fun h0_ => absurd ((hoff 9 (by kernel_rfl)).symm.trans h0_) (by decide), fun h0_ => absurd ((hoff 11 (by kernel_rfl)).symm.trans h0_) (by decide), fun h0_ => absurd ((hoff 9 (by kernel_rfl)).symm.trans h0_) (by decide), fun h0_ => absurd ((hoff 11 (by kernel_rfl)).symm.trans h0_) (by decide)⟩
        refine steps_cons ?_ ?_
        · rintro b a w' ⟨As, cs, Ar, cr, m9_, m11_, ha, Q_B0, Q_SA, Q_SR, Q_X9_, Q_X11_⟩ hb_ hon hoff
          refine ⟨_, rfl, fun K hK => ?_⟩
          have e120 : a.tmps[120]? = some (.slice A l.length cp) := by rw [ha]; exact putSel_on (e := (8, 120, .slice A l.length cp)) 8 rfl rfl (hon 8 (by kernel_rfl)) rfl
          have e119 : a.tmps[119]? = some (.bool true) := by rw [ha]; exact putSel_on (e := (7, 119, .bool true)) 7 rfl rfl (hon 7 (by kernel_rfl)) rfl
          replace ha := Aside0.mk ha
          have B0 := Aside0.mk Q_B0
          refine goes_ Try.func40 (by kernel_rfl) rfl #[.slice A l.length cp] (wanted_on rfl rfl rfl (e119.trans rfl)) rfl rfl (by first | (simp only [List.map_toArray, List.map_cons, List.map_nil, Act.eval, Array.getD_eq_getD_getElem?, Option.getD_some, e120, e119]; done) | (simp only [List.map_toArray, List.map_cons, List.map_nil, Act.eval, Array.getD_eq_getD_getElem?, Option.getD_some, e120, e119]; rfl)) ?_
          with_reducible refine (HST.out _ B0.out).mono ?_
          rintro e w2 ⟨A_, c_, rfl, hc_, hb⟩
          refine ⟨_, rfl, ?_⟩
          refine hK.out _ _ ⟨A_, c_, Ar, cr, (.slice A_ so.length c_), m11_, (by rw [ha.out]; exact putSel_upk 9 hb_ rfl rfl rfl), below_then B0.out B0.out.size hb, fun _ => hc_, fun h0_ => absurd ((hoff 11 (by kernel_rfl)).symm.trans h0_) (by decide), fun _ => rfl, fun h0_ => absurd ((hoff 11 (by kernel_rfl)).symm.trans h0_) (by decide)⟩
        refine steps_cons ?_ ?_
        · rintro b a w' ⟨As, cs, Ar, cr, m9_, m11_, ha, Q_B0, Q_SA, Q_SR, Q_X9_, Q_X11_⟩ hb_ hon hoff
          refine ⟨_, rfl, fun K hK => ?_⟩
          have e4 : a.tmps[4]? = some (.slice A l.length cp) := by rw [ha]; exact (putSel_off rfl).trans rfl
          have e119 : a.tmps[119]? = some (.bool true) := by rw [ha]; exact putSel_on (e := (7, 119, .bool true)) 7 rfl rfl (hon 7 (by kernel_rfl)) rfl
          replace ha := Aside0.mk ha
          have B0 := Aside0.mk Q_B0
          refine value_ (w1 := w') (v := .slice A l.length cp) (wanted_on rfl rfl rfl (e119.trans (by first | rfl | (simp [*]; done)))) rfl ?_ ?_
          · go_simp
            (try simp only [i64_w])
            try rfl
          refine hK.out _ _ ⟨As, cs, Ar, cr, m9_, m11_, (by rw [ha.out]; exact putSel_upk 10 hb_ rfl rfl rfl), Q_B0, Q_SA, fun h0_ => absurd ((hoff 11 (by kernel_rfl)).symm.trans h0_) (by decide), Q_X9_, fun h0_ => absurd ((hoff 11 (by kernel_rfl)).symm.trans h0_) (by decide)⟩
        refine steps_cons ?_ ?_
        · rintro b a w' ⟨As, cs, Ar, cr, m9_, m11_, ha, Q_B0, Q_SA, Q_SR, Q_X9_, Q_X11_⟩ hb_ hon hoff
          refine ⟨_, rfl, fun K hK => ?_⟩
          have e122 : a.tmps[122]? = some (.slice A l.length cp) := by rw [ha]; exact putSel_on (e := (10, 122, .slice A l.length cp)) 10 rfl rfl (hon 10 (by kernel_rfl)) rfl
          have e119 : a.tmps[119]? = some (.bool true) := by rw [ha]; exact putSel_on (e := (7, 119, .bool true)) 7 rfl rfl (hon 7 (by kernel_rfl)) rfl
          replace ha := Aside0.mk ha
          have B0 := Aside0.mk Q_B0
          have SA := Aside0.mk (Q_SA (hon 9 (by kernel_rfl)))
          refine goes_ Try.func41 (by kernel_rfl) rfl #[.slice A l.length cp] (wanted_on rfl rfl rfl (e119.trans rfl)) rfl rfl (by first | (simp only [List.map_toArray, List.map_cons, List.map_nil, Act.eval, Array.getD_eq_getD_getElem?, Option.getD_some, e122, e119]; done) | (simp only [List.map_toArray, List.map_cons, List.map_nil, Act.eval, Array.getD_eq_getD_getElem?, Option.getD_some, e122, e119]; rfl)) ?_
          with_reducible refine (HRS.out _ B0.out).mono ?_
          rintro e w2 ⟨A_, c_, rfl, hc_, hb⟩
          refine ⟨_, rfl, ?_⟩
          refine hK.out _ _ ⟨As, cs, A_, c_, m9_, (.slice A_ so.length c_), (by rw [ha.out]; exact putSel_upk 11 hb_ rfl rfl rfl), below_then B0.out B0.out.size hb, fun _ => ⟨SA.out.1, Kd.C_below SA.out.2 hb⟩, fun _ => hc_, Q_X9_, fun _ => rfl⟩
        refine steps_cons ?_ ?_
        · rintro b a w' ⟨As, cs, Ar, cr, m9_, m11_, ha, Q_B0, Q_SA, Q_SR, Q_X9_, Q_X11_⟩ hb_ hon hoff
          refine ⟨_, rfl, fun K hK => ?_⟩
          have e121 : a.tmps[121]? = some (m9_) := by rw [ha]; exact putSel_on (e := (9, 121, m9_)) 9 rfl rfl (hon 9 (by kernel_rfl)) rfl
          rw [Q_X9_ (hon 9 (by kernel_rfl))] at e121
          have e123 : a.tmps[123]? = some (m11_) := by rw [ha]; exact putSel_on (e := (11, 123, m11_)) 11 rfl rfl (hon 11 (by kernel_rfl)) rfl
          rw [Q_X11_ (hon 11 (by kernel_rfl))] at e123
          have e119 : a.tmps[119]? = some (.bool true) := by rw [ha]; exact putSel_on (e := (7, 119, .bool true)) 7 rfl rfl (hon 7 (by kernel_rfl)) rfl
          replace ha := Aside0.mk ha
          have B0 := Aside0.mk Q_B0
          have SA := Aside0.mk (Q_SA (hon 9 (by kernel_rfl)))
          have SR := Aside0.mk (Q_SR (hon 11 (by kernel_rfl)))
          refine goes_ Try.func39 (by kernel_rfl) rfl #[.slice As so.length cs, .slice Ar so.length cr] (wanted_on rfl rfl rfl (e119.trans rfl)) rfl rfl (by first | (simp only [List.map_toArray, List.map_cons, List.map_nil, Act.eval, Array.getD_eq_getD_getElem?, Option.getD_some, e121, e123, e119]; done) | (simp only [List.map_toArray, List.map_cons, List.map_nil, Act.eval, Array.getD_eq_getD_getElem?, Option.getD_some, e121, e123, e119]; rfl)) ?_
          with_reducible refine (HSA.out _ _ _ _ _ SA.out SR.out).mono ?_
          rintro e w2 ⟨rfl, hb⟩
          refine ⟨_, rfl, ?_⟩
          refine hK.out _ _ ⟨As, cs, Ar, cr, m9_, m11_, (by rw [ha.out]; exact putSel_upk 12 hb_ rfl rfl rfl), below_then B0.out B0.out.size hb, fun _ => ⟨SA.out.1, Kd.C_below SA.out.2 hb⟩, fun _ => ⟨SR.out.1, Kd.C_below SR.out.2 hb⟩, Q_X9_, Q_X11_⟩
        refine steps_cons ?_ ?_
        · rintro b a w' ⟨As, cs, Ar, cr, m9_, m11_, ha, Q_B0, Q_SA, Q_SR, Q_X9_, Q_X11_⟩ hb_ hon hoff
          refine ⟨_, rfl, fun K hK => ?_⟩
          have e119 : a.tmps[119]? = some (.bool true) := by rw [ha]; exact putSel_on (e := (7, 119, .bool true)) 7 rfl rfl (hon 7 (by kernel_rfl)) rfl
          have e124 : a.tmps[124]? = some (.bool true) := by rw [ha]; exact putSel_on (e := (12, 124, .bool true)) 12 rfl rfl (hon 12 (by kernel_rfl)) rfl
          replace ha := Aside0.mk ha
          have B0 := Aside0.mk Q_B0
          have SA := Aside0.mk (Q_SA (hon 9 (by kernel_rfl)))
          have SR := Aside0.mk (Q_SR (hon 11 (by kernel_rfl)))
          refine value_ (w1 := w') (v := .bool true) (by rfl) rfl ?_ ?_
          · go_simp
            (try simp only [i64_w])
            try rfl
          refine hK.out _ _ ⟨As, cs, Ar, cr, m9_, m11_, (by rw [ha.out]; exact putSel_upk 13 hb_ rfl rfl rfl), Q_B0, Q_SA, Q_SR, Q_X9_, Q_X11_⟩
        refine steps_cons ?_ ?_
        · rintro b a w' ⟨As, cs, Ar, cr, m9_, m11_, ha, Q_B0, Q_SA, Q_SR, Q_X9_, Q_X11_⟩ hb_ hon hoff
          refine ⟨_, rfl, fun K hK => ?_⟩
          have e125 : a.tmps[125]? = some (.bool true) := by rw [ha]; exact putSel_on (e := (13, 125, .bool true)) 13 rfl rfl (hon 13 (by kernel_rfl)) rfl
          replace ha := Aside0.mk ha
          have B0 := Aside0.mk Q_B0
          have SA := Aside0.mk (Q_SA (hon 9 (by kernel_rfl)))
          have SR := Aside0.mk (Q_SR (hon 11 (by kernel_rfl)))
          refine value_ (w1 := w') (v := .bool true) (by rfl) rfl ?_ ?_
          · go_simp
            (try simp only [i64_w])
            try rfl
          refine hK.out _ _ ⟨As, cs, Ar, cr, m9_, m11_, (by rw [ha.out]; exact putSel_upk 14 hb_ rfl rfl rfl), Q_B0, Q_SA, Q_SR, Q_X9_, Q_X11_⟩
        refine steps_cons ?_ ?_
        · rintro b a w' ⟨As, cs, Ar, cr, m9_, m11_, ha, Q_B0, Q_SA, Q_SR, Q_X9_, Q_X11_⟩ hb_ hon hoff
          refine ⟨_, rfl, fun K hK => ?_⟩
          have e4 : a.tmps[4]? = some (.slice A l.length cp) := by rw [ha]; exact (putSel_off rfl).trans rfl
          have e126 : a.tmps[126]? = some (.bool true) := by rw [ha]; exact putSel_on (e := (14, 126, .bool true)) 14 rfl rfl (hon 14 (by kernel_rfl)) rfl
          replace ha := Aside0.mk ha
          have B0 := Aside0.mk Q_B0
          have SA := Aside0.mk (Q_SA (hon 9 (by kernel_rfl)))
          have SR := Aside0.mk (Q_SR (hon 11 (by kernel_rfl)))
          refine value_ (w1 := w') (v := .slice A l.length cp) (wanted_on rfl rfl rfl (e126.trans (by first | rfl | (simp [*]; done)))) rfl ?_ ?_
          · go_simp
            (try simp only [i64_w])
            try rfl
          refine hK.out _ _ ⟨As, cs, Ar, cr, m9_, m11_, (by rw [ha.out]; exact putSel_upk 15 hb_ rfl rfl rfl), Q_B0, Q_SA, Q_SR, Q_X9_, Q_X11_⟩
        refine steps_cons ?_ ?_
        · rintro b a w' ⟨As, cs, Ar, cr, m9_, m11_, ha, Q_B0, Q_SA, Q_SR, Q_X9_, Q_X11_⟩ hb_ hon hoff
          refine ⟨_, rfl, fun K hK => ?_⟩
          have e6 : a.tmps[6]? = some (.int .i64 kd) := by rw [ha]; exact (putSel_off rfl).trans rfl
          have e126 : a.tmps[126]? = some (.bool true) := by rw [ha]; exact putSel_on (e := (14, 126, .bool true)) 14 rfl rfl (hon 14 (by kernel_rfl)) rfl
          replace ha := Aside0.mk ha
          have B0 := Aside0.mk Q_B0
          have SA := Aside0.mk (Q_SA (hon 9 (by kernel_rfl)))
          have SR := Aside0.mk (Q_SR (hon 11 (by kernel_rfl)))
          refine value_ (w1 := w') (v := .int .i64 kd) (wanted_on rfl rfl rfl (e126.trans (by first | rfl | (simp [*]; done)))) rfl ?_ ?_
          · go_simp
            (try simp only [i64_w])
            try rfl
          refine hK.out _ _ ⟨As, cs, Ar, cr, m9_, m11_, (by rw [ha.out]; exact putSel_upk 16 hb_ rfl rfl rfl), Q_B0, Q_SA, Q_SR, Q_X9_, Q_X11_⟩
        refine steps_cons ?_ ?_
        · rintro b a w' ⟨As, cs, Ar, cr, m9_, m11_, ha, Q_B0, Q_SA, Q_SR, Q_X9_, Q_X11_⟩ hb_ hon hoff
          refine ⟨_, rfl, fun K hK => ?_⟩
          have e127 : a.tmps[127]? = some (.slice A l.length cp) := by rw [ha]; exact putSel_on (e := (15, 127, .slice A l.length cp)) 15 rfl rfl (hon 15 (by kernel_rfl)) rfl
          have e128 : a.tmps[128]? = some (.int .i64 kd) := by rw [ha]; exact putSel_on (e := (16, 128, .int .i64 kd)) 16 rfl rfl (hon 16 (by kernel_rfl)) rfl
          have e126 : a.tmps[126]? = some (.bool true) := by rw [ha]; exact putSel_on (e := (14, 126, .bool true)) 14 rfl rfl (hon 14 (by kernel_rfl)) rfl
          replace ha := Aside0.mk ha
          have B0 := Aside0.mk Q_B0
          have SA := Aside0.mk (Q_SA (hon 9 (by kernel_rfl)))
          have SR := Aside0.mk (Q_SR (hon 11 (by kernel_rfl)))
          refine goes_ Try.func42 (by kernel_rfl) rfl #[.slice A l.length cp, .int .i64 kd] (wanted_on rfl rfl rfl (e126.trans rfl)) rfl rfl (by first | (simp only [List.map_toArray, List.map_cons, List.map_nil, Act.eval, Array.getD_eq_getD_getElem?, Option.getD_some, e127, e128, e126]; done) | (simp only [List.map_toArray, List.map_cons, List.map_nil, Act.eval, Array.getD_eq_getD_getElem?, Option.getD_some, e127, e128, e126]; rfl)) ?_
          with_reducible refine (HCT.out _ B0.out).mono ?_
          rintro e w2 ⟨rfl, hb⟩
          refine ⟨_, rfl, ?_⟩
          refine hK.out _ _ ⟨As, cs, Ar, cr, m9_, m11_, (by rw [ha.out]; exact putSel_upk 17 hb_ rfl rfl rfl), below_then B0.out B0.out.size hb, fun _ => ⟨SA.out.1, Kd.C_below SA.out.2 hb⟩, fun _ => ⟨SR.out.1, Kd.C_below SR.out.2 hb⟩, Q_X9_, Q_X11_⟩
        refine steps_cons ?_ ?_
        · rintro b a w' ⟨As, cs, Ar, cr, m9_, m11_, ha, Q_B0, Q_SA, Q_SR, Q_X9_, Q_X11_⟩ hb_ hon hoff
          refine ⟨_, rfl, fun K hK => ?_⟩
          have e8 : a.tmps[8]? = some (.int .i64 nk) := by rw [ha]; exact (putSel_off rfl).trans rfl
          have e126 : a.tmps[126]? = some (.bool true) := by rw [ha]; exact putSel_on (e := (14, 126, .bool true)) 14 rfl rfl (hon 14 (by kernel_rfl)) rfl
          replace ha := Aside0.mk ha
          have B0 := Aside0.mk Q_B0
          have SA := Aside0.mk (Q_SA (hon 9 (by kernel_rfl)))
          have SR := Aside0.mk (Q_SR (hon 11 (by kernel_rfl)))
          refine value_ (w1 := w') (v := .int .i64 nk) (wanted_on rfl rfl rfl (e126.trans (by first | rfl | (simp [*]; done)))) rfl ?_ ?_
          · go_simp
            (try simp only [i64_w])
            try rfl
          refine hK.out _ _ ⟨As, cs, Ar, cr, m9_, m11_, (by rw [ha.out]; exact putSel_upk 18 hb_ rfl rfl rfl), Q_B0, Q_SA, Q_SR, Q_X9_, Q_X11_⟩
        refine steps_cons ?_ ?_
        · rintro b a w' ⟨As, cs, Ar, cr, m9_, m11_, ha, Q_B0, Q_SA, Q_SR, Q_X9_, Q_X11_⟩ hb_ hon hoff
          refine ⟨_, rfl, fun K hK => ?_⟩
          have e129 : a.tmps[129]? = some (.int .i64 nk) := by rw [ha]; exact putSel_on (e := (17, 129, .int .i64 nk)) 17 rfl rfl (hon 17 (by kernel_rfl)) rfl
          have e130 : a.tmps[130]? = some (.int .i64 nk) := by rw [ha]; exact putSel_on (e := (18, 130, .int .i64 nk)) 18 rfl rfl (hon 18 (by kernel_rfl)) rfl
          have e126 : a.tmps[126]? = some (.bool true) := by rw [ha]; exact putSel_on (e := (14, 126, .bool true)) 14 rfl rfl (hon 14 (by kernel_rfl)) rfl
          replace ha := Aside0.mk ha
          have B0 := Aside0.mk Q_B0
          have SA := Aside0.mk (Q_SA (hon 9 (by kernel_rfl)))
          have SR := Aside0.mk (Q_SR (hon 11 (by kernel_rfl)))
          refine value_ (w1 := w') (v := .bool true) (wanted_on rfl rfl rfl (e126.trans (by first | rfl | (simp [*]; done)))) rfl ?_ ?_
          · go_simp
            (try simp only [i64_w])
            try rfl
          refine hK.out _ _ ⟨As, cs, Ar, cr, m9_, m11_, (by rw [ha.out]; exact putSel_upk 19 hb_ rfl rfl rfl), Q_B0, Q_SA, Q_SR, Q_X9_, Q_X11_⟩
        refine steps_cons ?_ ?_
        · rintro b a w' ⟨As, cs, Ar, cr, m9_, m11_, ha, Q_B0, Q_SA, Q_SR, Q_X9_, Q_X11_⟩ hb_ hon hoff
          refine ⟨_, rfl, fun K hK => ?_⟩
          have e126 : a.tmps[126]? = some (.bool true) := by rw [ha]; exact putSel_on (e := (14, 126, .bool true)) 14 rfl rfl (hon 14 (by kernel_rfl)) rfl
          have e131 : a.tmps[131]? = some (.bool true) := by rw [ha]; exact putSel_on (e := (19, 131, .bool true)) 19 rfl rfl (hon 19 (by kernel_rfl)) rfl
          replace ha := Aside0.mk ha
          have B0 := Aside0.mk Q_B0
          have SA := Aside0.mk (Q_SA (hon 9 (by kernel_rfl)))
          have SR := Aside0.mk (Q_SR (hon 11 (by kernel_rfl)))
          refine value_ (w1 := w') (v := .bool true) (by rfl) rfl ?_ ?_
          · go_simp
            (try simp only [i64_w])
            try rfl
          refine hK.out _ _ ⟨As, cs, Ar, cr, m9_, m11_, (by rw [ha.out]; exact putSel_upk 20 hb_ rfl rfl rfl), Q_B0, Q_SA, Q_SR, Q_X9_, Q_X11_⟩
        refine steps_cons ?_ ?_
        · rintro b a w' ⟨As, cs, Ar, cr, m9_, m11_, ha, Q_B0, Q_SA, Q_SR, Q_X9_, Q_X11_⟩ hb_ hon hoff
          refine ⟨_, rfl, fun K hK => ?_⟩
          have e132 : a.tmps[132]? = some (.bool true) := by rw [ha]; exact putSel_on (e := (20, 132, .bool true)) 20 rfl rfl (hon 20 (by kernel_rfl)) rfl
          replace ha := Aside0.mk ha
          have B0 := Aside0.mk Q_B0
          have SA := Aside0.mk (Q_SA (hon 9 (by kernel_rfl)))
          have SR := Aside0.mk (Q_SR (hon 11 (by kernel_rfl)))
          refine value_ (w1 := w') (v := .bool true) (by rfl) rfl ?_ ?_
          · go_simp
            (try simp only [i64_w])
            try rfl
          refine hK.out _ _ ⟨As, cs, Ar, cr, m9_, m11_, (by rw [ha.out]; exact putSel_upk 21 hb_ rfl rfl rfl), Q_B0, Q_SA, Q_SR, Q_X9_, Q_X11_⟩
        refine steps_cons ?_ ?_
        · rintro b a w' ⟨As, cs, Ar, cr, m9_, m11_, ha, Q_B0, Q_SA, Q_SR, Q_X9_, Q_X11_⟩ hb_ hon hoff
          refine ⟨_, rfl, fun K hK => ?_⟩
          have e3 : a.tmps[3]? = some (.pointer (some ⟨g3, 0, none⟩)) := by rw [ha]; exact (putSel_off rfl).trans rfl
          have e133 : a.tmps[133]? = some (.bool true) := by rw [ha]; exact putSel_on (e := (21, 133, .bool true)) 21 rfl rfl (hon 21 (by kernel_rfl)) rfl
          replace ha := Aside0.mk ha
          have B0 := Aside0.mk Q_B0
          have SA := Aside0.mk (Q_SA (hon 9 (by kernel_rfl)))
          have SR := Aside0.mk (Q_SR (hon 11 (by kernel_rfl)))
          have c0_ := blk_cell (blk_below HZ7.out B0.out) 0
          have c1_ := blk_cell (blk_below HZ7.out B0.out) 1
          have c2_ := blk_cell (blk_below HZ7.out B0.out) 2
          refine value_ (w1 := w') (v := .agg #[.int .i64 B, .int .i64 P, .int .i64 C]) (wanted_on rfl rfl rfl (e133.trans (by first | rfl | (simp [*]; done)))) rfl ?_ ?_
          · go_simp
            (try simp only [i64_w])
            try rfl
          refine hK.out _ _ ⟨As, cs, Ar, cr, m9_, m11_, (by rw [ha.out]; exact putSel_upk 22 hb_ rfl rfl rfl), Q_B0, Q_SA, Q_SR, Q_X9_, Q_X11_⟩
        refine steps_cons ?_ ?_
        · rintro b a w' ⟨As, cs, Ar, cr, m9_, m11_, ha, Q_B0, Q_SA, Q_SR, Q_X9_, Q_X11_⟩ hb_ hon hoff
          refine ⟨_, rfl, fun K hK => ?_⟩
          have e4 : a.tmps[4]? = some (.slice A l.length cp) := by rw [ha]; exact (putSel_off rfl).trans rfl
          have e133 : a.tmps[133]? = some (.bool true) := by rw [ha]; exact putSel_on (e := (21, 133, .bool true)) 21 rfl rfl (hon 21 (by kernel_rfl)) rfl
          replace ha := Aside0.mk ha
          have B0 := Aside0.mk Q_B0
          have SA := Aside0.mk (Q_SA (hon 9 (by kernel_rfl)))
          have SR := Aside0.mk (Q_SR (hon 11 (by kernel_rfl)))
          refine value_ (w1 := w') (v := .slice A l.length cp) (wanted_on rfl rfl rfl (e133.trans (by first | rfl | (simp [*]; done)))) rfl ?_ ?_
          · go_simp
            (try simp only [i64_w])
            try rfl
          refine hK.out _ _ ⟨As, cs, Ar, cr, m9_, m11_, (by rw [ha.out]; exact putSel_upk 23 hb_ rfl rfl rfl), Q_B0, Q_SA, Q_SR, Q_X9_, Q_X11_⟩
        refine steps_cons ?_ ?_
        · rintro b a w' ⟨As, cs, Ar, cr, m9_, m11_, ha, Q_B0, Q_SA, Q_SR, Q_X9_, Q_X11_⟩ hb_ hon hoff
          refine ⟨_, rfl, fun K hK => ?_⟩
          have e134 : a.tmps[134]? = some (.agg #[.int .i64 B, .int .i64 P, .int .i64 C]) := by rw [ha]; exact putSel_on (e := (22, 134, .agg #[.int .i64 B, .int .i64 P, .int .i64 C])) 22 rfl rfl (hon 22 (by kernel_rfl)) rfl
          have e135 : a.tmps[135]? = some (.slice A l.length cp) := by rw [ha]; exact putSel_on (e := (23, 135, .slice A l.length cp)) 23 rfl rfl (hon 23 (by kernel_rfl)) rfl
          have e133 : a.tmps[133]? = some (.bool true) := by rw [ha]; exact putSel_on (e := (21, 133, .bool true)) 21 rfl rfl (hon 21 (by kernel_rfl)) rfl
          replace ha := Aside0.mk ha
          have B0 := Aside0.mk Q_B0
          have SA := Aside0.mk (Q_SA (hon 9 (by kernel_rfl)))
          have SR := Aside0.mk (Q_SR (hon 11 (by kernel_rfl)))
          refine goes_ Try.func43 (by kernel_rfl) rfl #[.agg #[.int .i64 B, .int .i64 P, .int .i64 C], .slice A l.length cp] (wanted_on rfl rfl rfl (e133.trans rfl)) rfl rfl (by first | (simp only [List.map_toArray, List.map_cons, List.map_nil, Act.eval, Array.getD_eq_getD_getElem?, Option.getD_some, e134, e135, e133]; done) | (simp only [List.map_toArray, List.map_cons, List.map_nil, Act.eval, Array.getD_eq_getD_getElem?, Option.getD_some, e134, e135, e133]; rfl)) ?_
          with_reducible refine (HWI.out _ B0.out).mono ?_
          rintro e w2 ⟨rfl, hb⟩
          refine ⟨_, rfl, ?_⟩
          refine hK.out _ _ ⟨As, cs, Ar, cr, m9_, m11_, (by rw [ha.out]; exact putSel_upk 24 hb_ rfl rfl rfl), below_then B0.out B0.out.size hb, fun _ => ⟨SA.out.1, Kd.C_below SA.out.2 hb⟩, fun _ => ⟨SR.out.1, Kd.C_below SR.out.2 hb⟩, Q_X9_, Q_X11_⟩
        refine steps_cons ?_ ?_
        · rintro b a w' ⟨As, cs, Ar, cr, m9_, m11_, ha, Q_B0, Q_SA, Q_SR, Q_X9_, Q_X11_⟩ hb_ hon hoff
          refine ⟨_, rfl, fun K hK => ?_⟩
          have e3 : a.tmps[3]? = some (.pointer (some ⟨g3, 0, none⟩)) := by rw [ha]; exact (putSel_off rfl).trans rfl
          have e133 : a.tmps[133]? = some (.bool true) := by rw [ha]; exact putSel_on (e := (21, 133, .bool true)) 21 rfl rfl (hon 21 (by kernel_rfl)) rfl
          replace ha := Aside0.mk ha
          have B0 := Aside0.mk Q_B0
          have SA := Aside0.mk (Q_SA (hon 9 (by kernel_rfl)))
          have SR := Aside0.mk (Q_SR (hon 11 (by kernel_rfl)))
          have c0_ := blk_cell (blk_below HZ7.out B0.out) 0
          have c1_ := blk_cell (blk_below HZ7.out B0.out) 1
          have c2_ := blk_cell (blk_below HZ7.out B0.out) 2
          refine value_ (w1 := w') (v := .agg #[.int .i64 B, .int .i64 P, .int .i64 C]) (wanted_on rfl rfl rfl (e133.trans (by first | rfl | (simp [*]; done)))) rfl ?_ ?_
          · go_simp
            (try simp only [i64_w])
            try rfl
          refine hK.out _ _ ⟨As, cs, Ar, cr, m9_, m11_, (by rw [ha.out]; exact putSel_upk 25 hb_ rfl rfl rfl), Q_B0, Q_SA, Q_SR, Q_X9_, Q_X11_⟩
        refine steps_cons ?_ ?_
        · rintro b a w' ⟨As, cs, Ar, cr, m9_, m11_, ha, Q_B0, Q_SA, Q_SR, Q_X9_, Q_X11_⟩ hb_ hon hoff
          refine ⟨_, rfl, fun K hK => ?_⟩
          have e137 : a.tmps[137]? = some (.agg #[.int .i64 B, .int .i64 P, .int .i64 C]) := by rw [ha]; exact putSel_on (e := (25, 137, .agg #[.int .i64 B, .int .i64 P, .int .i64 C])) 25 rfl rfl (hon 25 (by kernel_rfl)) rfl
          have e133 : a.tmps[133]? = some (.bool true) := by rw [ha]; exact putSel_on (e := (21, 133, .bool true)) 21 rfl rfl (hon 21 (by kernel_rfl)) rfl
          replace ha := Aside0.mk ha
          have B0 := Aside0.mk Q_B0
          have SA := Aside0.mk (Q_SA (hon 9 (by kernel_rfl)))
          have SR := Aside0.mk (Q_SR (hon 11 (by kernel_rfl)))
          refine goes_ Try.func12 (by kernel_rfl) rfl #[.agg #[.int .i64 B, .int .i64 P, .int .i64 C]] (wanted_on rfl rfl rfl (e133.trans rfl)) rfl rfl (by first | (simp only [List.map_toArray, List.map_cons, List.map_nil, Act.eval, Array.getD_eq_getD_getElem?, Option.getD_some, e137, e133]; done) | (simp only [List.map_toArray, List.map_cons, List.map_nil, Act.eval, Array.getD_eq_getD_getElem?, Option.getD_some, e137, e133]; rfl)) ?_
          with_reducible refine (HRI.out w').mono ?_
          rintro e w2 ⟨rfl, hb⟩
          refine ⟨_, rfl, ?_⟩
          refine hK.out _ _ ⟨As, cs, Ar, cr, m9_, m11_, (by rw [ha.out]; exact putSel_upk 26 hb_ rfl rfl rfl), below_then B0.out B0.out.size hb, fun _ => ⟨SA.out.1, Kd.C_below SA.out.2 hb⟩, fun _ => ⟨SR.out.1, Kd.C_below SR.out.2 hb⟩, Q_X9_, Q_X11_⟩
        refine steps_cons ?_ ?_
        · rintro b a w' ⟨As, cs, Ar, cr, m9_, m11_, ha, Q_B0, Q_SA, Q_SR, Q_X9_, Q_X11_⟩ hb_ hon hoff
          refine ⟨_, rfl, fun K hK => ?_⟩
          have e138 : a.tmps[138]? = some (.bool true) := by rw [ha]; exact putSel_on (e := (26, 138, .bool true)) 26 rfl rfl (hon 26 (by kernel_rfl)) rfl
          have e133 : a.tmps[133]? = some (.bool true) := by rw [ha]; exact putSel_on (e := (21, 133, .bool true)) 21 rfl rfl (hon 21 (by kernel_rfl)) rfl
          replace ha := Aside0.mk ha
          have B0 := Aside0.mk Q_B0
          have SA := Aside0.mk (Q_SA (hon 9 (by kernel_rfl)))
          have SR := Aside0.mk (Q_SR (hon 11 (by kernel_rfl)))
          refine value_ (w1 := w') (v := .bool true) (wanted_on rfl rfl rfl (e133.trans (by first | rfl | (simp [*]; done)))) rfl ?_ ?_
          · go_simp
            (try simp only [i64_w])
            try rfl
          refine hK.out _ _ ⟨As, cs, Ar, cr, m9_, m11_, (by rw [ha.out]; exact putSel_upk 27 hb_ rfl rfl rfl), Q_B0, Q_SA, Q_SR, Q_X9_, Q_X11_⟩
        refine steps_cons ?_ ?_
        · rintro b a w' ⟨As, cs, Ar, cr, m9_, m11_, ha, Q_B0, Q_SA, Q_SR, Q_X9_, Q_X11_⟩ hb_ hon hoff
          refine ⟨_, rfl, fun K hK => ?_⟩
          have e9 : a.tmps[9]? = some (.int .i64 nf) := by rw [ha]; exact (putSel_off rfl).trans rfl
          have e139 : a.tmps[139]? = some (.bool true) := by rw [ha]; exact putSel_on (e := (27, 139, .bool true)) 27 rfl rfl (hon 27 (by kernel_rfl)) rfl
          replace ha := Aside0.mk ha
          have B0 := Aside0.mk Q_B0
          have SA := Aside0.mk (Q_SA (hon 9 (by kernel_rfl)))
          have SR := Aside0.mk (Q_SR (hon 11 (by kernel_rfl)))
          refine value_ (w1 := w') (v := .int .i64 nf) (wanted_on rfl rfl rfl (e139.trans (by first | rfl | (simp [*]; done)))) rfl ?_ ?_
          · go_simp
            (try simp only [i64_w])
            try rfl
          refine hK.out _ _ ⟨As, cs, Ar, cr, m9_, m11_, (by rw [ha.out]; exact putSel_upk 28 hb_ rfl rfl rfl), Q_B0, Q_SA, Q_SR, Q_X9_, Q_X11_⟩
        refine steps_cons ?_ ?_
        · rintro b a w' ⟨As, cs, Ar, cr, m9_, m11_, ha, Q_B0, Q_SA, Q_SR, Q_X9_, Q_X11_⟩ hb_ hon hoff
          refine ⟨_, rfl, fun K hK => ?_⟩
          have e3 : a.tmps[3]? = some (.pointer (some ⟨g3, 0, none⟩)) := by rw [ha]; exact (putSel_off rfl).trans rfl
          have e139 : a.tmps[139]? = some (.bool true) := by rw [ha]; exact putSel_on (e := (27, 139, .bool true)) 27 rfl rfl (hon 27 (by kernel_rfl)) rfl
          replace ha := Aside0.mk ha
          have B0 := Aside0.mk Q_B0
          have SA := Aside0.mk (Q_SA (hon 9 (by kernel_rfl)))
          have SR := Aside0.mk (Q_SR (hon 11 (by kernel_rfl)))
          refine value_ (w1 := w') (v := .pointer (some ⟨g3, 2, none⟩)) (wanted_on rfl rfl rfl (e139.trans (by first | rfl | (simp [*]; done)))) rfl ?_ ?_
          · go_simp
            (try simp only [i64_w])
            try rfl
          refine hK.out _ _ ⟨As, cs, Ar, cr, m9_, m11_, (by rw [ha.out]; exact putSel_upk 29 hb_ rfl rfl rfl), Q_B0, Q_SA, Q_SR, Q_X9_, Q_X11_⟩
        refine steps_cons ?_ ?_
        · rintro b a w' ⟨As, cs, Ar, cr, m9_, m11_, ha, Q_B0, Q_SA, Q_SR, Q_X9_, Q_X11_⟩ hb_ hon hoff
          refine ⟨_, rfl, fun K hK => ?_⟩
          have e141 : a.tmps[141]? = some (.pointer (some ⟨g3, 2, none⟩)) := by rw [ha]; exact putSel_on (e := (29, 141, .pointer (some ⟨g3, 2, none⟩))) 29 rfl rfl (hon 29 (by kernel_rfl)) rfl
          have e139 : a.tmps[139]? = some (.bool true) := by rw [ha]; exact putSel_on (e := (27, 139, .bool true)) 27 rfl rfl (hon 27 (by kernel_rfl)) rfl
          replace ha := Aside0.mk ha
          have B0 := Aside0.mk Q_B0
          have SA := Aside0.mk (Q_SA (hon 9 (by kernel_rfl)))
          have SR := Aside0.mk (Q_SR (hon 11 (by kernel_rfl)))
          have c0_ := blk_cell (blk_below HZ7.out B0.out) 2
          refine value_ (w1 := w') (v := .int .i64 C) (wanted_on rfl rfl rfl (e139.trans (by first | rfl | (simp [*]; done)))) rfl ?_ ?_
          · go_simp
            (try simp only [i64_w])
            try rfl
          refine hK.out _ _ ⟨As, cs, Ar, cr, m9_, m11_, (by rw [ha.out]; exact putSel_upk 30 hb_ rfl rfl rfl), Q_B0, Q_SA, Q_SR, Q_X9_, Q_X11_⟩
        refine steps_cons ?_ ?_
        · rintro b a w' ⟨As, cs, Ar, cr, m9_, m11_, ha, Q_B0, Q_SA, Q_SR, Q_X9_, Q_X11_⟩ hb_ hon hoff
          refine ⟨_, rfl, fun K hK => ?_⟩
          have e140 : a.tmps[140]? = some (.int .i64 nf) := by rw [ha]; exact putSel_on (e := (28, 140, .int .i64 nf)) 28 rfl rfl (hon 28 (by kernel_rfl)) rfl
          have e142 : a.tmps[142]? = some (.int .i64 C) := by rw [ha]; exact putSel_on (e := (30, 142, .int .i64 C)) 30 rfl rfl (hon 30 (by kernel_rfl)) rfl
          have e139 : a.tmps[139]? = some (.bool true) := by rw [ha]; exact putSel_on (e := (27, 139, .bool true)) 27 rfl rfl (hon 27 (by kernel_rfl)) rfl
          replace ha := Aside0.mk ha
          have B0 := Aside0.mk Q_B0
          have SA := Aside0.mk (Q_SA (hon 9 (by kernel_rfl)))
          have SR := Aside0.mk (Q_SR (hon 11 (by kernel_rfl)))
          have q_ := HWQ.out
          refine value_ (w1 := w') (v := .bool wq) (wanted_on rfl rfl rfl (e139.trans (by first | rfl | (simp [*]; done)))) rfl ?_ ?_
          · go_simp
            (try simp only [i64_w])
            try rfl
          refine hK.out _ _ ⟨As, cs, Ar, cr, m9_, m11_, (by rw [ha.out]; exact putSel_upk 31 hb_ rfl rfl rfl), Q_B0, Q_SA, Q_SR, Q_X9_, Q_X11_⟩
        refine steps_cons ?_ ?_
        · rintro b a w' ⟨As, cs, Ar, cr, m9_, m11_, ha, Q_B0, Q_SA, Q_SR, Q_X9_, Q_X11_⟩ hb_ hon hoff
          refine ⟨_, rfl, fun K hK => ?_⟩
          have e139 : a.tmps[139]? = some (.bool true) := by rw [ha]; exact putSel_on (e := (27, 139, .bool true)) 27 rfl rfl (hon 27 (by kernel_rfl)) rfl
          have e143 : a.tmps[143]? = some (.bool wq) := by rw [ha]; exact putSel_on (e := (31, 143, .bool wq)) 31 rfl rfl (hon 31 (by kernel_rfl)) rfl
          have e133 : a.tmps[133]? = some (.bool true) := by rw [ha]; exact putSel_on (e := (21, 133, .bool true)) 21 rfl rfl (hon 21 (by kernel_rfl)) rfl
          replace ha := Aside0.mk ha
          have B0 := Aside0.mk Q_B0
          have SA := Aside0.mk (Q_SA (hon 9 (by kernel_rfl)))
          have SR := Aside0.mk (Q_SR (hon 11 (by kernel_rfl)))
          refine value_ (w1 := w') (v := .bool wq) (wanted_on rfl rfl rfl (e133.trans (by first | rfl | (simp [*]; done)))) rfl ?_ ?_
          · go_simp
            (try simp only [i64_w])
            try rfl
          refine hK.out _ _ ⟨As, cs, Ar, cr, m9_, m11_, (by rw [ha.out]; exact putSel_upk 32 hb_ rfl rfl rfl), Q_B0, Q_SA, Q_SR, Q_X9_, Q_X11_⟩
        refine steps_cons ?_ ?_
        · rintro b a w' ⟨As, cs, Ar, cr, m9_, m11_, ha, Q_B0, Q_SA, Q_SR, Q_X9_, Q_X11_⟩ hb_ hon hoff
          refine ⟨_, rfl, fun K hK => ?_⟩
          have e136 : a.tmps[136]? = some (.bool wq) := by rw [ha]; exact putSel_on (e := (24, 136, .bool wq)) 24 rfl rfl (hon 24 (by kernel_rfl)) rfl
          have e144 : a.tmps[144]? = some (.bool wq) := by rw [ha]; exact putSel_on (e := (32, 144, .bool wq)) 32 rfl rfl (hon 32 (by kernel_rfl)) rfl
          have e133 : a.tmps[133]? = some (.bool true) := by rw [ha]; exact putSel_on (e := (21, 133, .bool true)) 21 rfl rfl (hon 21 (by kernel_rfl)) rfl
          replace ha := Aside0.mk ha
          have B0 := Aside0.mk Q_B0
          have SA := Aside0.mk (Q_SA (hon 9 (by kernel_rfl)))
          have SR := Aside0.mk (Q_SR (hon 11 (by kernel_rfl)))
          have q_ := HQQ.out
          refine value_ (w1 := w') (v := .bool true) (wanted_on rfl rfl rfl (e133.trans (by first | rfl | (simp [*]; done)))) rfl ?_ ?_
          · go_simp
            (try simp only [i64_w])
            try rfl
          refine hK.out _ _ ⟨As, cs, Ar, cr, m9_, m11_, (by rw [ha.out]; exact putSel_upk 33 hb_ rfl rfl rfl), Q_B0, Q_SA, Q_SR, Q_X9_, Q_X11_⟩
        refine steps_cons ?_ ?_
        · rintro b a w' ⟨As, cs, Ar, cr, m9_, m11_, ha, Q_B0, Q_SA, Q_SR, Q_X9_, Q_X11_⟩ hb_ hon hoff
          refine ⟨_, rfl, fun K hK => ?_⟩
          have e133 : a.tmps[133]? = some (.bool true) := by rw [ha]; exact putSel_on (e := (21, 133, .bool true)) 21 rfl rfl (hon 21 (by kernel_rfl)) rfl
          have e145 : a.tmps[145]? = some (.bool true) := by rw [ha]; exact putSel_on (e := (33, 145, .bool true)) 33 rfl rfl (hon 33 (by kernel_rfl)) rfl
          replace ha := Aside0.mk ha
          have B0 := Aside0.mk Q_B0
          have SA := Aside0.mk (Q_SA (hon 9 (by kernel_rfl)))
          have SR := Aside0.mk (Q_SR (hon 11 (by kernel_rfl)))
          refine value_ (w1 := w') (v := .bool true) (by rfl) rfl ?_ ?_
          · go_simp
            (try simp only [i64_w])
            try rfl
          refine hK.out _ _ ⟨As, cs, Ar, cr, m9_, m11_, (by rw [ha.out]; exact putSel_upk 34 hb_ rfl rfl rfl), Q_B0, Q_SA, Q_SR, Q_X9_, Q_X11_⟩
        refine steps_cons ?_ ?_
        · rintro b a w' ⟨As, cs, Ar, cr, m9_, m11_, ha, Q_B0, Q_SA, Q_SR, Q_X9_, Q_X11_⟩ hb_ hon hoff
          refine ⟨_, rfl, fun K hK => ?_⟩
          have e146 : a.tmps[146]? = some (.bool true) := by rw [ha]; exact putSel_on (e := (34, 146, .bool true)) 34 rfl rfl (hon 34 (by kernel_rfl)) rfl
          replace ha := Aside0.mk ha
          have B0 := Aside0.mk Q_B0
          have SA := Aside0.mk (Q_SA (hon 9 (by kernel_rfl)))
          have SR := Aside0.mk (Q_SR (hon 11 (by kernel_rfl)))
          refine value_ (w1 := w') (v := .bool true) (by rfl) rfl ?_ ?_
          · go_simp
            (try simp only [i64_w])
            try rfl
          refine hK.out _ _ ⟨As, cs, Ar, cr, m9_, m11_, (by rw [ha.out]; exact putSel_upk 35 hb_ rfl rfl rfl), Q_B0, Q_SA, Q_SR, Q_X9_, Q_X11_⟩
        exact steps_nil
      rintro b a w8 hall ⟨As, cs, Ar, cr, m9_, m11_, ha, Q_B0, Q_SA, Q_SR, Q_X9_, Q_X11_⟩
      clear B0
      have hb0_ := hall 0 (by kernel_rfl)
      have hb1_ := hall 1 (by kernel_rfl)
      have hb2_ := hall 2 (by kernel_rfl)
      have hb3_ := hall 3 (by kernel_rfl)
      have hb4_ := hall 4 (by kernel_rfl)
      have hb5_ := hall 5 (by kernel_rfl)
      have hb6_ := hall 6 (by kernel_rfl)
      have hb7_ := hall 7 (by kernel_rfl)
      have hb8_ := hall 8 (by kernel_rfl)
      have hb9_ := hall 9 (by kernel_rfl)
      have hb10_ := hall 10 (by kernel_rfl)
      have hb11_ := hall 11 (by kernel_rfl)
      have hb12_ := hall 12 (by kernel_rfl)
      have hb13_ := hall 13 (by kernel_rfl)
      have hb14_ := hall 14 (by kernel_rfl)
      have hb15_ := hall 15 (by kernel_rfl)
      have hb16_ := hall 16 (by kernel_rfl)
      have hb17_ := hall 17 (by kernel_rfl)
      have hb18_ := hall 18 (by kernel_rfl)
      have hb19_ := hall 19 (by kernel_rfl)
      have hb20_ := hall 20 (by kernel_rfl)
      have hb21_ := hall 21 (by kernel_rfl)
      have hb22_ := hall 22 (by kernel_rfl)
      have hb23_ := hall 23 (by kernel_rfl)
      have hb24_ := hall 24 (by kernel_rfl)
      have hb25_ := hall 25 (by kernel_rfl)
      have hb26_ := hall 26 (by kernel_rfl)
      have hb27_ := hall 27 (by kernel_rfl)
      have hb28_ := hall 28 (by kernel_rfl)
      have hb29_ := hall 29 (by kernel_rfl)
      have hb30_ := hall 30 (by kernel_rfl)
      have hb31_ := hall 31 (by kernel_rfl)
      have hb32_ := hall 32 (by kernel_rfl)
      have hb33_ := hall 33 (by kernel_rfl)
      have hb34_ := hall 34 (by kernel_rfl)
      have hb35_ := hall 35 (by kernel_rfl)
      subst ha
      obtain rfl := Q_X9_ hb9_
      obtain rfl := Q_X11_ hb11_
      simp only [putSel, hb0_, hb1_, hb2_, hb3_, hb4_, hb5_, hb6_, hb7_, hb8_, hb9_, hb10_, hb11_, hb12_, hb13_, hb14_, hb15_, hb16_, hb17_, hb18_, hb19_, hb20_, hb21_, hb22_, hb23_, hb24_, hb25_, hb26_, hb27_, hb28_, hb29_, hb30_, hb31_, hb32_, hb33_, hb34_, hb35_, if_true, Act.put, List.setIfInBounds_toArray, List.set_cons_zero, List.set_cons_succ]
      have B0 := Aside0.mk Q_B0
      clear Q_B0
      have SA := Aside0.mk (Q_SA hb9_)
      clear Q_SA
      have SR := Aside0.mk (Q_SR hb11_)
      clear Q_SR
      clear hall hb0_ hb1_ hb2_ hb3_ hb4_ hb5_ hb6_ hb7_ hb8_ hb9_ hb10_ hb11_ hb12_ hb13_ hb14_ hb15_ hb16_ hb17_ hb18_ hb19_ hb20_ hb21_ hb22_ hb23_ hb24_ hb25_ hb26_ hb27_ hb28_ hb29_ hb30_ hb31_ hb32_ hb33_ hb34_ hb35_
      go_wp2_with fail
      go_ret
      exact ⟨rfl, below_then HB7.out HB7.out.size B0.out⟩
end Go.Proofs.Ytnchdmidaigheaa.QS
namespace Go.Proofs.Ytnchdmidaigheaa.Hp
open Go.RowKit Go.Proofs.YtnchdmidaigheaaW.PrintWords Go.Proofs.YtnchdmidaigheaaW.PrintLast Go.Proofs.YtnchdmidaigheaaW.PrintMore
attribute [local go_sem] max2_int min2_int max_two min_two max_three min_three max_four min_four   -- for this text's walks alone
set_option linter.unusedVariables false
set_option linter.unusedSimpArgs false
open Classical in
noncomputable def wagtaillaw43_DamageLooks.f (p0 p1 p2 : Int) (l : List S65) (p4 p5 : Int) : Option Bool := if l.length ≤ 9223372036854775807 then some true else none
set_option maxHeartbeats 8000000 in
set_option maxRecDepth 100000 in
theorem wagtaillaw43_DamageLooks.calls (a0_0 : Int) (a0_1 : Int) (a0_2 : Int) (A0_3 : Option Addr) (c0_3 : Nat) (l0_3 : List (S65)) (a0_4 : Int) (a0_5 : Int) (r : Bool) (w : World) (hr0_3 : Kd.C k65 w A0_3 l0_3.length l0_3) (hc0_3 : l0_3.length ≤ c0_3) (h : wagtaillaw43_DamageLooks.f a0_0 a0_1 a0_2 l0_3 a0_4 a0_5 = some r) :
    Calls Try.prog 6 #[.agg #[.int .i64 a0_0, .int .i64 a0_1, .int .i64 a0_2, .slice A0_3 l0_3.length c0_3, .int .i64 a0_4, .int .i64 a0_5]] w fun e w' => e = .returned (.bool r) ∧ Below w.heap.size w w' := by
  unfold wagtaillaw43_DamageLooks.f at h
  by_cases hc : l0_3.length ≤ 9223372036854775807
  case neg => rw [if_neg hc] at h; cases h
  rw [if_pos hc] at h
  obtain rfl := Option.some.inj h
  exact QS.looks_calls a0_0 a0_1 a0_2 l0_3 a0_4 a0_5 A0_3 c0_3 hr0_3 hc0_3 hc
end Go.Proofs.Ytnchdmidaigheaa.Hp
namespace Go.Proofs.Ytnchdmidaigheaa.Hp
open Go.RowKit Go.Proofs.YtnchdmidaigheaaW.PrintWords
def ok23 (x : S23) : Prop := ((Lit.int .i64 x.f0).wf = true) ∧ ((Lit.int .i64 x.f1).wf = true) ∧ ((Lit.int .i64 x.f2).wf = true)
theorem tk23 : Tk Try.prog k23 23 ok23 :=
  Tk.imp (Tk.iso (Tk.struct Try.underlying23 (by kernel_rfl) (Tks.cons (Tk.int Try.underlying3) rfl (by kernel_rfl) (Tks.cons (Tk.int Try.underlying3) rfl (by kernel_rfl) (Tks.last (Tk.int Try.underlying3) rfl (by kernel_rfl))))) (fun x : S23 => (x.f0, x.f1, x.f2)) (fun p => ⟨p.1, p.2.1, p.2.2⟩) (fun _ => rfl)) (fun x h => h)
def ok65 (x : S65) : Prop := ((Lit.int .i64 x.f0).wf = true) ∧ ((Lit.int .i64 x.f1).wf = true) ∧ (x.f2.length ≤ 9223372036854775807 ∧ ∀ x_ ∈ x.f2, (Lit.int .u8 x_).wf = true)
theorem tk65 : Tk Try.prog k65 65 ok65 :=
  Tk.imp (Tk.iso (Tk.struct Try.underlying65 (by kernel_rfl) (Tks.cons (Tk.int Try.underlying3) rfl (by kernel_rfl) (Tks.cons (Tk.int Try.underlying3) rfl (by kernel_rfl) (Tks.last (Tk.slice (Tk.int Try.underlying5) Try.underlying38 (by kernel_rfl)) rfl (by kernel_rfl))))) (fun x : S65 => (x.f0, x.f1, x.f2)) (fun p => ⟨p.1, p.2.1, p.2.2⟩) (fun _ => rfl)) (fun x h => h)
def ok62 (x : S62) : Prop := (ok23 x.f0) ∧ (x.f1.length ≤ 9223372036854775807 ∧ ∀ x_ ∈ x.f1, ok65 x_) ∧ ((Lit.int .i64 x.f2).wf = true) ∧ ((Lit.int .i64 x.f3).wf = true)
theorem tk62 : Tk Try.prog k62 62 ok62 :=
  Tk.imp (Tk.iso (Tk.struct Try.underlying62 (by kernel_rfl) (Tks.cons tk23 rfl (by kernel_rfl) (Tks.cons (Tk.slice tk65 Try.underlying25 (by kernel_rfl)) rfl (by kernel_rfl) (Tks.cons (Tk.int Try.underlying3) rfl (by kernel_rfl) (Tks.last (Tk.int Try.underlying3) rfl (by kernel_rfl)))))) (fun x : S62 => (x.f0, x.f1, x.f2, x.f3)) (fun p => ⟨p.1, p.2.1, p.2.2.1, p.2.2.2⟩) (fun _ => rfl)) (fun x h => h)
end Go.Proofs.Ytnchdmidaigheaa.Hp
namespace Go.Proofs.Ytnchdmidaigheaa.Hp
open Go.RowKit Go.Proofs.YtnchdmidaigheaaW.PrintWords
def wagtaillaw43_DamageLooks.Pure : Prop := ∀ (x0 : S62), (ok62 x0) → ∃ _k : Nat, wagtaillaw43_DamageLooks.f x0.f0.f0 x0.f0.f1 x0.f0.f2 x0.f1 x0.f2 x0.f3 = some true
end Go.Proofs.Ytnchdmidaigheaa.Hp
namespace Go.Proofs.Ytnchdmidaigheaa.Pure
set_option linter.unusedVariables false
open Go.RowKit Go.Proofs.Ytnchdmidaigheaa.Hp Go.Proofs.YtnchdmidaigheaaW.PrintWords Go.Proofs.YtnchdmidaigheaaW.PrintLast
theorem DamageLooks : wagtaillaw43_DamageLooks.Pure := by
  intro x hx
  exact ⟨0, if_pos hx.2.1.1⟩
end Go.Proofs.Ytnchdmidaigheaa.Pure
namespace Go.Proofs.YtnchdmidaigheaaW.PrintWords
open Go.ChangeShapes Go.WideShapes
end Go.Proofs.YtnchdmidaigheaaW.PrintWords
namespace Go.Proofs.Ytnchdmidaigheaa.damageLooks
open Go.ChangeShapes Go.WideShapes Go.ChangeAt Go.RowKit Go.Proofs.YtnchdmidaigheaaW.PrintWords Go.Proofs.Ytnchdmidaigheaa.Hp
open Go.ChangeMaps (open_string shut_string)
set_option linter.unusedVariables false
set_option linter.unusedSimpArgs false
theorem own : ownKnob Try.prog.godebug = none := by kernel_rfl
theorem laidOut : laidOutB Try.prog = true := by kernel_rfl
set_option maxRecDepth 100000 in
theorem lifted (os : Os) (started : os.Started) (H : Type) (enc : TypeId × Value → H) :
    ReturnsInHanded {} Try.checked os 6 .any (Rows.damageLooksSpec.pre6 enc Try.prog Try.f6 Rows.damageLooksRow.domain false) (Rows.damageLooksSpec.post enc Try.prog Try.f6 false true false false) := by
  refine returnsInHanded_of_change_sized (C := Try.checked) own started (by kernel_rfl) Try.func6
    (ChangeSpec.witness6 (enc := enc) (C := Try.checked) false ⟨#[], #[.agg #[.int .i64 0, .int .i64 0, .int .i64 0, .slice none 0 0, .int .i64 0, .int .i64 0]], []⟩ 8 (by kernel_rfl) (by kernel_rfl) (by kernel_rfl) (by kernel_rfl)) ?_
  intro W base args ds gs before hval0 hW hcnd hsz0 _
  have hsz : (DataW.weightsEach Try.prog (Try.f6.params.toList ++ Rows.damageLooksSpec.plain.varTypes Try.prog) (ds ++ gs)).all (· ≤ reachBytes) = true := hsz0
  have hval : ∀ (j : Nat) t v, Try.f6.params[j]? = some t → args[j]? = some v → Value.okWide Try.prog W .any base t v := hval0
  have hW' := hW
  obtain ⟨p, q, hA0, hV, rfl, hfz, hnd⟩ := hW
  have hA : DataW.TrodAll enc Try.prog W 0 (fun _ => true) true Try.f6.params.toList args.toList ds p := hA0
  rw [Try.params6] at hA hval hsz
  obtain ⟨v0, vs0, d0, ds0, p0, q0, hargs, rfl, rfl, h0, r0⟩ := trodAll_cons hA
  obtain ⟨rfl, rfl, rfl⟩ := trodAll_nil r0
  obtain rfl : args = #[v0] := by cases args; simp_all
  obtain ⟨rfl, rfl⟩ := trodVars_none hV
  have k0 := h0
  have lt0 : ∀ x ∈ p0, x.block < W.heap.size := by obtain ⟨m, hm⟩ := k0; exact DataW.trod_lt m _ _ _ hm
  obtain ⟨cs0, rfl, _⟩ := okWide_struct Try.underlying62 (hval 0 62 v0 rfl rfl)
  obtain ⟨x0, z0, g0⟩ := (show ∃ y, k62.K W y cs0.toList ∧ ok62 y from by obtain ⟨fuel, hf⟩ := h0; exact tk62.go hf)
  obtain ⟨A3_0, c3_0, e0, y0_0, y0_1⟩ := k62_open z0
  obtain rfl : cs0 = #[.int .i64 x0.f0.f0, .int .i64 x0.f0.f1, .int .i64 x0.f0.f2, .slice A3_0 x0.f1.length c3_0, .int .i64 x0.f2, .int .i64 x0.f3] := by cases cs0; simpa using e0
  clear hA0 hval0 hsz0 hsz
  obtain ⟨kk, hk⟩ := Pure.DamageLooks x0 g0
  refine (wagtaillaw43_DamageLooks.calls x0.f0.f0 x0.f0.f1 x0.f0.f2 A3_0 c3_0 x0.f1 x0.f2 x0.f3 true W y0_1 y0_0 hk).mono fun e W' ⟨he, bel0⟩ => ?_
  have bel : Below W.heap.size W W' := bel0
  subst he
  exact ⟨_, rfl, _, _, _, [], _, [], hW', trodAll_mk1 (shut_bool Try.underlying4 _), (trodAll_cons_mk (Below.trod laidOut (by kernel_rfl) (of_decide_eq_true (by kernel_rfl)) k0 bel lt0) trodAll_mk0), rfl, bel.frame _, fun h => by cases h⟩
theorem over : Rows.damageLooksRow.holds Try.pinned (OpenSpec.ofChange Rows.damageLooksSpec) :=
  OpenClaim.holds_of_wide 6 Try.f6 rfl rfl rfl rfl rfl rfl rfl ⟨rfl, rfl, rfl, rfl, rfl⟩ rfl rfl rfl rfl rfl (by kernel_rfl) Try.func6 (by kernel_rfl)
    (of_decide_eq_true (by kernel_rfl)) (by unfold Func.isWrapper; first | (rw [if_pos (by decide +kernel)]; kernel_rfl) | (rw [if_neg (by decide +kernel)]; exact ⟨rfl, rfl⟩))
    (fun os started H enc _ => lifted os started H enc)
theorem proved : Rows.DamageLooksSaid := over
#print axioms proved
end Go.Proofs.Ytnchdmidaigheaa.damageLooks
namespace Go.Proofs.Ytnchdmidaigheaa
theorem damageLooks_holds : Rows.DamageLooksSaid := damageLooks.proved
end Go.Proofs.Ytnchdmidaigheaa
