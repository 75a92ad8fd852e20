-- Laid by this workplace's own program hprint.py (functions marked by hand are ours; the others are printed out of the translation). Not trusted: Lean checks it.
import Derived.Test.YtmlkkdopogcggaaHp0
import Derived.Test.YtmlkkdopogcggaaHp35
import Derived.Test.YtmlkkdopogcggaaHp37
import Derived.Test.YtmlkkdopogcggaaHp39
namespace Go.Proofs.Ytmlkkdopogcggaa.Hp
open Go.RowKit Go.Proofs.YtmlkkdopogcggaaW.PrintWords Go.Proofs.YtmlkkdopogcggaaW.PrintLast Go.Proofs.YtmlkkdopogcggaaW.PrintMore
attribute [local go_sem] max2_int min2_int max_two min_two max_three min_three max_four min_four   -- for this text's walks alone
set_option linter.unusedVariables false
set_option linter.unusedSimpArgs false

/-! ### wagtailref15_Get: function 44 -/
-- a function whose text and proof are by hand
def wagtailref15_Get.z : Option (Int × Int × Int × Int × Int × Int × Int × ByteArray × Bool) := some (0, 0, 0, 0, 0, 0, 0, ⟨#[]⟩, false)
def wagtailref15_Get.g (k i c b o l n : Int) (d s : ByteArray) : Option (Int × Int × Int × Int × Int × Int × Int × ByteArray × Bool) :=
  if headMay k i c b o l n = true then (if strOfNums (pageBody k i c b o l n (bytesOf d) ++ beBytes 4 (zsum (pageBody k i c b o l n (bytesOf d)))) = s then some (k, i, c, b, o, l, n, d, true) else wagtailref15_Get.z) else wagtailref15_Get.z
def wagtailref15_Get.f (s : ByteArray) : Option (Int × Int × Int × Int × Int × Int × Int × ByteArray × Bool) :=
  if s.size = 256 then wagtailref15_Get.g (rd (bytesOf s) 0) (rd (bytesOf s) 1) (rd (bytesOf s) 2) (beNum (bytesOf s) 4 8) (beNum (bytesOf s) 12 8) (beNum (bytesOf s) 20 2) (beNum (bytesOf s) 22 2) (strOfNums (((bytesOf s).drop 24).take (beNum (bytesOf s) 22 2).toNat)) s else wagtailref15_Get.z
theorem wagtailref15_Get.ref_be (l : List Int) (a : Int) (h0 : 0 ≤ a) (h1 : a ≤ l.length) (w : Int) : refNum l a w = beNum l a (wid w) := by
  unfold refNum beNum wid
  generalize (mn (mx w 0) 8).toNat = m
  induction m with
  | zero => rfl
  | succ m ih =>
    simp only [refPre, bePre, ih]
    congr 1
    unfold refByte byteAt
    by_cases h : a + (m : Int) < l.length
    · rw [if_pos ⟨h0, h⟩, if_neg (by omega)]
      rfl
    · rw [if_neg (by omega), if_pos (by omega)]
theorem wagtailref15_Get.be_range2 (l : List Int) (h : isBytes l) (a : Int) (w : Nat) (hw : w ≤ 8) : 0 ≤ beNum l a w ∧ beNum l a w < 18446744073709551616 := by
  have h1 := bePre_range l h a w
  unfold beNum
  refine ⟨h1.1, Int.lt_of_lt_of_le h1.2 ?_⟩
  have : ∀ w, w ≤ 8 → (256 : Int) ^ w ≤ 18446744073709551616 := by decide
  exact this w hw
theorem wagtailref15_Get.num_calls (l : List Int) (hb : isBytes l) (hl : l.length = 256) (A : Option Addr) (c : Nat) (hc : 256 ≤ c) (W0 : World) (hC : Kd.C (Kd.int .u8) W0 A l.length l) (a w : Int) (h0 : 0 ≤ a) (h1 : a ≤ 256) (x : Int) (hx : x = beNum l a (wid w)) (W : World) (hW : Below W0.heap.size W0 W) :
    Calls Try.prog 49 #[.slice A 256 c, .int .i64 a, .int .i64 w] W fun e w' => e = .returned (.int .u64 x) ∧ Below W.heap.size W w' := by
  have h := wagtailref01_Number.calls A c l a w x W (Kd.C_below hC hW) (by omega) (by
    unfold wagtailref01_Number.f
    rw [if_pos ⟨hb, by omega⟩, wagtailref15_Get.ref_be l a h0 (by omega), hx])
  rw [hl] at h
  refine h.mono ?_
  rintro e w' ⟨rfl, ⟨n, rfl⟩⟩
  exact ⟨rfl, pw_below_drewN (Below.refl _ _) n⟩
theorem wagtailref15_Get.store7 {g N : Nat} {W0 W : World} (x0 x1 x2 x3 x4 x5 x6 : Int) (hz : W.heap[g]? = some (.cells #[.int .i64 0, .int .i64 0, .int .i64 0, .int .u64 0, .int .u64 0, .int .i64 0, .int .i64 0] 50 (0, 0)) ∧ N ≤ g) (hB : Below N W0 W) :
    Below N W0 (((((((W.setCell ⟨g, 0, none⟩ (.int .i64 x0)).setCell ⟨g, 1, none⟩ (.int .i64 x1)).setCell ⟨g, 2, none⟩ (.int .i64 x2)).setCell ⟨g, 3, none⟩ (.int .u64 x3)).setCell ⟨g, 4, none⟩ (.int .u64 x4)).setCell ⟨g, 5, none⟩ (.int .i64 x5)).setCell ⟨g, 6, none⟩ (.int .i64 x6)) ∧
    (((((((W.setCell ⟨g, 0, none⟩ (.int .i64 x0)).setCell ⟨g, 1, none⟩ (.int .i64 x1)).setCell ⟨g, 2, none⟩ (.int .i64 x2)).setCell ⟨g, 3, none⟩ (.int .u64 x3)).setCell ⟨g, 4, none⟩ (.int .u64 x4)).setCell ⟨g, 5, none⟩ (.int .i64 x5)).setCell ⟨g, 6, none⟩ (.int .i64 x6)).heap[g]? = some (.cells #[.int .i64 x0, .int .i64 x1, .int .i64 x2, .int .u64 x3, .int .u64 x4, .int .i64 x5, .int .i64 x6] 50 (0, 0)) ∧ N ≤ g := by
  have h0 := blk_set hz.1 0 (.int .i64 x0)
  have h1 := blk_set h0 1 (.int .i64 x1)
  have h2 := blk_set h1 2 (.int .i64 x2)
  have h3 := blk_set h2 3 (.int .u64 x3)
  have h4 := blk_set h3 4 (.int .u64 x4)
  have h5 := blk_set h4 5 (.int .i64 x5)
  have h6 := blk_set h5 6 (.int .i64 x6)
  have hg := hz.2
  exact ⟨(((((((hB.setCell (p := ⟨g, _, none⟩) hg _).setCell (p := ⟨g, _, none⟩) hg _).setCell (p := ⟨g, _, none⟩) hg _).setCell (p := ⟨g, _, none⟩) hg _).setCell (p := ⟨g, _, none⟩) hg _).setCell (p := ⟨g, _, none⟩) hg _).setCell (p := ⟨g, _, none⟩) hg _), by simpa using h6, hz.2⟩
theorem wagtailref15_Get.cut_str (s : ByteArray) (a n : Nat) : s.extract a (a + n) = strOfNums (((bytesOf s).drop a).take n) := by
  rw [← wagtailref15_Put.str_bytes (s.extract a (a + n))]
  congr 1
  unfold bytesOf
  rw [ByteArray.data_extract, Array.toList_extract, List.extract_eq_take_drop, List.map_take, List.map_drop]
  congr 1
  omega
theorem wagtailref15_Get.may_head (k i c b o l n : Int) : wagtailref15_May.f k i c b o l n = some (headMay k i c b o l n) := by
  unfold wagtailref15_May.f
  repeat' split
  all_goals
    congr 1
    rw [Bool.eq_iff_iff]
    simp only [headMay, within, Bool.and_eq_true, decide_eq_true_eq, wrap64, Bool.false_eq_true, false_iff]
    omega
def wagtailref15_Get.T4 : Bool × List (List Nat × List Nat) := (true, [([], []), ([0], [0]), ([1], [1]), ([2], [2]), ([], []), ([4], [4]), ([5], [5]), ([6], [6]), ([], []), ([8], [8]), ([9], [9]), ([10], [10]), ([], []), ([12], [12]), ([], []), ([14, 13], [14]), ([], []), ([16, 15], [16]), ([17], [17]), ([], []), ([19, 17], [19]), ([20], [20]), ([3, 7, 11, 13, 15, 18, 21], [3, 7, 11, 13, 15, 18, 21]), ([], []), ([23, 22, 20, 0, 1, 2, 3, 4, 5, 6, 7, 8, 9, 10, 11, 12, 13, 14, 15, 16, 17, 18, 19, 20, 21, 22, 23], [22, 23])])
def wagtailref15_Get.B4 : List Nat := [0, 1, 3, 7, 0, 16, 48, 112, 0, 256, 768, 1792, 0, 4096, 0, 28672, 0, 126976, 258048, 0, 782336, 1830912, 4194303, 0, 16777215]
theorem wagtailref15_Get.tab4 : rtab .any (opsOf Try.f44 4) = wagtailref15_Get.T4 := by kernel_rfl
theorem wagtailref15_Get.bits4 : waitsOk wagtailref15_Get.T4.2 wagtailref15_Get.B4 = true := by kernel_rfl
set_option maxHeartbeats 8000000 in
set_option maxRecDepth 100000 in
theorem wagtailref15_Get.calls (a0 : ByteArray) (r1 : Int) (r2 : Int) (r3 : Int) (r4 : Int) (r5 : Int) (r6 : Int) (r7 : Int) (r8 : ByteArray) (r9 : Bool) (w : World) (h : wagtailref15_Get.f a0 = some (r1, r2, r3, r4, r5, r6, r7, r8, r9)) :
    Calls Try.prog 44 #[.string a0] w fun e w' => e = .returned (.tuple #[.agg #[.int .i64 r1, .int .i64 r2, .int .i64 r3, .int .u64 r4, .int .u64 r5, .int .i64 r6, .int .i64 r7], .string r8, .bool r9]) ∧ Below w.heap.size w w' := by
  unfold wagtailref15_Get.f at h
  obtain ⟨l, hl⟩ : ∃ l, l = bytesOf a0 := ⟨_, rfl⟩
  rw [← hl] at h
  have hlen : l.length = a0.size := by rw [hl, bytesOf_length]
  have hby : isBytes l := by rw [hl]; exact wagtailref15_Put.bytes_isBytes a0
  have HBY := Aside0.mk hby
  have HLEN := Aside0.mk hlen
  replace hl := Aside0.mk hl
  clear hlen hby
  have H := Aside0.mk h
  clear h
  go_enter Try.func44, Try.ntmps44
  go_upto_region 1 with fail
  have hz := heap_alloc_new w (Obj.cells #[Value.int IntKind.i64 0, Value.int IntKind.i64 0, Value.int IntKind.i64 0, Value.int IntKind.u64 0, Value.int IntKind.u64 0, Value.int IntKind.i64 0, Value.int IntKind.i64 0] 50)
  have B1 := Aside0.mk (below_alloc (Below.refl w.heap.size w) (Obj.cells #[Value.int IntKind.i64 0, Value.int IntKind.i64 0, Value.int IntKind.i64 0, Value.int IntKind.u64 0, Value.int IntKind.u64 0, Value.int IntKind.i64 0, Value.int IntKind.i64 0] 50))
  generalize (w.alloc (Obj.cells #[Value.int IntKind.i64 0, Value.int IntKind.i64 0, Value.int IntKind.i64 0, Value.int IntKind.u64 0, Value.int IntKind.u64 0, Value.int IntKind.i64 0, Value.int IntKind.i64 0] 50)) = W1 at hz B1 ⊢
  have h := H.out
  clear H
  by_cases hs : a0.size = 256
  case neg =>
    rw [if_neg hs] at h
    simp only [wagtailref15_Get.z, Option.some.injEq, Prod.mk.injEq] at h
    obtain ⟨rfl, rfl, rfl, rfl, rfl, rfl, rfl, rfl, rfl⟩ := h
    have t1 : ((a0.size : Int) != 256) = true := by simp; omega
    have d0 := blk_cell hz 0
    have d1 := blk_cell hz 1
    have d2 := blk_cell hz 2
    have d3 := blk_cell hz 3
    have d4 := blk_cell hz 4
    have d5 := blk_cell hz 5
    have d6 := blk_cell hz 6
    have e0 := blk_frozen hz 0
    have e1 := blk_frozen hz 1
    have e2 := blk_frozen hz 2
    have e3 := blk_frozen hz 3
    have e4 := blk_frozen hz 4
    have e5 := blk_frozen hz 5
    have e6 := blk_frozen hz 6
    have hst := Aside0.mk (wagtailref15_Get.store7 0 0 0 0 0 0 0 ⟨hz, Nat.le_refl _⟩ B1.out)
    replace hz := Aside0.mk hz
    clear hs
    go_wp2
    refine bodyPost_ret (results_ctt rfl _ _ w.heap.size 50 _ (0, 0) _ rfl hst.out.2.1 Try.underlying50 rfl (by kernel_rfl)) rfl ?_
    exact ⟨rfl, hst.out.1⟩
  case pos =>
    rw [if_pos hs] at h
    have kb := fun W => print_bytes (P := Try.prog) 9 35 5 Try.underlying9 Try.underlying35 Try.underlying5 a0 W
    have t1 : ((a0.size : Int) != 256) = false := by simp; omega
    replace hz := Aside0.mk hz
    have HS := Aside0.mk hs
    clear hs
    have H := Aside0.mk h
    clear h
    go_upto_region 4 with fail
    have HC := Aside0.mk (Kd.C_of_reads (enc := Value.int .u8) (h1 := fun _ => rfl) (bytes_reads W1 5 a0 (by have := HS.out; omega)))
    have HB := Aside0.mk (bytes_below B1.out B1.out.size 5 a0)
    have HZ := Aside0.mk ((Lib.bytesWorld_at_old W1 5 a0 w.heap.size (blk_lt hz.out)).trans hz.out)
    have hsz0 : W1.heap.size < (Lib.bytesWorld W1 5 a0).heap.size := by rw [Lib.bytesWorld_size]; omega
    have hcp := grownCap_ge W1 a0.size 0 5
    have hgz := blk_lt hz.out
    generalize grownCap W1 a0.size 0 5 = cp at hcp ⊢
    replace B1 := B1.out
    replace hz := hz.out
    generalize W1.heap.size = nb at HC hsz0 hgz ⊢
    generalize Lib.bytesWorld W1 5 a0 = W0 at HC HB HZ hsz0 ⊢
    clear B1 hz kb t1
    have HC2 : Kd.C (Kd.int .u8) W0 (some ⟨nb, 0, none⟩) l.length l := by
      have h := HC.out
      rw [← hl.out, ← HLEN.out] at h
      exact h
    have hl256 : l.length = 256 := HLEN.out.trans HS.out
    have hx : ∀ j : Nat, j < 256 → W0.cell? ⟨nb, j, none⟩ = some (.int .u8 (rd l (j : Int))) := by
      intro j hj
      obtain ⟨ad, e, h⟩ := Kd.at_int HC2 (j : Int) (by omega) (by omega)
      cases e
      rw [show (⟨nb, 0, none⟩ : Addr).add ((j : Int)).toNat = ⟨nb, j, none⟩ by simp [add_plain]] at h
      exact h
    rw [HS.out] at hcp ⊢
    have hb3 := wagtailref15_Get.be_range2 l HBY.out 4 8 (by omega)
    have hb4 := wagtailref15_Get.be_range2 l HBY.out 12 8 (by omega)
    have hb5 : 0 ≤ beNum l 20 2 ∧ beNum l 20 2 < 65536 := bePre_range l HBY.out 20 2
    have hb6 : 0 ≤ beNum l 22 2 ∧ beNum l 22 2 < 65536 := bePre_range l HBY.out 22 2
    have ha0 := rd_range l HBY.out 0
    have ha1 := rd_range l HBY.out 1
    have ha2 := rd_range l HBY.out 2
    have h := H.out
    obtain ⟨k0, hk0⟩ : ∃ k, k = rd l 0 := ⟨_, rfl⟩
    obtain ⟨k1, hk1⟩ : ∃ k, k = rd l 1 := ⟨_, rfl⟩
    obtain ⟨k2, hk2⟩ : ∃ k, k = rd l 2 := ⟨_, rfl⟩
    obtain ⟨k3, hk3⟩ : ∃ k, k = beNum l 4 8 := ⟨_, rfl⟩
    obtain ⟨k4, hk4⟩ : ∃ k, k = beNum l 12 8 := ⟨_, rfl⟩
    obtain ⟨k5, hk5⟩ : ∃ k, k = beNum l 20 2 := ⟨_, rfl⟩
    obtain ⟨k6, hk6⟩ : ∃ k, k = beNum l 22 2 := ⟨_, rfl⟩
    rw [← hk0, ← hk1, ← hk2, ← hk3, ← hk4, ← hk5, ← hk6] at h
    rw [← hk0] at ha0
    rw [← hk1] at ha1
    rw [← hk2] at ha2
    rw [← hk3] at hb3
    rw [← hk4] at hb4
    rw [← hk5] at hb5
    rw [← hk6] at hb6
    have HX0 := Aside0.mk (show W0.cell? ⟨nb, 0, none⟩ = some (.int .u8 k0) by rw [hk0]; exact hx 0 (by omega))
    have HX1 := Aside0.mk (show W0.cell? ⟨nb, 1, none⟩ = some (.int .u8 k1) by rw [hk1]; exact hx 1 (by omega))
    have HX2 := Aside0.mk (show W0.cell? ⟨nb, 2, none⟩ = some (.int .u8 k2) by rw [hk2]; exact hx 2 (by omega))
    have X3 := Aside0.mk (fun (W : World) (hW : Below W0.heap.size W0 W) => wagtailref15_Get.num_calls l HBY.out hl256 (some ⟨nb, 0, none⟩) cp hcp W0 HC2 4 8 (by omega) (by omega) k3 (by rw [hk3]; rfl) W hW)
    have X4 := Aside0.mk (fun (W : World) (hW : Below W0.heap.size W0 W) => wagtailref15_Get.num_calls l HBY.out hl256 (some ⟨nb, 0, none⟩) cp hcp W0 HC2 12 8 (by omega) (by omega) k4 (by rw [hk4]; rfl) W hW)
    have X5 := Aside0.mk (fun (W : World) (hW : Below W0.heap.size W0 W) => wagtailref15_Get.num_calls l HBY.out hl256 (some ⟨nb, 0, none⟩) cp hcp W0 HC2 20 2 (by omega) (by omega) k5 (by rw [hk5]; rfl) W hW)
    have X6 := Aside0.mk (fun (W : World) (hW : Below W0.heap.size W0 W) => wagtailref15_Get.num_calls l HBY.out hl256 (some ⟨nb, 0, none⟩) cp hcp W0 HC2 22 2 (by omega) (by omega) k6 (by rw [hk6]; rfl) W hW)
    have HW0 := Aside0.mk (show IntKind.i64.wrap k0 = k0 by rw [i64_w]; unfold wrap64; omega)
    have HW1 := Aside0.mk (show IntKind.i64.wrap k1 = k1 by rw [i64_w]; unfold wrap64; omega)
    have HW2 := Aside0.mk (show IntKind.i64.wrap k2 = k2 by rw [i64_w]; unfold wrap64; omega)
    have HW5 := Aside0.mk (show IntKind.i64.wrap k5 = k5 by rw [i64_w]; unfold wrap64; omega)
    have HW6 := Aside0.mk (show IntKind.i64.wrap k6 = k6 by rw [i64_w]; unfold wrap64; omega)
    have HG := Aside0.mk hsz0
    have HNE := Aside0.mk (show w.heap.size < W0.heap.size by omega)
    have HRG := Aside0.mk (And.intro hb3 (And.intro hb4 (And.intro hb5 hb6)))
    replace H := Aside0.mk h
    clear h hx hk0 hk1 hk2 hk3 hk4 hk5 hk6 ha0 ha1 ha2 hb3 hb4 hb5 hb6 hsz0 hgz hcp HC2 hl256 HC
    have B0 := Aside0.mk (below_drew1 (Below.refl W0.heap.size W0))
    refine start_ (n := 25) (S := fun w' => True) (ds := []) #[false, false, false, false, false, false, false, false, false, false, false, false, false, false, false, false, false, false, false, false, false, false, false, false, false] (by kernel_rfl) rfl rfl trivial (fun hHeld => ?_)
    refine with_tabW wagtailref15_Get.tab4 wagtailref15_Get.bits4 (fun HT_ HW_ => ?_)
    generalize W0.drew = wq at B0 hHeld ⊢
    refine pure_ (i := 0) (N := some 14) (v := ?_) (a' := ?_) #[true, false, false, false, false, false, false, false, false, false, false, false, false, false, false, false, false, false, false, false, false, false, false, false, false] rfl rfl (any_of HT_.out (by kernel_rfl)) (fun _ _ _ h => h) (Or.inl ⟨by rfl, ?_⟩) ?_ ?_
    rotate_left
    · intro w'
      go_simp
      with_reducible rfl
    rotate_left
    · simp only [Act.put, List.setIfInBounds_toArray, List.set_cons_zero, List.set_cons_succ, i64_w, i32_w]
      rfl
    refine pure_ (i := 4) (N := some 18) (v := ?_) (a' := ?_) #[true, false, false, false, true, false, false, false, false, false, false, false, false, false, false, false, false, false, false, false, false, false, false, false, false] rfl rfl (any_of HT_.out (by kernel_rfl)) (fun _ _ _ h => h) (Or.inl ⟨by rfl, ?_⟩) ?_ ?_
    rotate_left
    · intro w'
      go_simp
      with_reducible rfl
    rotate_left
    · simp only [Act.put, List.setIfInBounds_toArray, List.set_cons_zero, List.set_cons_succ, i64_w, i32_w]
      rfl
    refine pure_ (i := 8) (N := some 22) (v := ?_) (a' := ?_) #[true, false, false, false, true, false, false, false, true, false, false, false, false, false, false, false, false, false, false, false, false, false, false, false, false] rfl rfl (any_of HT_.out (by kernel_rfl)) (fun _ _ _ h => h) (Or.inl ⟨by rfl, ?_⟩) ?_ ?_
    rotate_left
    · intro w'
      go_simp
      with_reducible rfl
    rotate_left
    · simp only [Act.put, List.setIfInBounds_toArray, List.set_cons_zero, List.set_cons_succ, i64_w, i32_w]
      rfl
    refine pure_ (i := 12) (N := some 26) (v := ?_) (a' := ?_) #[true, false, false, false, true, false, false, false, true, false, false, false, true, false, false, false, false, false, false, false, false, false, false, false, false] rfl rfl (any_of HT_.out (by kernel_rfl)) (fun _ _ _ h => h) (Or.inl ⟨by rfl, ?_⟩) ?_ ?_
    rotate_left
    · intro w'
      go_simp
      with_reducible rfl
    rotate_left
    · simp only [Act.put, List.setIfInBounds_toArray, List.set_cons_zero, List.set_cons_succ, i64_w, i32_w]
      rfl
    refine pure_ (i := 14) (N := some 28) (v := ?_) (a' := ?_) #[true, false, false, false, true, false, false, false, true, false, false, false, true, false, true, false, false, false, false, false, false, false, false, false, false] rfl rfl (any_of HT_.out (by kernel_rfl)) (fun _ _ _ h => h) (Or.inl ⟨by rfl, ?_⟩) ?_ ?_
    rotate_left
    · intro w'
      go_simp
      with_reducible rfl
    rotate_left
    · simp only [Act.put, List.setIfInBounds_toArray, List.set_cons_zero, List.set_cons_succ, i64_w, i32_w]
      rfl
    refine pure_ (i := 16) (N := some 30) (v := ?_) (a' := ?_) #[true, false, false, false, true, false, false, false, true, false, false, false, true, false, true, false, true, false, false, false, false, false, false, false, false] rfl rfl (any_of HT_.out (by kernel_rfl)) (fun _ _ _ h => h) (Or.inl ⟨by rfl, ?_⟩) ?_ ?_
    rotate_left
    · intro w'
      go_simp
      with_reducible rfl
    rotate_left
    · simp only [Act.put, List.setIfInBounds_toArray, List.set_cons_zero, List.set_cons_succ, i64_w, i32_w]
      rfl
    refine pure_ (i := 19) (N := some 33) (v := ?_) (a' := ?_) #[true, false, false, false, true, false, false, false, true, false, false, false, true, false, true, false, true, false, false, true, false, false, false, false, false] rfl rfl (any_of HT_.out (by kernel_rfl)) (fun _ _ _ h => h) (Or.inl ⟨by rfl, ?_⟩) ?_ ?_
    rotate_left
    · intro w'
      go_simp
      with_reducible rfl
    rotate_left
    · simp only [Act.put, List.setIfInBounds_toArray, List.set_cons_zero, List.set_cons_succ, i64_w, i32_w]
      rfl
    refine inv_at [1, 2, 3, 5, 6, 7, 9, 10, 11, 13, 15, 17, 18, 20, 21, 22, 23, 24] (fun a0_ b a w' => ∃ (gb : Nat) (m23_ : Value), a = putSel a0_ b [(1, 15, .pointer (some ⟨nb, 0, none⟩)), (2, 16, .int .u8 k0), (3, 17, .int .i64 k0), (5, 19, .pointer (some ⟨nb, 1, none⟩)), (6, 20, .int .u8 k1), (7, 21, .int .i64 k1), (9, 23, .pointer (some ⟨nb, 2, none⟩)), (10, 24, .int .u8 k2), (11, 25, .int .i64 k2), (13, 27, .int .u64 k3), (15, 29, .int .u64 k4), (17, 31, .int .u64 k5), (18, 32, .int .i64 k5), (20, 34, .int .u64 k6), (21, 35, .int .i64 k6), (22, 36, .agg #[.int .i64 k0, .int .i64 k1, .int .i64 k2, .int .u64 k3, .int .u64 k4, .int .i64 k5, .int .i64 k6]), (23, 6, m23_)] ∧ (Below W0.heap.size W0 w') ∧ (b 23 = true → b 24 = false → w'.heap[gb]? = some (.cells #[.int .i64 0, .int .i64 0, .int .i64 0, .int .u64 0, .int .u64 0, .int .i64 0, .int .i64 0] 50 (0, 0)) ∧ W0.heap.size ≤ gb) ∧ (b 24 = true → w'.heap[gb]? = some (.cells #[.int .i64 k0, .int .i64 k1, .int .i64 k2, .int .u64 k3, .int .u64 k4, .int .i64 k5, .int .i64 k6] 50 (0, 0)) ∧ W0.heap.size ≤ gb) ∧ (b 23 = true → (m23_ : Value) = .pointer (some ⟨gb, 0, none⟩))) HT_.out HW_.out (by kernel_rfl) (by kernel_rfl) ?_ ?_ ?_
    · exact ⟨0, .bool false, by simp only [putSel, Bool.false_eq_true, if_false], B0.out, fun h_ => absurd h_ (by decide), fun h_ => absurd h_ (by decide), fun h_ => absurd h_ (by decide)⟩
    · skip
      clear B0
      refine steps_cons ?_ ?_
      · rintro b a w' ⟨gb, m23_, ha, Q_B0, Q_AL, Q_ST, Q_X23_⟩ hb_ hon hoff
        refine ⟨_, rfl, fun K hK => ?_⟩
        have e14 : a.tmps[14]? = some (.slice (some ⟨nb, 0, none⟩) 256 cp) := by rw [ha]; exact (putSel_off rfl).trans rfl
        replace ha := Aside0.mk ha
        have B0 := Aside0.mk Q_B0
        refine value_ (w1 := w') (v := .pointer (some ⟨nb, 0, none⟩)) (by rfl) rfl ?_ ?_
        · go_simp
          (try simp only [i64_w])
          try rfl
        refine hK.out _ _ ⟨gb, m23_, (by rw [ha.out]; exact putSel_upk 0 hb_ rfl rfl rfl), Q_B0, Q_AL, fun h0_ => absurd ((hoff 24 (by kernel_rfl)).symm.trans h0_) (by decide), Q_X23_⟩
      refine steps_cons ?_ ?_
      · rintro b a w' ⟨gb, m23_, ha, Q_B0, Q_AL, Q_ST, Q_X23_⟩ hb_ hon hoff
        refine ⟨_, rfl, fun K hK => ?_⟩
        have e15 : a.tmps[15]? = some (.pointer (some ⟨nb, 0, none⟩)) := by rw [ha]; exact putSel_on (e := (1, 15, .pointer (some ⟨nb, 0, none⟩))) 0 rfl rfl (hon 1 (by kernel_rfl)) rfl
        replace ha := Aside0.mk ha
        have B0 := Aside0.mk Q_B0
        have hc_ := (B0.out.cell (p := ⟨nb, 0, none⟩) HG.out).trans HX0.out
        refine value_ (w1 := w') (v := .int .u8 k0) (by rfl) rfl ?_ ?_
        · go_simp
          (try simp only [i64_w])
          try rfl
        refine hK.out _ _ ⟨gb, m23_, (by rw [ha.out]; exact putSel_upk 1 hb_ rfl rfl rfl), Q_B0, Q_AL, fun h0_ => absurd ((hoff 24 (by kernel_rfl)).symm.trans h0_) (by decide), Q_X23_⟩
      refine steps_cons ?_ ?_
      · rintro b a w' ⟨gb, m23_, ha, Q_B0, Q_AL, Q_ST, Q_X23_⟩ hb_ hon hoff
        refine ⟨_, rfl, fun K hK => ?_⟩
        have e16 : a.tmps[16]? = some (.int .u8 k0) := by rw [ha]; exact putSel_on (e := (2, 16, .int .u8 k0)) 1 rfl rfl (hon 2 (by kernel_rfl)) rfl
        replace ha := Aside0.mk ha
        have B0 := Aside0.mk Q_B0
        have hw_ := HW0.out
        refine value_ (w1 := w') (v := .int .i64 k0) (by rfl) rfl ?_ ?_
        · go_simp
          (try simp only [i64_w])
          try rfl
        refine hK.out _ _ ⟨gb, m23_, (by rw [ha.out]; exact putSel_upk 2 hb_ rfl rfl rfl), Q_B0, Q_AL, fun h0_ => absurd ((hoff 24 (by kernel_rfl)).symm.trans h0_) (by decide), Q_X23_⟩
      refine steps_cons ?_ ?_
      · rintro b a w' ⟨gb, m23_, ha, Q_B0, Q_AL, Q_ST, Q_X23_⟩ hb_ hon hoff
        refine ⟨_, rfl, fun K hK => ?_⟩
        have e18 : a.tmps[18]? = some (.slice (some ⟨nb, 0, none⟩) 256 cp) := by rw [ha]; exact (putSel_off rfl).trans rfl
        replace ha := Aside0.mk ha
        have B0 := Aside0.mk Q_B0
        refine value_ (w1 := w') (v := .pointer (some ⟨nb, 1, none⟩)) (by rfl) rfl ?_ ?_
        · go_simp
          (try simp only [i64_w])
          try rfl
        refine hK.out _ _ ⟨gb, m23_, (by rw [ha.out]; exact putSel_upk 3 hb_ rfl rfl rfl), Q_B0, Q_AL, fun h0_ => absurd ((hoff 24 (by kernel_rfl)).symm.trans h0_) (by decide), Q_X23_⟩
      refine steps_cons ?_ ?_
      · rintro b a w' ⟨gb, m23_, ha, Q_B0, Q_AL, Q_ST, Q_X23_⟩ hb_ hon hoff
        refine ⟨_, rfl, fun K hK => ?_⟩
        have e19 : a.tmps[19]? = some (.pointer (some ⟨nb, 1, none⟩)) := by rw [ha]; exact putSel_on (e := (5, 19, .pointer (some ⟨nb, 1, none⟩))) 3 rfl rfl (hon 5 (by kernel_rfl)) rfl
        replace ha := Aside0.mk ha
        have B0 := Aside0.mk Q_B0
        have hc_ := (B0.out.cell (p := ⟨nb, 1, none⟩) HG.out).trans HX1.out
        refine value_ (w1 := w') (v := .int .u8 k1) (by rfl) rfl ?_ ?_
        · go_simp
          (try simp only [i64_w])
          try rfl
        refine hK.out _ _ ⟨gb, m23_, (by rw [ha.out]; exact putSel_upk 4 hb_ rfl rfl rfl), Q_B0, Q_AL, fun h0_ => absurd ((hoff 24 (by kernel_rfl)).symm.trans h0_) (by decide), Q_X23_⟩
      refine steps_cons ?_ ?_
      · rintro b a w' ⟨gb, m23_, ha, Q_B0, Q_AL, Q_ST, Q_X23_⟩ hb_ hon hoff
        refine ⟨_, rfl, fun K hK => ?_⟩
        have e20 : a.tmps[20]? = some (.int .u8 k1) := by rw [ha]; exact putSel_on (e := (6, 20, .int .u8 k1)) 4 rfl rfl (hon 6 (by kernel_rfl)) rfl
        replace ha := Aside0.mk ha
        have B0 := Aside0.mk Q_B0
        have hw_ := HW1.out
        refine value_ (w1 := w') (v := .int .i64 k1) (by rfl) rfl ?_ ?_
        · go_simp
          (try simp only [i64_w])
          try rfl
        refine hK.out _ _ ⟨gb, m23_, (by rw [ha.out]; exact putSel_upk 5 hb_ rfl rfl rfl), Q_B0, Q_AL, fun h0_ => absurd ((hoff 24 (by kernel_rfl)).symm.trans h0_) (by decide), Q_X23_⟩
      refine steps_cons ?_ ?_
      · rintro b a w' ⟨gb, m23_, ha, Q_B0, Q_AL, Q_ST, Q_X23_⟩ hb_ hon hoff
        refine ⟨_, rfl, fun K hK => ?_⟩
        have e22 : a.tmps[22]? = some (.slice (some ⟨nb, 0, none⟩) 256 cp) := by rw [ha]; exact (putSel_off rfl).trans rfl
        replace ha := Aside0.mk ha
        have B0 := Aside0.mk Q_B0
        refine value_ (w1 := w') (v := .pointer (some ⟨nb, 2, none⟩)) (by rfl) rfl ?_ ?_
        · go_simp
          (try simp only [i64_w])
          try rfl
        refine hK.out _ _ ⟨gb, m23_, (by rw [ha.out]; exact putSel_upk 6 hb_ rfl rfl rfl), Q_B0, Q_AL, fun h0_ => absurd ((hoff 24 (by kernel_rfl)).symm.trans h0_) (by decide), Q_X23_⟩
      refine steps_cons ?_ ?_
      · rintro b a w' ⟨gb, m23_, ha, Q_B0, Q_AL, Q_ST, Q_X23_⟩ hb_ hon hoff
        refine ⟨_, rfl, fun K hK => ?_⟩
        have e23 : a.tmps[23]? = some (.pointer (some ⟨nb, 2, none⟩)) := by rw [ha]; exact putSel_on (e := (9, 23, .pointer (some ⟨nb, 2, none⟩))) 6 rfl rfl (hon 9 (by kernel_rfl)) rfl
        replace ha := Aside0.mk ha
        have B0 := Aside0.mk Q_B0
        have hc_ := (B0.out.cell (p := ⟨nb, 2, none⟩) HG.out).trans HX2.out
        refine value_ (w1 := w') (v := .int .u8 k2) (by rfl) rfl ?_ ?_
        · go_simp
          (try simp only [i64_w])
          try rfl
        refine hK.out _ _ ⟨gb, m23_, (by rw [ha.out]; exact putSel_upk 7 hb_ rfl rfl rfl), Q_B0, Q_AL, fun h0_ => absurd ((hoff 24 (by kernel_rfl)).symm.trans h0_) (by decide), Q_X23_⟩
      refine steps_cons ?_ ?_
      · rintro b a w' ⟨gb, m23_, ha, Q_B0, Q_AL, Q_ST, Q_X23_⟩ hb_ hon hoff
        refine ⟨_, rfl, fun K hK => ?_⟩
        have e24 : a.tmps[24]? = some (.int .u8 k2) := by rw [ha]; exact putSel_on (e := (10, 24, .int .u8 k2)) 7 rfl rfl (hon 10 (by kernel_rfl)) rfl
        replace ha := Aside0.mk ha
        have B0 := Aside0.mk Q_B0
        have hw_ := HW2.out
        refine value_ (w1 := w') (v := .int .i64 k2) (by rfl) rfl ?_ ?_
        · go_simp
          (try simp only [i64_w])
          try rfl
        refine hK.out _ _ ⟨gb, m23_, (by rw [ha.out]; exact putSel_upk 8 hb_ rfl rfl rfl), Q_B0, Q_AL, fun h0_ => absurd ((hoff 24 (by kernel_rfl)).symm.trans h0_) (by decide), Q_X23_⟩
      refine steps_cons ?_ ?_
      · rintro b a w' ⟨gb, m23_, ha, Q_B0, Q_AL, Q_ST, Q_X23_⟩ hb_ hon hoff
        refine ⟨_, rfl, fun K hK => ?_⟩
        have e26 : a.tmps[26]? = some (.slice (some ⟨nb, 0, none⟩) 256 cp) := by rw [ha]; exact (putSel_off rfl).trans rfl
        replace ha := Aside0.mk ha
        have B0 := Aside0.mk Q_B0
        refine goes_ Try.func49 (by kernel_rfl) rfl #[.slice (some ⟨nb, 0, none⟩) 256 cp, .int .i64 4, .int .i64 8] (by rfl) rfl rfl (by first | (simp only [List.map_toArray, List.map_cons, List.map_nil, Act.eval, Array.getD_eq_getD_getElem?, Option.getD_some, e26]; done) | (simp only [List.map_toArray, List.map_cons, List.map_nil, Act.eval, Array.getD_eq_getD_getElem?, Option.getD_some, e26]; rfl)) ?_
        with_reducible refine (X3.out _ B0.out).mono ?_
        rintro e w2 ⟨rfl, hb⟩
        refine ⟨_, rfl, ?_⟩
        refine hK.out _ _ ⟨gb, m23_, (by rw [ha.out]; exact putSel_upk 9 hb_ rfl rfl rfl), below_then B0.out B0.out.size hb, fun h0_ h1_ => ⟨(hb.block _ (Array.getElem?_eq_some_iff.1 (Q_AL h0_ h1_).1).1).trans (Q_AL h0_ h1_).1, (Q_AL h0_ h1_).2⟩, fun h0_ => absurd ((hoff 24 (by kernel_rfl)).symm.trans h0_) (by decide), Q_X23_⟩
      refine steps_cons ?_ ?_
      · rintro b a w' ⟨gb, m23_, ha, Q_B0, Q_AL, Q_ST, Q_X23_⟩ hb_ hon hoff
        refine ⟨_, rfl, fun K hK => ?_⟩
        have e28 : a.tmps[28]? = some (.slice (some ⟨nb, 0, none⟩) 256 cp) := by rw [ha]; exact (putSel_off rfl).trans rfl
        replace ha := Aside0.mk ha
        have B0 := Aside0.mk Q_B0
        refine goes_ Try.func49 (by kernel_rfl) rfl #[.slice (some ⟨nb, 0, none⟩) 256 cp, .int .i64 12, .int .i64 8] (by rfl) rfl rfl (by first | (simp only [List.map_toArray, List.map_cons, List.map_nil, Act.eval, Array.getD_eq_getD_getElem?, Option.getD_some, e28]; done) | (simp only [List.map_toArray, List.map_cons, List.map_nil, Act.eval, Array.getD_eq_getD_getElem?, Option.getD_some, e28]; rfl)) ?_
        with_reducible refine (X4.out _ B0.out).mono ?_
        rintro e w2 ⟨rfl, hb⟩
        refine ⟨_, rfl, ?_⟩
        refine hK.out _ _ ⟨gb, m23_, (by rw [ha.out]; exact putSel_upk 10 hb_ rfl rfl rfl), below_then B0.out B0.out.size hb, fun h0_ h1_ => ⟨(hb.block _ (Array.getElem?_eq_some_iff.1 (Q_AL h0_ h1_).1).1).trans (Q_AL h0_ h1_).1, (Q_AL h0_ h1_).2⟩, fun h0_ => absurd ((hoff 24 (by kernel_rfl)).symm.trans h0_) (by decide), Q_X23_⟩
      refine steps_cons ?_ ?_
      · rintro b a w' ⟨gb, m23_, ha, Q_B0, Q_AL, Q_ST, Q_X23_⟩ hb_ hon hoff
        refine ⟨_, rfl, fun K hK => ?_⟩
        have e30 : a.tmps[30]? = some (.slice (some ⟨nb, 0, none⟩) 256 cp) := by rw [ha]; exact (putSel_off rfl).trans rfl
        replace ha := Aside0.mk ha
        have B0 := Aside0.mk Q_B0
        refine goes_ Try.func49 (by kernel_rfl) rfl #[.slice (some ⟨nb, 0, none⟩) 256 cp, .int .i64 20, .int .i64 2] (by rfl) rfl rfl (by first | (simp only [List.map_toArray, List.map_cons, List.map_nil, Act.eval, Array.getD_eq_getD_getElem?, Option.getD_some, e30]; done) | (simp only [List.map_toArray, List.map_cons, List.map_nil, Act.eval, Array.getD_eq_getD_getElem?, Option.getD_some, e30]; rfl)) ?_
        with_reducible refine (X5.out _ B0.out).mono ?_
        rintro e w2 ⟨rfl, hb⟩
        refine ⟨_, rfl, ?_⟩
        refine hK.out _ _ ⟨gb, m23_, (by rw [ha.out]; exact putSel_upk 11 hb_ rfl rfl rfl), below_then B0.out B0.out.size hb, fun h0_ h1_ => ⟨(hb.block _ (Array.getElem?_eq_some_iff.1 (Q_AL h0_ h1_).1).1).trans (Q_AL h0_ h1_).1, (Q_AL h0_ h1_).2⟩, fun h0_ => absurd ((hoff 24 (by kernel_rfl)).symm.trans h0_) (by decide), Q_X23_⟩
      refine steps_cons ?_ ?_
      · rintro b a w' ⟨gb, m23_, ha, Q_B0, Q_AL, Q_ST, Q_X23_⟩ hb_ hon hoff
        refine ⟨_, rfl, fun K hK => ?_⟩
        have e31 : a.tmps[31]? = some (.int .u64 k5) := by rw [ha]; exact putSel_on (e := (17, 31, .int .u64 k5)) 11 rfl rfl (hon 17 (by kernel_rfl)) rfl
        replace ha := Aside0.mk ha
        have B0 := Aside0.mk Q_B0
        have hw_ := HW5.out
        refine value_ (w1 := w') (v := .int .i64 k5) (by rfl) rfl ?_ ?_
        · go_simp
          (try simp only [i64_w])
          try rfl
        refine hK.out _ _ ⟨gb, m23_, (by rw [ha.out]; exact putSel_upk 12 hb_ rfl rfl rfl), Q_B0, Q_AL, fun h0_ => absurd ((hoff 24 (by kernel_rfl)).symm.trans h0_) (by decide), Q_X23_⟩
      refine steps_cons ?_ ?_
      · rintro b a w' ⟨gb, m23_, ha, Q_B0, Q_AL, Q_ST, Q_X23_⟩ hb_ hon hoff
        refine ⟨_, rfl, fun K hK => ?_⟩
        have e33 : a.tmps[33]? = some (.slice (some ⟨nb, 0, none⟩) 256 cp) := by rw [ha]; exact (putSel_off rfl).trans rfl
        replace ha := Aside0.mk ha
        have B0 := Aside0.mk Q_B0
        refine goes_ Try.func49 (by kernel_rfl) rfl #[.slice (some ⟨nb, 0, none⟩) 256 cp, .int .i64 22, .int .i64 2] (by rfl) rfl rfl (by first | (simp only [List.map_toArray, List.map_cons, List.map_nil, Act.eval, Array.getD_eq_getD_getElem?, Option.getD_some, e33]; done) | (simp only [List.map_toArray, List.map_cons, List.map_nil, Act.eval, Array.getD_eq_getD_getElem?, Option.getD_some, e33]; rfl)) ?_
        with_reducible refine (X6.out _ B0.out).mono ?_
        rintro e w2 ⟨rfl, hb⟩
        refine ⟨_, rfl, ?_⟩
        refine hK.out _ _ ⟨gb, m23_, (by rw [ha.out]; exact putSel_upk 13 hb_ rfl rfl rfl), below_then B0.out B0.out.size hb, fun h0_ h1_ => ⟨(hb.block _ (Array.getElem?_eq_some_iff.1 (Q_AL h0_ h1_).1).1).trans (Q_AL h0_ h1_).1, (Q_AL h0_ h1_).2⟩, fun h0_ => absurd ((hoff 24 (by kernel_rfl)).symm.trans h0_) (by decide), Q_X23_⟩
      refine steps_cons ?_ ?_
      · rintro b a w' ⟨gb, m23_, ha, Q_B0, Q_AL, Q_ST, Q_X23_⟩ hb_ hon hoff
        refine ⟨_, rfl, fun K hK => ?_⟩
        have e34 : a.tmps[34]? = some (.int .u64 k6) := by rw [ha]; exact putSel_on (e := (20, 34, .int .u64 k6)) 13 rfl rfl (hon 20 (by kernel_rfl)) rfl
        replace ha := Aside0.mk ha
        have B0 := Aside0.mk Q_B0
        have hw_ := HW6.out
        refine value_ (w1 := w') (v := .int .i64 k6) (by rfl) rfl ?_ ?_
        · go_simp
          (try simp only [i64_w])
          try rfl
        refine hK.out _ _ ⟨gb, m23_, (by rw [ha.out]; exact putSel_upk 14 hb_ rfl rfl rfl), Q_B0, Q_AL, fun h0_ => absurd ((hoff 24 (by kernel_rfl)).symm.trans h0_) (by decide), Q_X23_⟩
      refine steps_cons ?_ ?_
      · rintro b a w' ⟨gb, m23_, ha, Q_B0, Q_AL, Q_ST, Q_X23_⟩ hb_ hon hoff
        refine ⟨_, rfl, fun K hK => ?_⟩
        have e17 : a.tmps[17]? = some (.int .i64 k0) := by rw [ha]; exact putSel_on (e := (3, 17, .int .i64 k0)) 2 rfl rfl (hon 3 (by kernel_rfl)) rfl
        have e21 : a.tmps[21]? = some (.int .i64 k1) := by rw [ha]; exact putSel_on (e := (7, 21, .int .i64 k1)) 5 rfl rfl (hon 7 (by kernel_rfl)) rfl
        have e25 : a.tmps[25]? = some (.int .i64 k2) := by rw [ha]; exact putSel_on (e := (11, 25, .int .i64 k2)) 8 rfl rfl (hon 11 (by kernel_rfl)) rfl
        have e27 : a.tmps[27]? = some (.int .u64 k3) := by rw [ha]; exact putSel_on (e := (13, 27, .int .u64 k3)) 9 rfl rfl (hon 13 (by kernel_rfl)) rfl
        have e29 : a.tmps[29]? = some (.int .u64 k4) := by rw [ha]; exact putSel_on (e := (15, 29, .int .u64 k4)) 10 rfl rfl (hon 15 (by kernel_rfl)) rfl
        have e32 : a.tmps[32]? = some (.int .i64 k5) := by rw [ha]; exact putSel_on (e := (18, 32, .int .i64 k5)) 12 rfl rfl (hon 18 (by kernel_rfl)) rfl
        have e35 : a.tmps[35]? = some (.int .i64 k6) := by rw [ha]; exact putSel_on (e := (21, 35, .int .i64 k6)) 14 rfl rfl (hon 21 (by kernel_rfl)) rfl
        replace ha := Aside0.mk ha
        have B0 := Aside0.mk Q_B0
        refine value_ (w1 := w') (v := .agg #[.int .i64 k0, .int .i64 k1, .int .i64 k2, .int .u64 k3, .int .u64 k4, .int .i64 k5, .int .i64 k6]) (by rfl) rfl ?_ ?_
        · go_simp
          (try simp only [i64_w])
          try rfl
        refine hK.out _ _ ⟨gb, m23_, (by rw [ha.out]; exact putSel_upk 15 hb_ rfl rfl rfl), Q_B0, Q_AL, fun h0_ => absurd ((hoff 24 (by kernel_rfl)).symm.trans h0_) (by decide), Q_X23_⟩
      refine steps_cons ?_ ?_
      · rintro b a w' ⟨gb, m23_, ha, Q_B0, Q_AL, Q_ST, Q_X23_⟩ hb_ hon hoff
        refine ⟨_, rfl, fun K hK => ?_⟩
        replace ha := Aside0.mk ha
        have B0 := Aside0.mk Q_B0
        refine value_ (w1 := w'.alloc (Obj.cells #[.int .i64 0, .int .i64 0, .int .i64 0, .int .u64 0, .int .u64 0, .int .i64 0, .int .i64 0] 50)) (v := .pointer (some ⟨w'.heap.size, 0, none⟩)) (by rfl) rfl (by first | (go_simp; done) | (go_simp; rfl)) ?_
        have hb := below_alloc (Below.refl w'.heap.size w') (Obj.cells #[.int .i64 0, .int .i64 0, .int .i64 0, .int .u64 0, .int .u64 0, .int .i64 0, .int .i64 0] 50)
        refine hK.out _ _ ⟨w'.heap.size, (.pointer (some ⟨w'.heap.size, 0, none⟩)), (by rw [ha.out]; exact putSel_upk 16 hb_ rfl rfl rfl), below_then B0.out B0.out.size hb, fun _ _ => ⟨heap_alloc_new w' _, B0.out.size⟩, fun h0_ => absurd ((hoff 24 (by kernel_rfl)).symm.trans h0_) (by decide), fun _ => rfl⟩
      refine steps_cons ?_ ?_
      · rintro b a w' ⟨gb, m23_, ha, Q_B0, Q_AL, Q_ST, Q_X23_⟩ hb_ hon hoff
        refine ⟨_, rfl, fun K hK => ?_⟩
        have e6 : a.tmps[6]? = some (m23_) := by rw [ha]; exact putSel_on (e := (23, 6, m23_)) 16 rfl rfl (hon 23 (by kernel_rfl)) rfl
        rw [Q_X23_ (hon 23 (by kernel_rfl))] at e6
        have e36 : a.tmps[36]? = some (.agg #[.int .i64 k0, .int .i64 k1, .int .i64 k2, .int .u64 k3, .int .u64 k4, .int .i64 k5, .int .i64 k6]) := by rw [ha]; exact putSel_on (e := (22, 36, .agg #[.int .i64 k0, .int .i64 k1, .int .i64 k2, .int .u64 k3, .int .u64 k4, .int .i64 k5, .int .i64 k6])) 15 rfl rfl (hon 22 (by kernel_rfl)) rfl
        replace ha := Aside0.mk ha
        have B0 := Aside0.mk Q_B0
        have AL := Aside0.mk (Q_AL (hon 23 (by kernel_rfl)) hb_)
        have d0 := blk_cell AL.out.1 0
        have d1 := blk_cell AL.out.1 1
        have d2 := blk_cell AL.out.1 2
        have d3 := blk_cell AL.out.1 3
        have d4 := blk_cell AL.out.1 4
        have d5 := blk_cell AL.out.1 5
        have d6 := blk_cell AL.out.1 6
        have e0 := blk_frozen AL.out.1 0
        have e1 := blk_frozen AL.out.1 1
        have e2 := blk_frozen AL.out.1 2
        have e3 := blk_frozen AL.out.1 3
        have e4 := blk_frozen AL.out.1 4
        have e5 := blk_frozen AL.out.1 5
        have e6 := blk_frozen AL.out.1 6
        have hst := wagtailref15_Get.store7 k0 k1 k2 k3 k4 k5 k6 AL.out B0.out
        refine skip_ (w1 := ?_) (by rfl) rfl ?_ ?_
        rotate_left
        · go_simp
          rfl
        refine hK.out _ _ ⟨gb, m23_, (by rw [ha.out]; exact putSel_none (v := undef) rfl), hst.1, fun _ h1_ => absurd ((up_self b 24).symm.trans h1_) (by decide), fun _ => hst.2, Q_X23_⟩
      exact steps_nil
    rintro b a wl hall ⟨gb, m23_, ha, Q_B0, Q_AL, Q_ST, Q_X23_⟩
    clear B0
    have hb1_ := hall 1 (by kernel_rfl)
    have hb2_ := hall 2 (by kernel_rfl)
    have hb3_ := hall 3 (by kernel_rfl)
    have hb5_ := hall 5 (by kernel_rfl)
    have hb6_ := hall 6 (by kernel_rfl)
    have hb7_ := hall 7 (by kernel_rfl)
    have hb9_ := hall 9 (by kernel_rfl)
    have hb10_ := hall 10 (by kernel_rfl)
    have hb11_ := hall 11 (by kernel_rfl)
    have hb13_ := hall 13 (by kernel_rfl)
    have hb15_ := hall 15 (by kernel_rfl)
    have hb17_ := hall 17 (by kernel_rfl)
    have hb18_ := hall 18 (by kernel_rfl)
    have hb20_ := hall 20 (by kernel_rfl)
    have hb21_ := hall 21 (by kernel_rfl)
    have hb22_ := hall 22 (by kernel_rfl)
    have hb23_ := hall 23 (by kernel_rfl)
    have hb24_ := hall 24 (by kernel_rfl)
    subst ha
    obtain rfl := Q_X23_ hb23_
    simp only [putSel, hb1_, hb2_, hb3_, hb5_, hb6_, hb7_, hb9_, hb10_, hb11_, hb13_, hb15_, hb17_, hb18_, hb20_, hb21_, hb22_, hb23_, hb24_, if_true, Act.put, List.setIfInBounds_toArray, List.set_cons_zero, List.set_cons_succ]
    have B0 := Aside0.mk Q_B0
    clear Q_B0
    clear Q_AL
    have ST := Aside0.mk (Q_ST hb24_)
    clear Q_ST
    clear hall hb1_ hb2_ hb3_ hb5_ hb6_ hb7_ hb9_ hb10_ hb11_ hb13_ hb15_ hb17_ hb18_ hb20_ hb21_ hb22_ hb23_ hb24_
    have Z1 := Aside0.mk (blk_below HZ.out B0.out)
    have BB := Aside0.mk (below_then HB.out HB.out.size B0.out)
    have HGN := Aside0.mk (show gb ≠ w.heap.size by have := ST.out.2; have := HNE.out; omega)
    have hc := ST.out.1
    have c0 := blk_cell hc 0
    have c1 := blk_cell hc 1
    have c2 := blk_cell hc 2
    have c3 := blk_cell hc 3
    have c4 := blk_cell hc 4
    have c5 := blk_cell hc 5
    have c6 := blk_cell hc 6
    clear hc HT_ HW_ X3 X4 X5 X6 HX0 HX1 HX2 HW0 HW1 HW2 HW5 HW6 hHeld B0 HB HZ HG HNE
    by_cases hm : headMay k0 k1 k2 k3 k4 k5 k6 = true
    case neg =>
      have hmf : headMay k0 k1 k2 k3 k4 k5 k6 = false := by simpa using hm
      have h := H.out
      unfold wagtailref15_Get.g at h
      rw [if_neg hm] at h
      simp only [wagtailref15_Get.z, Option.some.injEq, Prod.mk.injEq] at h
      obtain ⟨rfl, rfl, rfl, rfl, rfl, rfl, rfl, rfl, rfl⟩ := h
      have HM := Aside0.mk ((wagtailref15_Get.may_head k0 k1 k2 k3 k4 k5 k6).trans (congrArg some hmf))
      clear hm hmf H
      go_wp2_with ((go_at_call 38); (with_reducible refine (wagtailref15_May.calls k0 k1 k2 k3 k4 k5 k6 false _ HM.out).mono ?_); rintro e w2 ⟨rfl, hb⟩; have Z2 := blk_below Z1.out hb; have d0 := blk_cell Z2 0; have d1 := blk_cell Z2 1; have d2 := blk_cell Z2 2; have d3 := blk_cell Z2 3; have d4 := blk_cell Z2 4; have d5 := blk_cell Z2 5; have d6 := blk_cell Z2 6; have e0 := blk_frozen Z2 0; have e1 := blk_frozen Z2 1; have e2 := blk_frozen Z2 2; have e3 := blk_frozen Z2 3; have e4 := blk_frozen Z2 4; have e5 := blk_frozen Z2 5; have e6 := blk_frozen Z2 6; have hst := Aside0.mk (wagtailref15_Get.store7 0 0 0 0 0 0 0 ⟨Z2, Nat.le_refl _⟩ (below_then BB.out BB.out.size hb)); replace Z2 := Aside0.mk Z2; clear hb)
      refine bodyPost_ret (results_ctt rfl _ _ w.heap.size 50 _ (0, 0) _ rfl hst.out.2.1 Try.underlying50 rfl (by kernel_rfl)) rfl ?_
      exact ⟨rfl, hst.out.1⟩
    case pos =>
      have hrg := wagtailref15_Put.headMay_range hm
      obtain ⟨m, rfl⟩ := Int.eq_ofNat_of_zero_le hrg.2.2.2.2.2.2.1
      have hm1 : m ≤ 228 := by omega
      have HM := Aside0.mk ((wagtailref15_Get.may_head k0 k1 k2 k3 k4 k5 (m : Int)).trans (congrArg some hm))
      have hw24 : wrap64 (24 + (m : Int)) = 24 + (m : Int) := by unfold wrap64; omega
      have hi1 : (24 : Int) ≤ 24 + (m : Int) := by omega
      have hi2 : 24 + (m : Int) ≤ (a0.size : Int) := by have := HS.out; omega
      have HMM := Aside0.mk hm
      have HM1 := Aside0.mk hm1
      clear hrg hm hm1
      go_upto_region 8 with ((go_at_call 38); (with_reducible refine (wagtailref15_May.calls k0 k1 k2 k3 k4 k5 (m : Int) true _ HM.out).mono ?_); rintro e w2 ⟨rfl, hb⟩; have hc2 := blk_below ST.out.1 hb; have f0 := blk_cell hc2 0; have f1 := blk_cell hc2 1; have f2 := blk_cell hc2 2; have f3 := blk_cell hc2 3; have f4 := blk_cell hc2 4; have f5 := blk_cell hc2 5; have f6 := blk_cell hc2 6; replace Z1 := Aside0.mk (blk_below Z1.out hb); replace BB := Aside0.mk (below_then BB.out BB.out.size hb); replace hc2 := Aside0.mk hc2; clear hb)
      clear c0 c1 c2 c3 c4 c5 c6
      obtain ⟨d, hd⟩ : ∃ d, d = a0.extract 24 (24 + m) := ⟨_, rfl⟩
      have hds : d.size = m := by rw [hd, ByteArray.size_extract]; have := HS.out; omega
      have h := H.out
      rw [show strOfNums (List.take ((m : Int)).toNat (List.drop 24 l)) = d by rw [hd, wagtailref15_Get.cut_str, ← hl.out, Int.toNat_natCast]] at h
      rw [← hd]
      unfold wagtailref15_Get.g at h
      rw [if_pos HMM.out] at h
      obtain ⟨p, hp⟩ : ∃ p, p = strOfNums (pageBody k0 k1 k2 k3 k4 k5 (m : Int) (bytesOf d) ++ beBytes 4 (zsum (pageBody k0 k1 k2 k3 k4 k5 (m : Int) (bytesOf d)))) := ⟨_, rfl⟩
      rw [← hp] at h
      have HP := Aside0.mk (show wagtailref15_Put.f k0 k1 k2 k3 k4 k5 (m : Int) d = some p by
        unfold wagtailref15_Put.f
        rw [if_pos ⟨HMM.out, HRG.out.1.1, HRG.out.2.1.1, by rw [hds]; exact HM1.out⟩, hp])
      clear H hp hd hds hw24 hi1 hi2
      by_cases hpe : p = a0
      case neg =>
        rw [if_neg hpe] at h
        simp only [wagtailref15_Get.z, Option.some.injEq, Prod.mk.injEq] at h
        obtain ⟨rfl, rfl, rfl, rfl, rfl, rfl, rfl, rfl, rfl⟩ := h
        have hp2 : (p.toList == a0.toList) = false := by
          rw [beq_eq_false_iff_ne, ne_eq, ByteArray.toList_eq, ByteArray.toList_eq]
          exact fun h => hpe (ByteArray.ext (Array.ext' h))
        clear hpe
        go_wp2_with ((go_at_call 41); (with_reducible refine (wagtailref15_Put.calls k0 k1 k2 k3 k4 k5 (m : Int) d p _ HP.out).mono ?_); rintro e w3 ⟨rfl, hb⟩; have Z2 := blk_below Z1.out hb; have d0 := blk_cell Z2 0; have d1 := blk_cell Z2 1; have d2 := blk_cell Z2 2; have d3 := blk_cell Z2 3; have d4 := blk_cell Z2 4; have d5 := blk_cell Z2 5; have d6 := blk_cell Z2 6; have e0 := blk_frozen Z2 0; have e1 := blk_frozen Z2 1; have e2 := blk_frozen Z2 2; have e3 := blk_frozen Z2 3; have e4 := blk_frozen Z2 4; have e5 := blk_frozen Z2 5; have e6 := blk_frozen Z2 6; have hst := Aside0.mk (wagtailref15_Get.store7 0 0 0 0 0 0 0 ⟨Z2, Nat.le_refl _⟩ (below_then BB.out BB.out.size hb)); replace Z2 := Aside0.mk Z2; clear hb)
        refine bodyPost_ret (results_ctt rfl _ _ w.heap.size 50 _ (0, 0) _ rfl hst.out.2.1 Try.underlying50 rfl (by kernel_rfl)) rfl ?_
        exact ⟨rfl, hst.out.1⟩
      case pos =>
        rw [if_pos hpe] at h
        simp only [Option.some.injEq, Prod.mk.injEq] at h
        obtain ⟨rfl, rfl, rfl, rfl, rfl, rfl, rfl, rfl, rfl⟩ := h
        have hp2 : (p.toList == a0.toList) = true := by rw [hpe]; simp
        clear hpe
        go_wp2_with ((go_at_call 41); (with_reducible refine (wagtailref15_Put.calls k0 k1 k2 k3 k4 k5 (m : Int) d p _ HP.out).mono ?_); rintro e w3 ⟨rfl, hb⟩; have hc3 := blk_below hc2.out hb; have c0 := blk_cell hc3 0; have c1 := blk_cell hc3 1; have c2 := blk_cell hc3 2; have c3 := blk_cell hc3 3; have c4 := blk_cell hc3 4; have c5 := blk_cell hc3 5; have c6 := blk_cell hc3 6; replace hc3 := Aside0.mk hc3; have Z2 := blk_below Z1.out hb; have d0 := blk_cell Z2 0; have d1 := blk_cell Z2 1; have d2 := blk_cell Z2 2; have d3 := blk_cell Z2 3; have d4 := blk_cell Z2 4; have d5 := blk_cell Z2 5; have d6 := blk_cell Z2 6; have e0 := blk_frozen Z2 0; have e1 := blk_frozen Z2 1; have e2 := blk_frozen Z2 2; have e3 := blk_frozen Z2 3; have e4 := blk_frozen Z2 4; have e5 := blk_frozen Z2 5; have e6 := blk_frozen Z2 6; have hst := Aside0.mk (wagtailref15_Get.store7 k0 k1 k2 k3 k4 k5 (m : Int) ⟨Z2, Nat.le_refl _⟩ (below_then BB.out BB.out.size hb)); replace Z2 := Aside0.mk Z2; clear hb)
        refine bodyPost_ret (results_ctt rfl _ _ w.heap.size 50 _ (0, 0) _ rfl hst.out.2.1 Try.underlying50 rfl (by kernel_rfl)) rfl ?_
        exact ⟨rfl, hst.out.1⟩

end Go.Proofs.Ytmlkkdopogcggaa.Hp
