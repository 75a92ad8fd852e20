-- Laid by this workplace's own program hprint.py (functions marked by hand are ours; the others are printed out of the translation). Not trusted: Lean checks it.
import Derived.Test.YtmlkkdopogcggaaHp0
import Derived.Test.YtmlkkdopogcggaaHp31
namespace Go.Proofs.Ytmlkkdopogcggaa.Hp
open Go.RowKit Go.Proofs.YtmlkkdopogcggaaW.PrintWords Go.Proofs.YtmlkkdopogcggaaW.PrintLast Go.Proofs.YtmlkkdopogcggaaW.PrintMore
attribute [local go_sem] max2_int min2_int max_two min_two max_three min_three max_four min_four   -- for this text's walks alone
set_option linter.unusedVariables false
set_option linter.unusedSimpArgs false

/-! ### page_read: function 64 -/
-- a function whose text and proof are by hand
def page_read.f (l : List Int) : Option (Int × Int × Int × Int × Int × Int × Int × ByteArray) := if isBytes l ∧ l.length = 256 then some (numOf l 0 1, numOf l 1 1, numOf l 2 1, beNum l 4 8, beNum l 12 8, numOf l 20 2, numOf l 22 2, strOfNums (dataOf l)) else none
theorem beNum_range (l : List Int) (h : isBytes l) (a : Int) (w : Nat) (hw : w ≤ 8) : 0 ≤ beNum l a w ∧ beNum l a w < 18446744073709551616 := by
  have h1 := bePre_range l h a w
  unfold beNum
  refine ⟨h1.1, Int.lt_of_lt_of_le h1.2 ?_⟩
  have : ∀ w, w ≤ 8 → (256 : Int) ^ w ≤ 18446744073709551616 := by decide
  exact this w hw
theorem beAt_in (l : List Int) (a : Int) (h0 : 0 ≤ a) (h1 : a ≤ l.length) : beAt l a = a := by
  unfold beAt mx
  (repeat' split) <;> omega
set_option maxHeartbeats 1000000 in
theorem read_clo (at_ : Int) (wv : Int) (A1 : Option Addr) (c1 : Nat) (l1 : List Int) (p : Addr) (W : World)
    (hp : W.cell? p = some (.slice A1 l1.length c1)) (hr1 : Kd.C (Kd.int .u8) W A1 l1.length l1) (hc : l1.length ≤ c1) (hb : isBytes l1) (hl : l1.length = 256) (h0 : 0 ≤ at_) (h1 : at_ ≤ 256) :
    Calls Try.prog 70 #[.int .i64 at_, .int .i64 wv, .pointer (some p)] W fun e w' => e = .returned (.int .i64 (numOf l1 at_ (wid wv))) ∧ Below W.heap.size W w' := by
  have hrg := beNum_range l1 hb at_ (wid wv) (wid_le wv)
  have hg : be_Get.f l1 at_ wv = some (beNum l1 at_ (wid wv)) := by
    unfold be_Get.f
    rw [if_pos ⟨hb, by omega⟩, beAt_in l1 at_ h0 (by omega)]
  have e1 : Int.tmod (beNum l1 at_ (wid wv)) 4294967296 = numOf l1 at_ (wid wv) := by
    unfold numOf
    rw [Int.tmod_eq_emod_of_nonneg hrg.1]
  have hE := Aside0.mk (show wrap64 (Int.tmod (beNum l1 at_ (wid wv)) 4294967296) = numOf l1 at_ (wid wv) by
    rw [e1, show wrap64 (numOf l1 at_ (wid wv)) = numOf l1 at_ (wid wv) from by unfold wrap64 numOf; omega])
  have HR := Aside0.mk hr1
  have HC := Aside0.mk hc
  have HG := Aside0.mk hg
  clear hr1 hc hg hb hl h0 h1 hrg e1
  go_enter Try.func70, Try.ntmps70
  go_wp2_with ((go_at_call 71); (with_reducible refine (be_Get.calls _ _ l1 at_ wv _ _ HR.out HC.out HG.out).mono ?_); rintro e w' ⟨rfl, hb⟩; have HB := Aside0.mk hb; clear hb)
  rw [hE.out]
  go_ret
  exact ⟨rfl, HB.out⟩

theorem keepC {n N : Nat} {v : Value} {W0 W w' : World} (h : W.cell? ⟨n, 0, none⟩ = some v ∧ Below N W0 W) (hb : Below W.heap.size W w') (hN : N ≤ W0.heap.size) : w'.cell? ⟨n, 0, none⟩ = some v ∧ Below N W0 w' :=
  ⟨(hb.cell (World.block_lt_of_cell? W _ h.1)).trans h.1, below_then h.2 (Nat.le_trans hN h.2.size) hb⟩
theorem keepA {n N : Nat} {v : Value} {W0 W : World} (h : W.cell? ⟨n, 0, none⟩ = some v ∧ Below N W0 W) (o : Obj) (hN : N ≤ W0.heap.size) : (W.alloc o).cell? ⟨n, 0, none⟩ = some v ∧ Below N W0 (W.alloc o) :=
  keepC h (below_alloc (Below.refl _ _) o) hN
theorem keepD {n N : Nat} {v : Value} {W0 W : World} (h : W.cell? ⟨n, 0, none⟩ = some v ∧ Below N W0 W) (hN : N ≤ W0.heap.size) : W.drew.cell? ⟨n, 0, none⟩ = some v ∧ Below N W0 W.drew :=
  keepC h (below_drew (Below.refl _ _)) hN
theorem blkC2 {g N : Nat} {o : Obj} {W w' : World} (h : W.heap[g]? = some o ∧ N ≤ g) (hb : Below W.heap.size W w') : w'.heap[g]? = some o ∧ N ≤ g :=
  ⟨(hb.block g (Array.getElem?_eq_some_iff.1 h.1).1).trans h.1, h.2⟩
theorem blkN {n : Nat} {v : Value} {W0 W : World} (h : W.cell? ⟨n, 0, none⟩ = some v ∧ Below W0.heap.size W0 W) (o : Obj) : (W.alloc o).heap[W.heap.size]? = some o ∧ W0.heap.size ≤ W.heap.size := ⟨heap_alloc_new W o, h.2.size⟩
theorem blkA2 {n : Nat} {v : Value} {o : Obj} {W0 W w' : World} (h : W.cell? ⟨n, 0, none⟩ = some v ∧ Below W0.heap.size W0 W) (hb : Below (W.alloc o).heap.size (W.alloc o) w') : w'.heap[W.heap.size]? = some o ∧ W0.heap.size ≤ W.heap.size := blkC2 (blkN h o) hb
theorem blkA3 {n : Nat} {v : Value} {o : Obj} {W0 W w' : World} (h : W.drew.cell? ⟨n, 0, none⟩ = some v ∧ Below W0.heap.size W0 W.drew) (hb : Below (W.drew.alloc o).heap.size (W.drew.alloc o) w') : w'.heap[W.heap.size]? = some o ∧ W0.heap.size ≤ W.heap.size := blkC2 (blkN h o) hb
theorem store7c {n g N : Nat} {v : Value} {W0 W : World} (x0 x1 x2 x3 x4 x5 x6 : Int) (h : W.cell? ⟨n, 0, none⟩ = some v ∧ Below N W0 W) (hn : n < N) (hz : W.heap[g]? = some (.cells #[.int .i64 0, .int .i64 0, .int .i64 0, .int .u64 0, .int .u64 0, .int .i64 0, .int .i64 0] 50 (0, 0)) ∧ N ≤ g) :
    (((((((((W.setCell ⟨g, 0, none⟩ (.int .i64 x0)).setCell ⟨g, 1, none⟩ (.int .i64 x1)).setCell ⟨g, 2, none⟩ (.int .i64 x2)).setCell ⟨g, 3, none⟩ (.int .u64 x3)).setCell ⟨g, 4, none⟩ (.int .u64 x4)).setCell ⟨g, 5, none⟩ (.int .i64 x5)).setCell ⟨g, 6, none⟩ (.int .i64 x6)).cell? ⟨n, 0, none⟩ = some v ∧ Below N W0 (((((((W.setCell ⟨g, 0, none⟩ (.int .i64 x0)).setCell ⟨g, 1, none⟩ (.int .i64 x1)).setCell ⟨g, 2, none⟩ (.int .i64 x2)).setCell ⟨g, 3, none⟩ (.int .u64 x3)).setCell ⟨g, 4, none⟩ (.int .u64 x4)).setCell ⟨g, 5, none⟩ (.int .i64 x5)).setCell ⟨g, 6, none⟩ (.int .i64 x6))) ∧ ((((((((W.setCell ⟨g, 0, none⟩ (.int .i64 x0)).setCell ⟨g, 1, none⟩ (.int .i64 x1)).setCell ⟨g, 2, none⟩ (.int .i64 x2)).setCell ⟨g, 3, none⟩ (.int .u64 x3)).setCell ⟨g, 4, none⟩ (.int .u64 x4)).setCell ⟨g, 5, none⟩ (.int .i64 x5)).setCell ⟨g, 6, none⟩ (.int .i64 x6)).heap[g]? = some (.cells #[.int .i64 x0, .int .i64 x1, .int .i64 x2, .int .u64 x3, .int .u64 x4, .int .i64 x5, .int .i64 x6] 50 (0, 0)) ∧ N ≤ g)) ∧
    (W.cell? ⟨g, 0, none⟩ = some (.int .i64 0) ∧ W.cell? ⟨g, 1, none⟩ = some (.int .i64 0) ∧ W.cell? ⟨g, 2, none⟩ = some (.int .i64 0) ∧ W.cell? ⟨g, 3, none⟩ = some (.int .u64 0) ∧ W.cell? ⟨g, 4, none⟩ = some (.int .u64 0) ∧ W.cell? ⟨g, 5, none⟩ = some (.int .i64 0) ∧ W.cell? ⟨g, 6, none⟩ = some (.int .i64 0)) ∧ (W.frozen? ⟨g, 0, none⟩ = false ∧ W.frozen? ⟨g, 1, none⟩ = false ∧ W.frozen? ⟨g, 2, none⟩ = false ∧ W.frozen? ⟨g, 3, none⟩ = false ∧ W.frozen? ⟨g, 4, none⟩ = false ∧ W.frozen? ⟨g, 5, none⟩ = false ∧ W.frozen? ⟨g, 6, none⟩ = false) := by
  have h0 := blk_set hz.1 0 (.int .i64 x0)
  have h1 := blk_set h0 1 (.int .i64 x1)
  have h2 := blk_set h1 2 (.int .i64 x2)
  have h3 := blk_set h2 3 (.int .u64 x3)
  have h4 := blk_set h3 4 (.int .u64 x4)
  have h5 := blk_set h4 5 (.int .i64 x5)
  have h6 := blk_set h5 6 (.int .i64 x6)
  have hg := hz.2
  refine ⟨⟨⟨?_, ?_⟩, by simpa using h6, hz.2⟩, ⟨blk_cell hz.1 0, blk_cell hz.1 1, blk_cell hz.1 2, blk_cell hz.1 3, blk_cell hz.1 4, blk_cell hz.1 5, blk_cell hz.1 6⟩, blk_frozen hz.1 0, blk_frozen hz.1 1, blk_frozen hz.1 2, blk_frozen hz.1 3, blk_frozen hz.1 4, blk_frozen hz.1 5, blk_frozen hz.1 6⟩
  · repeat rw [World.cell?_setCell_far _ _ _ _ (by show g ≠ n; omega)]
    exact h.1
  · exact (((((((h.2.setCell (p := ⟨g, _, none⟩) hg _).setCell (p := ⟨g, _, none⟩) hg _).setCell (p := ⟨g, _, none⟩) hg _).setCell (p := ⟨g, _, none⟩) hg _).setCell (p := ⟨g, _, none⟩) hg _).setCell (p := ⟨g, _, none⟩) hg _).setCell (p := ⟨g, _, none⟩) hg _)
set_option maxHeartbeats 8000000 in
set_option maxRecDepth 100000 in
theorem page_read.calls (A0 : Option Addr) (c0 : Nat) (l0 : List Int) (r1 : Int) (r2 : Int) (r3 : Int) (r4 : Int) (r5 : Int) (r6 : Int) (r7 : Int) (r8 : ByteArray) (w : World) (hr0 : Kd.C (Kd.int .u8) w A0 l0.length l0) (hc0 : l0.length ≤ c0) (h : page_read.f l0 = some (r1, r2, r3, r4, r5, r6, r7, r8)) :
    Calls Try.prog 64 #[.slice A0 l0.length c0] w fun e w' => e = .returned (.tuple #[.agg #[.int .i64 r1, .int .i64 r2, .int .i64 r3, .int .u64 r4, .int .u64 r5, .int .i64 r6, .int .i64 r7], .string r8]) ∧ Below w.heap.size w w' := by
  unfold page_read.f at h
  by_cases hb : isBytes l0 ∧ l0.length = 256
  case neg => rw [if_neg hb] at h; cases h
  rw [if_pos hb] at h
  obtain ⟨hb, hl⟩ := hb
  simp only [Option.some.injEq, Prod.mk.injEq] at h
  obtain ⟨rfl, rfl, rfl, rfl, rfl, rfl, rfl, rfl⟩ := h
  have HK := fun (at_ wv : Int) (p : Addr) (W : World) (hB : Below w.heap.size w W) (hp : W.cell? p = some (.slice A0 l0.length c0)) (h0 : 0 ≤ at_) (h1 : at_ ≤ 256) =>
    read_clo at_ wv A0 c0 l0 p W hp (Kd.C_below hr0 hB) hc0 hb hl h0 h1
  have HL := fun (at_ : Int) (W : World) (hB : Below w.heap.size w W) (h0 : 0 ≤ at_) (h1 : at_ ≤ 256) =>
    be_Get.calls A0 c0 l0 at_ 8 (beNum l0 at_ 8) W (Kd.C_below hr0 hB) hc0 (by
      unfold be_Get.f
      rw [if_pos ⟨hb, by omega⟩, beAt_in l0 at_ h0 (by omega)]
      rfl)
  replace HK := Aside0.mk HK
  replace HL := Aside0.mk HL
  have HR := Aside0.mk hr0
  have hcc := hc0
  clear hr0 hc0
  have HLen := Aside0.mk hl
  have HC := Aside0.mk hcc
  have HBy := Aside0.mk hb
  clear hl hb
  have hmf : ∀ (fn : Fn) (first cap : Array Value) (w : World), (Instr.makeFunc fn first cap).run Try.prog w = .ok (.func fn first cap) w := fun _ _ _ _ => rfl
  go_enter Try.func64, Try.ntmps64
  go_upto_region 2 with fail
  have hS0 : ((w.alloc (Obj.cells #[Value.slice A0 l0.length c0] 35)).alloc (Obj.cells #[Value.int IntKind.i64 0, Value.int IntKind.i64 0, Value.int IntKind.i64 0, Value.int IntKind.u64 0, Value.int IntKind.u64 0, Value.int IntKind.i64 0, Value.int IntKind.i64 0] 50)).heap.size = w.heap.size + 2 := by simp
  have hB0 : Below w.heap.size w ((w.alloc (Obj.cells #[Value.slice A0 l0.length c0] 35)).alloc (Obj.cells #[Value.int IntKind.i64 0, Value.int IntKind.i64 0, Value.int IntKind.i64 0, Value.int IntKind.u64 0, Value.int IntKind.u64 0, Value.int IntKind.i64 0, Value.int IntKind.i64 0] 50)) := below_alloc (below_alloc (Below.refl _ _) _) _
  have hb1 := heap_alloc_new (w.alloc (Obj.cells #[Value.slice A0 l0.length c0] 35)) (Obj.cells #[Value.int IntKind.i64 0, Value.int IntKind.i64 0, Value.int IntKind.i64 0, Value.int IntKind.u64 0, Value.int IntKind.u64 0, Value.int IntKind.i64 0, Value.int IntKind.i64 0] 50)
  have hc0 : ((w.alloc (Obj.cells #[Value.slice A0 l0.length c0] 35)).alloc (Obj.cells #[Value.int IntKind.i64 0, Value.int IntKind.i64 0, Value.int IntKind.i64 0, Value.int IntKind.u64 0, Value.int IntKind.u64 0, Value.int IntKind.i64 0, Value.int IntKind.i64 0] 50)).cell? ⟨w.heap.size, 0, none⟩ = some (.slice A0 l0.length c0) := by simp
  rw [show (w.alloc (Obj.cells #[Value.slice A0 l0.length c0] 35)).heap.size = w.heap.size + 1 by simp] at hb1
  generalize ((w.alloc (Obj.cells #[Value.slice A0 l0.length c0] 35)).alloc (Obj.cells #[Value.int IntKind.i64 0, Value.int IntKind.i64 0, Value.int IntKind.i64 0, Value.int IntKind.u64 0, Value.int IntKind.u64 0, Value.int IntKind.i64 0, Value.int IntKind.i64 0] 50)) = W0 at hS0 hB0 hb1 hc0 ⊢
  have HK2 := Aside0.mk (fun (at_ wv : Int) (W : World) (hS : W.cell? ⟨w.heap.size, 0, none⟩ = some (.slice A0 l0.length c0) ∧ Below W0.heap.size W0 W) (h0 : 0 ≤ at_) (h1 : at_ ≤ 256) =>
    HK.out at_ wv ⟨w.heap.size, 0, none⟩ W (below_then hB0 hB0.size hS.2) hS.1 h0 h1)
  have HL2 := Aside0.mk (fun (at_ : Int) (W : World) (hS : W.cell? ⟨w.heap.size, 0, none⟩ = some (.slice A0 l0.length c0) ∧ Below W0.heap.size W0 W) (h0 : 0 ≤ at_) (h1 : at_ ≤ 256) =>
    HL.out at_ W (below_then hB0 hB0.size hS.2) h0 h1)
  clear HK HL
  go_cut [5] from 7 to 21 (fun v5 wx => ∃ g, v5 = .pointer (some ⟨g, 0, none⟩) ∧ W0.heap.size ≤ g ∧ Below W0.heap.size W0 wx ∧ wx.heap[g]? = some (.cells #[.int .i64 (numOf l0 0 (wid 1)), .int .i64 (numOf l0 1 (wid 1)), .int .i64 (numOf l0 2 (wid 1)), .int .u64 (beNum l0 4 8), .int .u64 (beNum l0 12 8), .int .i64 (numOf l0 20 (wid 2)), .int .i64 (numOf l0 22 (wid 2))] 50 (0, 0)))
  case first =>
    have hn : w.heap.size < W0.heap.size := by omega
    replace hS0 := Aside0.mk hS0
    have k := keepD (n := w.heap.size) (v := .slice A0 l0.length c0) ⟨hc0, Below.refl W0.heap.size W0⟩ (Nat.le_refl _)
    have kd := keepD (keepA (n := w.heap.size) (v := .slice A0 l0.length c0) ⟨hc0, Below.refl W0.heap.size W0⟩ (Obj.cells #[Value.int IntKind.i64 0, Value.int IntKind.i64 0, Value.int IntKind.i64 0, Value.int IntKind.u64 0, Value.int IntKind.u64 0, Value.int IntKind.i64 0, Value.int IntKind.i64 0] 50) (Nat.le_refl _)) (Nat.le_refl _)
    have hz : (W0.alloc (Obj.cells #[Value.int IntKind.i64 0, Value.int IntKind.i64 0, Value.int IntKind.i64 0, Value.int IntKind.u64 0, Value.int IntKind.u64 0, Value.int IntKind.i64 0, Value.int IntKind.i64 0] 50)).drew.heap[W0.heap.size]? = some (Obj.cells #[Value.int IntKind.i64 0, Value.int IntKind.i64 0, Value.int IntKind.i64 0, Value.int IntKind.u64 0, Value.int IntKind.u64 0, Value.int IntKind.i64 0, Value.int IntKind.i64 0] 50) ∧ W0.heap.size ≤ W0.heap.size := ⟨heap_alloc_new W0 _, Nat.le_refl _⟩
    go_region_held3 (fun w' => w'.cell? ⟨w.heap.size, 0, none⟩ = some (.slice A0 l0.length c0) ∧ Below W0.heap.size W0 w') (first | with_reducible assumption | (with_reducible exact keepA k _ (Nat.le_refl _))) (first
      | (go_at_call 70; (with_reducible refine (HK2.out 22 2 _ ?s1 ?s2 ?s3).mono ?_); (case s1 => with_reducible assumption); (case s2 => decide); (case s3 => decide); rintro e w' ⟨rfl, hb⟩; (first | (with_reducible have hz := blkC2 hz hb) | (with_reducible have hz := blkA3 k hb) | (with_reducible have hz := blkA2 k hb) | have hz : True := trivial); (first | (with_reducible have k := keepC k hb (Nat.le_refl _)) | (with_reducible have k := keepC kd hb (Nat.le_refl _)) | (with_reducible have k := keepC (keepA k _ (Nat.le_refl _)) hb (Nat.le_refl _))); (try have hzN := blkN k (Obj.cells #[Value.int IntKind.i64 0, Value.int IntKind.i64 0, Value.int IntKind.i64 0, Value.int IntKind.u64 0, Value.int IntKind.u64 0, Value.int IntKind.i64 0, Value.int IntKind.i64 0] 50)); (first
            | (with_reducible have hq := store7c (numOf l0 0 (wid 1)) (numOf l0 1 (wid 1)) (numOf l0 2 (wid 1)) (beNum l0 4 8) (beNum l0 12 8) (numOf l0 20 (wid 2)) (numOf l0 22 (wid 2)) k hn hz)
            | (with_reducible have hq := store7c (numOf l0 0 (wid 1)) (numOf l0 1 (wid 1)) (numOf l0 2 (wid 1)) (beNum l0 4 8) (beNum l0 12 8) (numOf l0 20 (wid 2)) (numOf l0 22 (wid 2)) (keepA k (Obj.cells #[Value.int IntKind.i64 0, Value.int IntKind.i64 0, Value.int IntKind.i64 0, Value.int IntKind.u64 0, Value.int IntKind.u64 0, Value.int IntKind.i64 0, Value.int IntKind.i64 0] 50) (Nat.le_refl _)) hn hzN)); obtain ⟨⟨k3, hz3⟩, ⟨d0, d1, d2, d3, d4, d5, d6⟩, e0, e1, e2, e3, e4, e5, e6⟩ := hq)
      | (go_at_call 70; (with_reducible refine (HK2.out _ _ _ ?s1 ?s2 ?s3).mono ?_); (case s1 => with_reducible assumption); (case s2 => decide); (case s3 => decide); rintro e w' ⟨rfl, hb⟩; (first | (with_reducible have hz := blkC2 hz hb) | (with_reducible have hz := blkA3 k hb) | (with_reducible have hz := blkA2 k hb) | skip); (first | (with_reducible have k := keepC k hb (Nat.le_refl _)) | (with_reducible have k := keepC kd hb (Nat.le_refl _)) | (with_reducible have k := keepC (keepA k _ (Nat.le_refl _)) hb (Nat.le_refl _))))
      | (go_at_call 71; (with_reducible refine (HL2.out _ _ ?s1 ?s2 ?s3).mono ?_); (case s1 => with_reducible assumption); (case s2 => decide); (case s3 => decide); rintro e w' ⟨rfl, hb⟩; (first | (with_reducible have hz := blkC2 hz hb) | (with_reducible have hz := blkA3 k hb) | (with_reducible have hz := blkA2 k hb) | skip); (first | (with_reducible have k := keepC k hb (Nat.le_refl _)) | (with_reducible have k := keepC kd hb (Nat.le_refl _)) | (with_reducible have k := keepC (keepA k _ (Nat.le_refl _)) hb (Nat.le_refl _)))))
    all_goals (go_wp2_with fail)
    all_goals go_meet
    all_goals (case rel => (with_reducible first | exact ⟨_, rfl, hz3.2, k3.2, hz3.1⟩ | exact ⟨_, rfl, k.2.size, (keepA k _ (Nat.le_refl _)).2, heap_alloc_new _ _⟩))
  case rest =>
    obtain ⟨g, rfl, hg, hB, hz⟩ := hcut
    go_wp2_with fail
    have hrn : 0 ≤ numOf l0 22 2 ∧ numOf l0 22 2 < 4294967296 := by unfold numOf; omega
    have hd := (rfl : dataOf l0 = dataOf l0)
    conv at hd => rhs; unfold dataOf
    change wc.heap[g]? = some (.cells #[.int .i64 (numOf l0 0 1), .int .i64 (numOf l0 1 1), .int .i64 (numOf l0 2 1), .int .u64 (beNum l0 4 8), .int .u64 (beNum l0 12 8), .int .i64 (numOf l0 20 2), .int .i64 (numOf l0 22 2)] 50 (0, 0)) at hz
    generalize hng : numOf l0 22 2 = n at hrn hd hz ⊢
    obtain ⟨m, hm⟩ : ∃ m : Nat, mn (24 + n) 252 = (m : Int) := ⟨(mn (24 + n) 252).toNat, by unfold mn; split <;> omega⟩
    have hm1 : 24 ≤ m ∧ m ≤ 252 := by unfold mn at hm; split at hm <;> omega
    rw [hm] at hd
    have HD := Aside0.mk hd
    have HM := Aside0.mk hm
    have HN := Aside0.mk hng
    have hw24 : IntKind.i64.wrap (24 + n) = 24 + n := by rw [i64_w]; unfold wrap64; omega
    have hmin : (if 252 < 24 + n then 252 else 24 + n) = (m : Int) := hm
    have hmax : 252 ≤ c0 := by have := HC.out; have := HLen.out; omega
    have i1 : (24 : Int) ≤ (m : Int) := by omega
    have i2 : (m : Int) ≤ (c0 : Int) := by omega
    have i3 : (0 : Int) ≤ (m : Int) := by omega
    have hgw : ∃ w2, w2 = wc.drew := ⟨_, rfl⟩
    obtain ⟨w2, hw2⟩ := hgw
    have z0 : w2.heap[g]? = some (.cells #[.int .i64 (numOf l0 0 1), .int .i64 (numOf l0 1 1), .int .i64 (numOf l0 2 1), .int .u64 (beNum l0 4 8), .int .u64 (beNum l0 12 8), .int .i64 (numOf l0 20 2), .int .i64 n] 50 (0, 0)) := by rw [hw2]; exact hz
    have z1 : w2.heap[w.heap.size + 1]? = some (Obj.cells #[Value.int IntKind.i64 0, Value.int IntKind.i64 0, Value.int IntKind.i64 0, Value.int IntKind.u64 0, Value.int IntKind.u64 0, Value.int IntKind.i64 0, Value.int IntKind.i64 0] 50) := by
      rw [hw2]
      exact (hB.block _ (by omega)).trans hb1
    have z2 : w2.cell? ⟨w.heap.size, 0, none⟩ = some (.slice A0 l0.length c0) := by
      rw [hw2]
      exact (hB.cell (p := ⟨w.heap.size, 0, none⟩) (by show w.heap.size < _; omega)).trans hc0
    have hB2 : Below w.heap.size w w2 := by rw [hw2]; exact below_drew (below_then hB0 hB0.size hB)
    have hne : g ≠ w.heap.size + 1 := by omega
    have k2 : (fun w' => (w'.cell? ⟨g, 0, none⟩ = some (.int .i64 (numOf l0 0 1)) ∧ w'.cell? ⟨g, 1, none⟩ = some (.int .i64 (numOf l0 1 1)) ∧ w'.cell? ⟨g, 2, none⟩ = some (.int .i64 (numOf l0 2 1)) ∧ w'.cell? ⟨g, 3, none⟩ = some (.int .u64 (beNum l0 4 8)) ∧ w'.cell? ⟨g, 4, none⟩ = some (.int .u64 (beNum l0 12 8)) ∧ w'.cell? ⟨g, 5, none⟩ = some (.int .i64 (numOf l0 20 2)) ∧ w'.cell? ⟨g, 6, none⟩ = some (.int .i64 n)) ∧ w'.cell? ⟨w.heap.size, 0, none⟩ = some (.slice A0 l0.length c0) ∧ Below w.heap.size w w') w2 := ⟨⟨blk_cell z0 0, blk_cell z0 1, blk_cell z0 2, blk_cell z0 3, blk_cell z0 4, blk_cell z0 5, blk_cell z0 6⟩, z2, hB2⟩
    have hB3 : Below w.heap.size w (((((((w2.setCell ⟨w.heap.size + 1, 0, none⟩ (.int .i64 (numOf l0 0 1))).setCell ⟨w.heap.size + 1, 1, none⟩ (.int .i64 (numOf l0 1 1))).setCell ⟨w.heap.size + 1, 2, none⟩ (.int .i64 (numOf l0 2 1))).setCell ⟨w.heap.size + 1, 3, none⟩ (.int .u64 (beNum l0 4 8))).setCell ⟨w.heap.size + 1, 4, none⟩ (.int .u64 (beNum l0 12 8))).setCell ⟨w.heap.size + 1, 5, none⟩ (.int .i64 (numOf l0 20 2))).setCell ⟨w.heap.size + 1, 6, none⟩ (.int .i64 n)) := (((((((hB2.setCell (p := ⟨w.heap.size + 1, _, none⟩) (Nat.le_succ _) _).setCell (p := ⟨w.heap.size + 1, _, none⟩) (Nat.le_succ _) _).setCell (p := ⟨w.heap.size + 1, _, none⟩) (Nat.le_succ _) _).setCell (p := ⟨w.heap.size + 1, _, none⟩) (Nat.le_succ _) _).setCell (p := ⟨w.heap.size + 1, _, none⟩) (Nat.le_succ _) _).setCell (p := ⟨w.heap.size + 1, _, none⟩) (Nat.le_succ _) _).setCell (p := ⟨w.heap.size + 1, _, none⟩) (Nat.le_succ _) _)
    have z3 : ((((((((w2.setCell ⟨w.heap.size + 1, 0, none⟩ (.int .i64 (numOf l0 0 1))).setCell ⟨w.heap.size + 1, 1, none⟩ (.int .i64 (numOf l0 1 1))).setCell ⟨w.heap.size + 1, 2, none⟩ (.int .i64 (numOf l0 2 1))).setCell ⟨w.heap.size + 1, 3, none⟩ (.int .u64 (beNum l0 4 8))).setCell ⟨w.heap.size + 1, 4, none⟩ (.int .u64 (beNum l0 12 8))).setCell ⟨w.heap.size + 1, 5, none⟩ (.int .i64 (numOf l0 20 2))).setCell ⟨w.heap.size + 1, 6, none⟩ (.int .i64 n))).heap[w.heap.size + 1]? = some (.cells #[.int .i64 (numOf l0 0 1), .int .i64 (numOf l0 1 1), .int .i64 (numOf l0 2 1), .int .u64 (beNum l0 4 8), .int .u64 (beNum l0 12 8), .int .i64 (numOf l0 20 2), .int .i64 n] 50 (0, 0)) := by
      have h0 := blk_set z1 0 (.int .i64 (numOf l0 0 1))
      have h1 := blk_set h0 1 (.int .i64 (numOf l0 1 1))
      have h2 := blk_set h1 2 (.int .i64 (numOf l0 2 1))
      have h3 := blk_set h2 3 (.int .u64 (beNum l0 4 8))
      have h4 := blk_set h3 4 (.int .u64 (beNum l0 12 8))
      have h5 := blk_set h4 5 (.int .i64 (numOf l0 20 2))
      have h6 := blk_set h5 6 (.int .i64 n)
      simpa using h6
    have far : ∀ p : Addr, p.block ≠ w.heap.size + 1 → ((((((((w2.setCell ⟨w.heap.size + 1, 0, none⟩ (.int .i64 (numOf l0 0 1))).setCell ⟨w.heap.size + 1, 1, none⟩ (.int .i64 (numOf l0 1 1))).setCell ⟨w.heap.size + 1, 2, none⟩ (.int .i64 (numOf l0 2 1))).setCell ⟨w.heap.size + 1, 3, none⟩ (.int .u64 (beNum l0 4 8))).setCell ⟨w.heap.size + 1, 4, none⟩ (.int .u64 (beNum l0 12 8))).setCell ⟨w.heap.size + 1, 5, none⟩ (.int .i64 (numOf l0 20 2))).setCell ⟨w.heap.size + 1, 6, none⟩ (.int .i64 n))).cell? p = w2.cell? p := by
      intro p hp
      repeat rw [World.cell?_setCell_far _ _ _ _ (fun h => hp h.symm)]
    have k3 : (fun w' => (w'.cell? ⟨g, 0, none⟩ = some (.int .i64 (numOf l0 0 1)) ∧ w'.cell? ⟨g, 1, none⟩ = some (.int .i64 (numOf l0 1 1)) ∧ w'.cell? ⟨g, 2, none⟩ = some (.int .i64 (numOf l0 2 1)) ∧ w'.cell? ⟨g, 3, none⟩ = some (.int .u64 (beNum l0 4 8)) ∧ w'.cell? ⟨g, 4, none⟩ = some (.int .u64 (beNum l0 12 8)) ∧ w'.cell? ⟨g, 5, none⟩ = some (.int .i64 (numOf l0 20 2)) ∧ w'.cell? ⟨g, 6, none⟩ = some (.int .i64 n)) ∧ w'.cell? ⟨w.heap.size, 0, none⟩ = some (.slice A0 l0.length c0) ∧ Below w.heap.size w w') (((((((w2.setCell ⟨w.heap.size + 1, 0, none⟩ (.int .i64 (numOf l0 0 1))).setCell ⟨w.heap.size + 1, 1, none⟩ (.int .i64 (numOf l0 1 1))).setCell ⟨w.heap.size + 1, 2, none⟩ (.int .i64 (numOf l0 2 1))).setCell ⟨w.heap.size + 1, 3, none⟩ (.int .u64 (beNum l0 4 8))).setCell ⟨w.heap.size + 1, 4, none⟩ (.int .u64 (beNum l0 12 8))).setCell ⟨w.heap.size + 1, 5, none⟩ (.int .i64 (numOf l0 20 2))).setCell ⟨w.heap.size + 1, 6, none⟩ (.int .i64 n)) := ⟨⟨(far _ hne).trans (blk_cell z0 0), (far _ hne).trans (blk_cell z0 1), (far _ hne).trans (blk_cell z0 2), (far _ hne).trans (blk_cell z0 3), (far _ hne).trans (blk_cell z0 4), (far _ hne).trans (blk_cell z0 5), (far _ hne).trans (blk_cell z0 6)⟩, (far _ (by show w.heap.size ≠ w.heap.size + 1; omega)).trans z2, hB3⟩
    have d0 := blk_cell z1 0
    have d1 := blk_cell z1 1
    have d2 := blk_cell z1 2
    have d3 := blk_cell z1 3
    have d4 := blk_cell z1 4
    have d5 := blk_cell z1 5
    have d6 := blk_cell z1 6
    have e0 := blk_frozen z1 0
    have e1 := blk_frozen z1 1
    have e2 := blk_frozen z1 2
    have e3 := blk_frozen z1 3
    have e4 := blk_frozen z1 4
    have e5 := blk_frozen z1 5
    have e6 := blk_frozen z1 6
    have q3 := blk_cell z3 0
    have q4 := blk_cell z3 1
    have q5 := blk_cell z3 2
    have q6 := blk_cell z3 3
    have q7 := blk_cell z3 4
    have q8 := blk_cell z3 5
    have q9 := blk_cell z3 6
    have HB3 := Aside0.mk hB3
    have HZ3 := Aside0.mk z3
    clear z3
    have hnc : ¬ (c0 = 24) := by omega
    have hcv : ∀ W : World, Below w.heap.size w W → Sem.run Try.prog (convert 35 9 (.slice (Option.map (fun x => (⟨x.block, x.off + 24, none⟩ : Addr)) A0) (m - 24) (c0 - 24))) W = .ok (.string (strOfNums (dataOf l0))) W := by
      intro W hW
      have hm := Kd.C_mid (lo := 24) (hi := m) (Kd.C_below HR.out hW) (by omega) (by have := HLen.out; omega) HC.out
      rw [if_neg hnc] at hm
      have hdd : (l0.take m).drop 24 = dataOf l0 := by
        rw [HD.out, List.drop_take, show ((m : Int) - 24).toNat = m - 24 by omega]
      rw [hdd] at hm
      have hlen : (dataOf l0).length = m - 24 := by
        have := HLen.out
        rw [← hdd, List.length_drop, List.length_take]
        omega
      rw [hlen, show A0.map (·.add (24 * (Kd.int IntKind.u8).sz)) = Option.map (fun x => (⟨x.block, x.off + 24, none⟩ : Addr)) A0 from by cases A0 <;> simp [Addr.add, show (Kd.int IntKind.u8).sz = 1 from rfl]] at hm
      exact c_string Try.underlying35 Try.underlying5 Try.underlying9 hm
    have hdrew := hw2.symm
    clear hw2 hz hB hB0 hb1 hc0 hS0 HK2 HL2 hrn hm hd hng z0 z1 far hB2 hB3 hne
    go_region_held3 (fun w' => (w'.cell? ⟨g, 0, none⟩ = some (.int .i64 (numOf l0 0 1)) ∧ w'.cell? ⟨g, 1, none⟩ = some (.int .i64 (numOf l0 1 1)) ∧ w'.cell? ⟨g, 2, none⟩ = some (.int .i64 (numOf l0 2 1)) ∧ w'.cell? ⟨g, 3, none⟩ = some (.int .u64 (beNum l0 4 8)) ∧ w'.cell? ⟨g, 4, none⟩ = some (.int .u64 (beNum l0 12 8)) ∧ w'.cell? ⟨g, 5, none⟩ = some (.int .i64 (numOf l0 20 2)) ∧ w'.cell? ⟨g, 6, none⟩ = some (.int .i64 n)) ∧ w'.cell? ⟨w.heap.size, 0, none⟩ = some (.slice A0 l0.length c0) ∧ Below w.heap.size w w') (first | (with_reducible assumption) | (rw [hdrew]; with_reducible assumption)) (fail)
    all_goals (go_wp2_with fail)
    all_goals (refine bodyPost_ret (results_ct rfl _ _ (w.heap.size + 1) 50 _ (0, 0) _ rfl HZ3.out Try.underlying50 rfl (by kernel_rfl)) rfl ?_)
    all_goals (exact ⟨by rw [HN.out]; rfl, HB3.out⟩)

end Go.Proofs.Ytmlkkdopogcggaa.Hp
