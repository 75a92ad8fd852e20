/- Parts of the proof of the statement ScanBlocks, laid together (2 of 10). -/
import Derived.Test.YtnchdmidaigheaaZScanBlocks0
namespace Go.Proofs.Ytnchdmidaigheaa.Hp
open Go.RowKit Go.Proofs.YtnchdmidaigheaaW.PrintWords Go.Proofs.YtnchdmidaigheaaW.PrintLast Go.Proofs.YtnchdmidaigheaaW.PrintMore
attribute [local go_sem] max2_int min2_int max_two min_two max_three min_three max_four min_four   -- for this text's walks alone
set_option linter.unusedVariables false
set_option linter.unusedSimpArgs false
def page_read.f (l : List Int) : Option (Int × Int × Int × Int × Int × Int × Int × ByteArray) := if isBytes l ∧ l.length = 256 then some (numOf l 0 1, numOf l 1 1, numOf l 2 1, beNum l 4 8, beNum l 12 8, numOf l 20 2, numOf l 22 2, strOfNums (dataOf l)) else none
theorem beNum_range (l : List Int) (h : isBytes l) (a : Int) (w : Nat) (hw : w ≤ 8) : 0 ≤ beNum l a w ∧ beNum l a w < 18446744073709551616 := by
 have h1 := bePre_range l h a w; unfold beNum; refine ⟨h1.1, Int.lt_of_lt_of_le h1.2 ?_⟩; have : ∀ w, w ≤ 8 → (256 : Int) ^ w ≤ 18446744073709551616 := by decide
 exact this w hw
theorem beAt_in (l : List Int) (a : Int) (h0 : 0 ≤ a) (h1 : a ≤ l.length) : beAt l a = a := by
 unfold beAt mx
 (repeat' split) <;> omega
set_option maxHeartbeats 1000000 in
theorem read_clo (at_ : Int) (wv : Int) (A1 : Option Addr) (c1 : Nat) (l1 : List Int) (p : Addr) (W : World)
  (hp : W.cell? p = some (.slice A1 l1.length c1)) (hr1 : Kd.C (Kd.int .u8) W A1 l1.length l1) (hc : l1.length ≤ c1) (hb : isBytes l1) (hl : l1.length = 256) (h0 : 0 ≤ at_) (h1 : at_ ≤ 256) :
  Calls Try.prog 125 #[.int .i64 at_, .int .i64 wv, .pointer (some p)] W fun e w' => e = .returned (.int .i64 (numOf l1 at_ (wid wv))) ∧ Below W.heap.size W w' := by
 have hrg := beNum_range l1 hb at_ (wid wv) (wid_le wv); have hg : be_Get.f l1 at_ wv = some (beNum l1 at_ (wid wv)) := by
  unfold be_Get.f; rw [if_pos ⟨hb, by omega⟩, beAt_in l1 at_ h0 (by omega)]
 have e1 : Int.tmod (beNum l1 at_ (wid wv)) 4294967296 = numOf l1 at_ (wid wv) := by
  unfold numOf; rw [Int.tmod_eq_emod_of_nonneg hrg.1]
 have hE := aK (show wrap64 (Int.tmod (beNum l1 at_ (wid wv)) 4294967296) = numOf l1 at_ (wid wv) by
  rw [e1, show wrap64 (numOf l1 at_ (wid wv)) = numOf l1 at_ (wid wv) from by unfold wrap64 numOf; omega])
 have HR := aK hr1; have HC := aK hc; have HG := aK hg; clear hr1 hc hg hb hl h0 h1 hrg e1; go_enter Try.func125, Try.ntmps125; go_wp2_with ((go_at_call 126); (with_reducible refine (be_Get.calls _ _ l1 at_ wv _ _ HR.out HC.out HG.out).mono ?_); rintro e w' ⟨rfl, hb⟩; have HB := aK hb; clear hb); rw [hE.out]; go_ret; exact ⟨rfl, HB.out⟩
theorem keepC {n N : Nat} {v : Value} {W0 W w' : World} (h : W.cell? ⟨n, 0, none⟩ = some v ∧ Below N W0 W) (hb : Below W.heap.size W w') (hN : N ≤ W0.heap.size) : w'.cell? ⟨n, 0, none⟩ = some v ∧ Below N W0 w' :=
 ⟨(hb.cell (World.block_lt_of_cell? W _ h.1)).trans h.1, below_then h.2 (Nat.le_trans hN h.2.size) hb⟩
theorem keepA {n N : Nat} {v : Value} {W0 W : World} (h : W.cell? ⟨n, 0, none⟩ = some v ∧ Below N W0 W) (o : Obj) (hN : N ≤ W0.heap.size) : (W.alloc o).cell? ⟨n, 0, none⟩ = some v ∧ Below N W0 (W.alloc o) :=
 keepC h (below_alloc (Below.refl _ _) o) hN
theorem keepD {n N : Nat} {v : Value} {W0 W : World} (h : W.cell? ⟨n, 0, none⟩ = some v ∧ Below N W0 W) (hN : N ≤ W0.heap.size) : W.drew.cell? ⟨n, 0, none⟩ = some v ∧ Below N W0 W.drew :=
 keepC h (below_drew (Below.refl _ _)) hN
theorem blkC2 {g N : Nat} {o : Obj} {W w' : World} (h : W.heap[g]? = some o ∧ N ≤ g) (hb : Below W.heap.size W w') : w'.heap[g]? = some o ∧ N ≤ g :=
 ⟨(hb.block g (Array.getElem?_eq_some_iff.1 h.1).1).trans h.1, h.2⟩
theorem blkN {n : Nat} {v : Value} {W0 W : World} (h : W.cell? ⟨n, 0, none⟩ = some v ∧ Below W0.heap.size W0 W) (o : Obj) : (W.alloc o).heap[W.heap.size]? = some o ∧ W0.heap.size ≤ W.heap.size := ⟨heap_alloc_new W o, h.2.size⟩
theorem blkA2 {n : Nat} {v : Value} {o : Obj} {W0 W w' : World} (h : W.cell? ⟨n, 0, none⟩ = some v ∧ Below W0.heap.size W0 W) (hb : Below (W.alloc o).heap.size (W.alloc o) w') : w'.heap[W.heap.size]? = some o ∧ W0.heap.size ≤ W.heap.size := blkC2 (blkN h o) hb
theorem blkA3 {n : Nat} {v : Value} {o : Obj} {W0 W w' : World} (h : W.drew.cell? ⟨n, 0, none⟩ = some v ∧ Below W0.heap.size W0 W.drew) (hb : Below (W.drew.alloc o).heap.size (W.drew.alloc o) w') : w'.heap[W.heap.size]? = some o ∧ W0.heap.size ≤ W.heap.size := blkC2 (blkN h o) hb
theorem store7c {n g N : Nat} {v : Value} {W0 W : World} (x0 x1 x2 x3 x4 x5 x6 : Int) (h : W.cell? ⟨n, 0, none⟩ = some v ∧ Below N W0 W) (hn : n < N) (hz : W.heap[g]? = some (.cells #[.int .i64 0, .int .i64 0, .int .i64 0, .int .u64 0, .int .u64 0, .int .i64 0, .int .i64 0] 82 (0, 0)) ∧ N ≤ g) :
  (((((((((W.setCell ⟨g, 0, none⟩ (.int .i64 x0)).setCell ⟨g, 1, none⟩ (.int .i64 x1)).setCell ⟨g, 2, none⟩ (.int .i64 x2)).setCell ⟨g, 3, none⟩ (.int .u64 x3)).setCell ⟨g, 4, none⟩ (.int .u64 x4)).setCell ⟨g, 5, none⟩ (.int .i64 x5)).setCell ⟨g, 6, none⟩ (.int .i64 x6)).cell? ⟨n, 0, none⟩ = some v ∧ Below N W0 (((((((W.setCell ⟨g, 0, none⟩ (.int .i64 x0)).setCell ⟨g, 1, none⟩ (.int .i64 x1)).setCell ⟨g, 2, none⟩ (.int .i64 x2)).setCell ⟨g, 3, none⟩ (.int .u64 x3)).setCell ⟨g, 4, none⟩ (.int .u64 x4)).setCell ⟨g, 5, none⟩ (.int .i64 x5)).setCell ⟨g, 6, none⟩ (.int .i64 x6))) ∧ ((((((((W.setCell ⟨g, 0, none⟩ (.int .i64 x0)).setCell ⟨g, 1, none⟩ (.int .i64 x1)).setCell ⟨g, 2, none⟩ (.int .i64 x2)).setCell ⟨g, 3, none⟩ (.int .u64 x3)).setCell ⟨g, 4, none⟩ (.int .u64 x4)).setCell ⟨g, 5, none⟩ (.int .i64 x5)).setCell ⟨g, 6, none⟩ (.int .i64 x6)).heap[g]? = some (.cells #[.int .i64 x0, .int .i64 x1, .int .i64 x2, .int .u64 x3, .int .u64 x4, .int .i64 x5, .int .i64 x6] 82 (0, 0)) ∧ N ≤ g)) ∧
  (W.cell? ⟨g, 0, none⟩ = some (.int .i64 0) ∧ W.cell? ⟨g, 1, none⟩ = some (.int .i64 0) ∧ W.cell? ⟨g, 2, none⟩ = some (.int .i64 0) ∧ W.cell? ⟨g, 3, none⟩ = some (.int .u64 0) ∧ W.cell? ⟨g, 4, none⟩ = some (.int .u64 0) ∧ W.cell? ⟨g, 5, none⟩ = some (.int .i64 0) ∧ W.cell? ⟨g, 6, none⟩ = some (.int .i64 0)) ∧ (W.frozen? ⟨g, 0, none⟩ = false ∧ W.frozen? ⟨g, 1, none⟩ = false ∧ W.frozen? ⟨g, 2, none⟩ = false ∧ W.frozen? ⟨g, 3, none⟩ = false ∧ W.frozen? ⟨g, 4, none⟩ = false ∧ W.frozen? ⟨g, 5, none⟩ = false ∧ W.frozen? ⟨g, 6, none⟩ = false) := by
 have h0 := blk_set hz.1 0 (.int .i64 x0); have h1 := blk_set h0 1 (.int .i64 x1); have h2 := blk_set h1 2 (.int .i64 x2); have h3 := blk_set h2 3 (.int .u64 x3); have h4 := blk_set h3 4 (.int .u64 x4); have h5 := blk_set h4 5 (.int .i64 x5); have h6 := blk_set h5 6 (.int .i64 x6); have hg := hz.2; refine ⟨⟨⟨?_, ?_⟩, by simpa using h6, hz.2⟩, ⟨blk_cell hz.1 0, blk_cell hz.1 1, blk_cell hz.1 2, blk_cell hz.1 3, blk_cell hz.1 4, blk_cell hz.1 5, blk_cell hz.1 6⟩, blk_frozen hz.1 0, blk_frozen hz.1 1, blk_frozen hz.1 2, blk_frozen hz.1 3, blk_frozen hz.1 4, blk_frozen hz.1 5, blk_frozen hz.1 6⟩
 ·
  repeat rw [World.cell?_setCell_far _ _ _ _ (by show g ≠ n; omega)]
  exact h.1
 ·
  exact (((((((h.2.setCell (p := ⟨g, _, none⟩) hg _).setCell (p := ⟨g, _, none⟩) hg _).setCell (p := ⟨g, _, none⟩) hg _).setCell (p := ⟨g, _, none⟩) hg _).setCell (p := ⟨g, _, none⟩) hg _).setCell (p := ⟨g, _, none⟩) hg _).setCell (p := ⟨g, _, none⟩) hg _)
set_option maxHeartbeats 8000000 in
set_option maxRecDepth 100000 in
theorem page_read.calls (A0 : Option Addr) (c0 : Nat) (l0 : List Int) (r1 : Int) (r2 : Int) (r3 : Int) (r4 : Int) (r5 : Int) (r6 : Int) (r7 : Int) (r8 : ByteArray) (w : World) (hr0 : Kd.C (Kd.int .u8) w A0 l0.length l0) (hc0 : l0.length ≤ c0) (h : page_read.f l0 = some (r1, r2, r3, r4, r5, r6, r7, r8)) :
  Calls Try.prog 112 #[.slice A0 l0.length c0] w fun e w' => e = .returned (.tuple #[.agg #[.int .i64 r1, .int .i64 r2, .int .i64 r3, .int .u64 r4, .int .u64 r5, .int .i64 r6, .int .i64 r7], .string r8]) ∧ Below w.heap.size w w' := by
 unfold page_read.f at h; by_cases hb : isBytes l0 ∧ l0.length = 256
 case neg => rw [if_neg hb] at h; cases h
 rw [if_pos hb] at h; obtain ⟨hb, hl⟩ := hb; simp only [Option.some.injEq, Prod.mk.injEq] at h; obtain ⟨rfl, rfl, rfl, rfl, rfl, rfl, rfl, rfl⟩ := h; have HK := fun (at_ wv : Int) (p : Addr) (W : World) (hB : Below w.heap.size w W) (hp : W.cell? p = some (.slice A0 l0.length c0)) (h0 : 0 ≤ at_) (h1 : at_ ≤ 256) =>
  read_clo at_ wv A0 c0 l0 p W hp (Kd.C_below hr0 hB) hc0 hb hl h0 h1
 have HL := fun (at_ : Int) (W : World) (hB : Below w.heap.size w W) (h0 : 0 ≤ at_) (h1 : at_ ≤ 256) =>
  be_Get.calls A0 c0 l0 at_ 8 (beNum l0 at_ 8) W (Kd.C_below hr0 hB) hc0 (by
   unfold be_Get.f; rw [if_pos ⟨hb, by omega⟩, beAt_in l0 at_ h0 (by omega)]; rfl)
 replace HK := aK HK; replace HL := aK HL; have HR := aK hr0; have hcc := hc0; clear hr0 hc0; have HLen := aK hl; have HC := aK hcc; have HBy := aK hb; clear hl hb; have hmf : ∀ (fn : Fn) (first cap : Array Value) (w : World), (Instr.makeFunc fn first cap).run Try.prog w = .ok (.func fn first cap) w := fun _ _ _ _ => rfl; go_enter Try.func112, Try.ntmps112; go_upto_region 2 with fail; have hS0 : ((w.alloc (Obj.cells #[Value.slice A0 l0.length c0] 38)).alloc (Obj.cells #[Value.int IntKind.i64 0, Value.int IntKind.i64 0, Value.int IntKind.i64 0, Value.int IntKind.u64 0, Value.int IntKind.u64 0, Value.int IntKind.i64 0, Value.int IntKind.i64 0] 82)).heap.size = w.heap.size + 2 := by simp
 have hB0 : Below w.heap.size w ((w.alloc (Obj.cells #[Value.slice A0 l0.length c0] 38)).alloc (Obj.cells #[Value.int IntKind.i64 0, Value.int IntKind.i64 0, Value.int IntKind.i64 0, Value.int IntKind.u64 0, Value.int IntKind.u64 0, Value.int IntKind.i64 0, Value.int IntKind.i64 0] 82)) := below_alloc (below_alloc (Below.refl _ _) _) _; have hb1 := heap_alloc_new (w.alloc (Obj.cells #[Value.slice A0 l0.length c0] 38)) (Obj.cells #[Value.int IntKind.i64 0, Value.int IntKind.i64 0, Value.int IntKind.i64 0, Value.int IntKind.u64 0, Value.int IntKind.u64 0, Value.int IntKind.i64 0, Value.int IntKind.i64 0] 82); have hc0 : ((w.alloc (Obj.cells #[Value.slice A0 l0.length c0] 38)).alloc (Obj.cells #[Value.int IntKind.i64 0, Value.int IntKind.i64 0, Value.int IntKind.i64 0, Value.int IntKind.u64 0, Value.int IntKind.u64 0, Value.int IntKind.i64 0, Value.int IntKind.i64 0] 82)).cell? ⟨w.heap.size, 0, none⟩ = some (.slice A0 l0.length c0) := by simp
 rw [show (w.alloc (Obj.cells #[Value.slice A0 l0.length c0] 38)).heap.size = w.heap.size + 1 by simp] at hb1; generalize ((w.alloc (Obj.cells #[Value.slice A0 l0.length c0] 38)).alloc (Obj.cells #[Value.int IntKind.i64 0, Value.int IntKind.i64 0, Value.int IntKind.i64 0, Value.int IntKind.u64 0, Value.int IntKind.u64 0, Value.int IntKind.i64 0, Value.int IntKind.i64 0] 82)) = W0 at hS0 hB0 hb1 hc0 ⊢; have HK2 := aK (fun (at_ wv : Int) (W : World) (hS : W.cell? ⟨w.heap.size, 0, none⟩ = some (.slice A0 l0.length c0) ∧ Below W0.heap.size W0 W) (h0 : 0 ≤ at_) (h1 : at_ ≤ 256) =>
  HK.out at_ wv ⟨w.heap.size, 0, none⟩ W (below_then hB0 hB0.size hS.2) hS.1 h0 h1)
 have HL2 := aK (fun (at_ : Int) (W : World) (hS : W.cell? ⟨w.heap.size, 0, none⟩ = some (.slice A0 l0.length c0) ∧ Below W0.heap.size W0 W) (h0 : 0 ≤ at_) (h1 : at_ ≤ 256) =>
  HL.out at_ W (below_then hB0 hB0.size hS.2) h0 h1)
 clear HK HL
 go_cut [5] from 7 to 21 (fun v5 wx => ∃ g, v5 = .pointer (some ⟨g, 0, none⟩) ∧ W0.heap.size ≤ g ∧ Below W0.heap.size W0 wx ∧ wx.heap[g]? = some (.cells #[.int .i64 (numOf l0 0 (wid 1)), .int .i64 (numOf l0 1 (wid 1)), .int .i64 (numOf l0 2 (wid 1)), .int .u64 (beNum l0 4 8), .int .u64 (beNum l0 12 8), .int .i64 (numOf l0 20 (wid 2)), .int .i64 (numOf l0 22 (wid 2))] 82 (0, 0)))
 case first =>
  have hn : w.heap.size < W0.heap.size := by omega
  replace hS0 := aK hS0; have k := keepD (n := w.heap.size) (v := .slice A0 l0.length c0) ⟨hc0, Below.refl W0.heap.size W0⟩ (Nat.le_refl _); have kd := keepD (keepA (n := w.heap.size) (v := .slice A0 l0.length c0) ⟨hc0, Below.refl W0.heap.size W0⟩ (Obj.cells #[Value.int IntKind.i64 0, Value.int IntKind.i64 0, Value.int IntKind.i64 0, Value.int IntKind.u64 0, Value.int IntKind.u64 0, Value.int IntKind.i64 0, Value.int IntKind.i64 0] 82) (Nat.le_refl _)) (Nat.le_refl _); have hz : (W0.alloc (Obj.cells #[Value.int IntKind.i64 0, Value.int IntKind.i64 0, Value.int IntKind.i64 0, Value.int IntKind.u64 0, Value.int IntKind.u64 0, Value.int IntKind.i64 0, Value.int IntKind.i64 0] 82)).drew.heap[W0.heap.size]? = some (Obj.cells #[Value.int IntKind.i64 0, Value.int IntKind.i64 0, Value.int IntKind.i64 0, Value.int IntKind.u64 0, Value.int IntKind.u64 0, Value.int IntKind.i64 0, Value.int IntKind.i64 0] 82) ∧ W0.heap.size ≤ W0.heap.size := ⟨heap_alloc_new W0 _, Nat.le_refl _⟩
  go_region_held3 (fun w' => w'.cell? ⟨w.heap.size, 0, none⟩ = some (.slice A0 l0.length c0) ∧ Below W0.heap.size W0 w') (first | with_reducible assumption | (with_reducible exact keepA k _ (Nat.le_refl _))) (first
   | (go_at_call 125; (with_reducible refine (HK2.out 22 2 _ ?s1 ?s2 ?s3).mono ?_); (case s1 => with_reducible assumption); (case s2 => decide); (case s3 => decide); rintro e w' ⟨rfl, hb⟩; (first | (with_reducible have hz := blkC2 hz hb) | (with_reducible have hz := blkA3 k hb) | (with_reducible have hz := blkA2 k hb) | have hz : True := trivial); (first | (with_reducible have k := keepC k hb (Nat.le_refl _)) | (with_reducible have k := keepC kd hb (Nat.le_refl _)) | (with_reducible have k := keepC (keepA k _ (Nat.le_refl _)) hb (Nat.le_refl _))); (try have hzN := blkN k (Obj.cells #[Value.int IntKind.i64 0, Value.int IntKind.i64 0, Value.int IntKind.i64 0, Value.int IntKind.u64 0, Value.int IntKind.u64 0, Value.int IntKind.i64 0, Value.int IntKind.i64 0] 82)); (first
      | (with_reducible have hq := store7c (numOf l0 0 (wid 1)) (numOf l0 1 (wid 1)) (numOf l0 2 (wid 1)) (beNum l0 4 8) (beNum l0 12 8) (numOf l0 20 (wid 2)) (numOf l0 22 (wid 2)) k hn hz)
      | (with_reducible have hq := store7c (numOf l0 0 (wid 1)) (numOf l0 1 (wid 1)) (numOf l0 2 (wid 1)) (beNum l0 4 8) (beNum l0 12 8) (numOf l0 20 (wid 2)) (numOf l0 22 (wid 2)) (keepA k (Obj.cells #[Value.int IntKind.i64 0, Value.int IntKind.i64 0, Value.int IntKind.i64 0, Value.int IntKind.u64 0, Value.int IntKind.u64 0, Value.int IntKind.i64 0, Value.int IntKind.i64 0] 82) (Nat.le_refl _)) hn hzN)); obtain ⟨⟨k3, hz3⟩, ⟨d0, d1, d2, d3, d4, d5, d6⟩, e0, e1, e2, e3, e4, e5, e6⟩ := hq)
   | (go_at_call 125; (with_reducible refine (HK2.out _ _ _ ?s1 ?s2 ?s3).mono ?_); (case s1 => with_reducible assumption); (case s2 => decide); (case s3 => decide); rintro e w' ⟨rfl, hb⟩; (first | (with_reducible have hz := blkC2 hz hb) | (with_reducible have hz := blkA3 k hb) | (with_reducible have hz := blkA2 k hb) | skip); (first | (with_reducible have k := keepC k hb (Nat.le_refl _)) | (with_reducible have k := keepC kd hb (Nat.le_refl _)) | (with_reducible have k := keepC (keepA k _ (Nat.le_refl _)) hb (Nat.le_refl _))))
   | (go_at_call 126; (with_reducible refine (HL2.out _ _ ?s1 ?s2 ?s3).mono ?_); (case s1 => with_reducible assumption); (case s2 => decide); (case s3 => decide); rintro e w' ⟨rfl, hb⟩; (first | (with_reducible have hz := blkC2 hz hb) | (with_reducible have hz := blkA3 k hb) | (with_reducible have hz := blkA2 k hb) | skip); (first | (with_reducible have k := keepC k hb (Nat.le_refl _)) | (with_reducible have k := keepC kd hb (Nat.le_refl _)) | (with_reducible have k := keepC (keepA k _ (Nat.le_refl _)) hb (Nat.le_refl _)))))
  all_goals (go_wp2_with fail)
  all_goals go_meet
  all_goals (case rel => (with_reducible first | exact ⟨_, rfl, hz3.2, k3.2, hz3.1⟩ | exact ⟨_, rfl, k.2.size, (keepA k _ (Nat.le_refl _)).2, heap_alloc_new _ _⟩))
 case rest =>
  obtain ⟨g, rfl, hg, hB, hz⟩ := hcut; go_wp2_with fail; have hrn : 0 ≤ numOf l0 22 2 ∧ numOf l0 22 2 < 4294967296 := by unfold numOf; omega
  have hd := (rfl : dataOf l0 = dataOf l0)
  conv at hd => rhs; unfold dataOf
  change wc.heap[g]? = some (.cells #[.int .i64 (numOf l0 0 1), .int .i64 (numOf l0 1 1), .int .i64 (numOf l0 2 1), .int .u64 (beNum l0 4 8), .int .u64 (beNum l0 12 8), .int .i64 (numOf l0 20 2), .int .i64 (numOf l0 22 2)] 82 (0, 0)) at hz
  generalize hng : numOf l0 22 2 = n at hrn hd hz ⊢; obtain ⟨m, hm⟩ : ∃ m : Nat, mn (24 + n) 252 = (m : Int) := ⟨(mn (24 + n) 252).toNat, by unfold mn; split <;> omega⟩; have hm1 : 24 ≤ m ∧ m ≤ 252 := by unfold mn at hm; split at hm <;> omega
  rw [hm] at hd; have HD := aK hd; have HM := aK hm; have HN := aK hng; have hw24 : IntKind.i64.wrap (24 + n) = 24 + n := by rw [i64_w]; unfold wrap64; omega
  have hmin : (if 252 < 24 + n then 252 else 24 + n) = (m : Int) := hm; have hmax : 252 ≤ c0 := by have := HC.out; have := HLen.out; omega
  have i1 : (24 : Int) ≤ (m : Int) := by omega
  have i2 : (m : Int) ≤ (c0 : Int) := by omega
  have i3 : (0 : Int) ≤ (m : Int) := by omega
  have hgw : ∃ w2, w2 = wc.drew := ⟨_, rfl⟩; obtain ⟨w2, hw2⟩ := hgw; have z0 : w2.heap[g]? = some (.cells #[.int .i64 (numOf l0 0 1), .int .i64 (numOf l0 1 1), .int .i64 (numOf l0 2 1), .int .u64 (beNum l0 4 8), .int .u64 (beNum l0 12 8), .int .i64 (numOf l0 20 2), .int .i64 n] 82 (0, 0)) := by rw [hw2]; exact hz
  have z1 : w2.heap[w.heap.size + 1]? = some (Obj.cells #[Value.int IntKind.i64 0, Value.int IntKind.i64 0, Value.int IntKind.i64 0, Value.int IntKind.u64 0, Value.int IntKind.u64 0, Value.int IntKind.i64 0, Value.int IntKind.i64 0] 82) := by
   rw [hw2]; exact (hB.block _ (by omega)).trans hb1
  have z2 : w2.cell? ⟨w.heap.size, 0, none⟩ = some (.slice A0 l0.length c0) := by
   rw [hw2]; exact (hB.cell (p := ⟨w.heap.size, 0, none⟩) (by show w.heap.size < _; omega)).trans hc0
  have hB2 : Below w.heap.size w w2 := by rw [hw2]; exact below_drew (below_then hB0 hB0.size hB)
  have hne : g ≠ w.heap.size + 1 := by omega
  have k2 : (fun w' => (w'.cell? ⟨g, 0, none⟩ = some (.int .i64 (numOf l0 0 1)) ∧ w'.cell? ⟨g, 1, none⟩ = some (.int .i64 (numOf l0 1 1)) ∧ w'.cell? ⟨g, 2, none⟩ = some (.int .i64 (numOf l0 2 1)) ∧ w'.cell? ⟨g, 3, none⟩ = some (.int .u64 (beNum l0 4 8)) ∧ w'.cell? ⟨g, 4, none⟩ = some (.int .u64 (beNum l0 12 8)) ∧ w'.cell? ⟨g, 5, none⟩ = some (.int .i64 (numOf l0 20 2)) ∧ w'.cell? ⟨g, 6, none⟩ = some (.int .i64 n)) ∧ w'.cell? ⟨w.heap.size, 0, none⟩ = some (.slice A0 l0.length c0) ∧ Below w.heap.size w w') w2 := ⟨⟨blk_cell z0 0, blk_cell z0 1, blk_cell z0 2, blk_cell z0 3, blk_cell z0 4, blk_cell z0 5, blk_cell z0 6⟩, z2, hB2⟩; have hB3 : Below w.heap.size w (((((((w2.setCell ⟨w.heap.size + 1, 0, none⟩ (.int .i64 (numOf l0 0 1))).setCell ⟨w.heap.size + 1, 1, none⟩ (.int .i64 (numOf l0 1 1))).setCell ⟨w.heap.size + 1, 2, none⟩ (.int .i64 (numOf l0 2 1))).setCell ⟨w.heap.size + 1, 3, none⟩ (.int .u64 (beNum l0 4 8))).setCell ⟨w.heap.size + 1, 4, none⟩ (.int .u64 (beNum l0 12 8))).setCell ⟨w.heap.size + 1, 5, none⟩ (.int .i64 (numOf l0 20 2))).setCell ⟨w.heap.size + 1, 6, none⟩ (.int .i64 n)) := (((((((hB2.setCell (p := ⟨w.heap.size + 1, _, none⟩) (Nat.le_succ _) _).setCell (p := ⟨w.heap.size + 1, _, none⟩) (Nat.le_succ _) _).setCell (p := ⟨w.heap.size + 1, _, none⟩) (Nat.le_succ _) _).setCell (p := ⟨w.heap.size + 1, _, none⟩) (Nat.le_succ _) _).setCell (p := ⟨w.heap.size + 1, _, none⟩) (Nat.le_succ _) _).setCell (p := ⟨w.heap.size + 1, _, none⟩) (Nat.le_succ _) _).setCell (p := ⟨w.heap.size + 1, _, none⟩) (Nat.le_succ _) _); have z3 : ((((((((w2.setCell ⟨w.heap.size + 1, 0, none⟩ (.int .i64 (numOf l0 0 1))).setCell ⟨w.heap.size + 1, 1, none⟩ (.int .i64 (numOf l0 1 1))).setCell ⟨w.heap.size + 1, 2, none⟩ (.int .i64 (numOf l0 2 1))).setCell ⟨w.heap.size + 1, 3, none⟩ (.int .u64 (beNum l0 4 8))).setCell ⟨w.heap.size + 1, 4, none⟩ (.int .u64 (beNum l0 12 8))).setCell ⟨w.heap.size + 1, 5, none⟩ (.int .i64 (numOf l0 20 2))).setCell ⟨w.heap.size + 1, 6, none⟩ (.int .i64 n))).heap[w.heap.size + 1]? = some (.cells #[.int .i64 (numOf l0 0 1), .int .i64 (numOf l0 1 1), .int .i64 (numOf l0 2 1), .int .u64 (beNum l0 4 8), .int .u64 (beNum l0 12 8), .int .i64 (numOf l0 20 2), .int .i64 n] 82 (0, 0)) := by
   have h0 := blk_set z1 0 (.int .i64 (numOf l0 0 1)); have h1 := blk_set h0 1 (.int .i64 (numOf l0 1 1)); have h2 := blk_set h1 2 (.int .i64 (numOf l0 2 1)); have h3 := blk_set h2 3 (.int .u64 (beNum l0 4 8)); have h4 := blk_set h3 4 (.int .u64 (beNum l0 12 8)); have h5 := blk_set h4 5 (.int .i64 (numOf l0 20 2)); have h6 := blk_set h5 6 (.int .i64 n)
   simpa using h6
  have far : ∀ p : Addr, p.block ≠ w.heap.size + 1 → ((((((((w2.setCell ⟨w.heap.size + 1, 0, none⟩ (.int .i64 (numOf l0 0 1))).setCell ⟨w.heap.size + 1, 1, none⟩ (.int .i64 (numOf l0 1 1))).setCell ⟨w.heap.size + 1, 2, none⟩ (.int .i64 (numOf l0 2 1))).setCell ⟨w.heap.size + 1, 3, none⟩ (.int .u64 (beNum l0 4 8))).setCell ⟨w.heap.size + 1, 4, none⟩ (.int .u64 (beNum l0 12 8))).setCell ⟨w.heap.size + 1, 5, none⟩ (.int .i64 (numOf l0 20 2))).setCell ⟨w.heap.size + 1, 6, none⟩ (.int .i64 n))).cell? p = w2.cell? p := by
   intro p hp
   repeat rw [World.cell?_setCell_far _ _ _ _ (fun h => hp h.symm)]
  have k3 : (fun w' => (w'.cell? ⟨g, 0, none⟩ = some (.int .i64 (numOf l0 0 1)) ∧ w'.cell? ⟨g, 1, none⟩ = some (.int .i64 (numOf l0 1 1)) ∧ w'.cell? ⟨g, 2, none⟩ = some (.int .i64 (numOf l0 2 1)) ∧ w'.cell? ⟨g, 3, none⟩ = some (.int .u64 (beNum l0 4 8)) ∧ w'.cell? ⟨g, 4, none⟩ = some (.int .u64 (beNum l0 12 8)) ∧ w'.cell? ⟨g, 5, none⟩ = some (.int .i64 (numOf l0 20 2)) ∧ w'.cell? ⟨g, 6, none⟩ = some (.int .i64 n)) ∧ w'.cell? ⟨w.heap.size, 0, none⟩ = some (.slice A0 l0.length c0) ∧ Below w.heap.size w w') (((((((w2.setCell ⟨w.heap.size + 1, 0, none⟩ (.int .i64 (numOf l0 0 1))).setCell ⟨w.heap.size + 1, 1, none⟩ (.int .i64 (numOf l0 1 1))).setCell ⟨w.heap.size + 1, 2, none⟩ (.int .i64 (numOf l0 2 1))).setCell ⟨w.heap.size + 1, 3, none⟩ (.int .u64 (beNum l0 4 8))).setCell ⟨w.heap.size + 1, 4, none⟩ (.int .u64 (beNum l0 12 8))).setCell ⟨w.heap.size + 1, 5, none⟩ (.int .i64 (numOf l0 20 2))).setCell ⟨w.heap.size + 1, 6, none⟩ (.int .i64 n)) := ⟨⟨(far _ hne).trans (blk_cell z0 0), (far _ hne).trans (blk_cell z0 1), (far _ hne).trans (blk_cell z0 2), (far _ hne).trans (blk_cell z0 3), (far _ hne).trans (blk_cell z0 4), (far _ hne).trans (blk_cell z0 5), (far _ hne).trans (blk_cell z0 6)⟩, (far _ (by show w.heap.size ≠ w.heap.size + 1; omega)).trans z2, hB3⟩; have d0 := blk_cell z1 0; have d1 := blk_cell z1 1; have d2 := blk_cell z1 2; have d3 := blk_cell z1 3; have d4 := blk_cell z1 4; have d5 := blk_cell z1 5; have d6 := blk_cell z1 6; have e0 := blk_frozen z1 0; have e1 := blk_frozen z1 1; have e2 := blk_frozen z1 2; have e3 := blk_frozen z1 3; have e4 := blk_frozen z1 4; have e5 := blk_frozen z1 5; have e6 := blk_frozen z1 6; have q3 := blk_cell z3 0; have q4 := blk_cell z3 1; have q5 := blk_cell z3 2; have q6 := blk_cell z3 3; have q7 := blk_cell z3 4; have q8 := blk_cell z3 5; have q9 := blk_cell z3 6; have HB3 := aK hB3; have HZ3 := aK z3; clear z3; have hnc : ¬ (c0 = 24) := by omega
  have hcv : ∀ W : World, Below w.heap.size w W → Sem.run Try.prog (convert 38 9 (.slice (Option.map (fun x => (⟨x.block, x.off + 24, none⟩ : Addr)) A0) (m - 24) (c0 - 24))) W = .ok (.string (strOfNums (dataOf l0))) W := by
   intro W hW; have hm := Kd.C_mid (lo := 24) (hi := m) (Kd.C_below HR.out hW) (by omega) (by have := HLen.out; omega) HC.out; rw [if_neg hnc] at hm; have hdd : (l0.take m).drop 24 = dataOf l0 := by
    rw [HD.out, List.drop_take, show ((m : Int) - 24).toNat = m - 24 by omega]
   rw [hdd] at hm; have hlen : (dataOf l0).length = m - 24 := by
    have := HLen.out; rw [← hdd, List.length_drop, List.length_take]; omega
   rw [hlen, show A0.map (·.add (24 * (Kd.int IntKind.u8).sz)) = Option.map (fun x => (⟨x.block, x.off + 24, none⟩ : Addr)) A0 from by cases A0 <;> simp [Addr.add, show (Kd.int IntKind.u8).sz = 1 from rfl]] at hm; exact c_string Try.underlying38 Try.underlying5 Try.underlying9 hm
  have hdrew := hw2.symm; clear hw2 hz hB hB0 hb1 hc0 hS0 HK2 HL2 hrn hm hd hng z0 z1 far hB2 hB3 hne
  go_region_held3 (fun w' => (w'.cell? ⟨g, 0, none⟩ = some (.int .i64 (numOf l0 0 1)) ∧ w'.cell? ⟨g, 1, none⟩ = some (.int .i64 (numOf l0 1 1)) ∧ w'.cell? ⟨g, 2, none⟩ = some (.int .i64 (numOf l0 2 1)) ∧ w'.cell? ⟨g, 3, none⟩ = some (.int .u64 (beNum l0 4 8)) ∧ w'.cell? ⟨g, 4, none⟩ = some (.int .u64 (beNum l0 12 8)) ∧ w'.cell? ⟨g, 5, none⟩ = some (.int .i64 (numOf l0 20 2)) ∧ w'.cell? ⟨g, 6, none⟩ = some (.int .i64 n)) ∧ w'.cell? ⟨w.heap.size, 0, none⟩ = some (.slice A0 l0.length c0) ∧ Below w.heap.size w w') (first | (with_reducible assumption) | (rw [hdrew]; with_reducible assumption)) (fail)
  all_goals (go_wp2_with fail)
  all_goals (refine bodyPost_ret (results_ct rfl _ _ (w.heap.size + 1) 82 _ (0, 0) _ rfl HZ3.out Try.underlying82 rfl (by kernel_rfl)) rfl ?_)
  all_goals (exact ⟨by rw [HN.out]; rfl, HB3.out⟩)
end Go.Proofs.Ytnchdmidaigheaa.Hp
namespace Go.Proofs.Ytnchdmidaigheaa.Hp
open Go.RowKit Go.Proofs.YtnchdmidaigheaaW.PrintWords Go.Proofs.YtnchdmidaigheaaW.PrintLast Go.Proofs.YtnchdmidaigheaaW.PrintMore
attribute [local go_sem] max2_int min2_int max_two min_two max_three min_three max_four min_four   -- for this text's walks alone
set_option linter.unusedVariables false
set_option linter.unusedSimpArgs false
def be_width.f (a0 : Int) : Option (Int) := some (mn (mx a0 0) 8)
set_option maxHeartbeats 8000000 in
set_option maxRecDepth 100000 in
theorem be_width.calls (a0 : Int) (r : Int) (w : World) (h : be_width.f a0 = some r) :
  Calls Try.prog 128 #[.int .i64 a0] w fun e w' => e = .returned (.int .i64 r) ∧ Below w.heap.size w w' := by
 have HB := aK (Below.refl w.heap.size w); have H : (some (mn (mx a0 0) 8)) = some r := h; clear h; obtain ⟨ji2, hji2⟩ : ∃ j_ : Int, (mx a0 0) = j_ := ⟨_, rfl⟩; replace H : (some (mn (ji2) 8)) = some r := by first | (rw [hji2] at H; exact H) | (simp only [hji2] at H ⊢; exact H)
 (try (have hji2l : 0 ≤ ji2 := by (rw [← hji2]; unfold mx; (repeat' split) <;> omega))); (try (have hji2m : 0 ≤ ji2 := by omega)); have hji2_ : (if a0 < 0 then 0 else a0) = ji2 := hji2; obtain ⟨ji3, hji3⟩ : ∃ j_ : Int, (mn (ji2) 8) = j_ := ⟨_, rfl⟩; replace H : (some ji3) = some r := by first | (rw [hji3] at H; exact H) | (simp only [hji3] at H ⊢; exact H)
 have hji3_ : (if 8 < (ji2) then 8 else (ji2)) = ji3 := hji3; obtain rfl := Option.some.inj H; go_enter Try.func128, Try.ntmps128
 go_wp2
 go_ret; exact ⟨by first | rfl | (simp [errW_none, errW_some] <;> rfl) | (simp only [← hji2, ← hji3]; first | rfl | (simp [errW_none, errW_some] <;> rfl)) | (simp [*, errW_none, errW_some] <;> rfl), by repeat (first | (with_reducible first | exact HB.out | apply below_alloc | apply pw_below_drewN | apply below_drew1) | exact HB.out)⟩
def be_Put.l0 : Nat → Int → List Int → Int → Option (List Int)
 | 0, _, _, _ => none
 | k + 1, x2, x7, x8 => if x8 ≥ 0 then (if 0 ≤ (wrap64 (8 * x8)) then (if x7.length < 140737488355328 then (be_Put.l0 k x2 (x7 ++ [(shr .u64 x2 (wrap64 (8 * x8))) % 256]) (wrap64 (x8 - 1))) else (none)) else (none)) else (some x7)
def be_Put.f (k : Nat) (l0 : List Int) (a1 : Int) (a2 : Int) : Option (List Int) := if ([] : List Int).length + l0.length < 140737488355328 then ((be_width.f a1).bind fun t271 => (be_Put.l0 k a2 (([] : List Int) ++ l0) (wrap64 (t271 - 1)))) else (none)
theorem be_Put.mono_l : ∀ k, (∀ y0 y1 y2, LeO (be_Put.l0 k y0 y1 y2) (be_Put.l0 (k + 1) y0 y1 y2))
 | 0 => fun _ _ _ r h => by simp [be_Put.l0] at h
 | k + 1 => by
  have ih0 := be_Put.mono_l k
  ·
   intro y0 y1 y2; unfold be_Put.l0
   repeat' first
   | (with_reducible exact ih0 _ _ _)
   | (with_reducible exact LeO.refl _)
   | (with_reducible exact LeO.none _)
   | (with_reducible refine LeO.ite ?_ ?_)
   | (with_reducible refine LeO.bind ?_ (fun _ => ?_))
   | exact ih0 _ _ _
   | exact LeO.none _
   | refine LeO.ite ?_ ?_
   | refine LeO.bind ?_ (fun _ => ?_)
theorem be_Put.mono : ∀ a0 a1 a2 k, LeO (be_Put.f k a0 a1 a2) (be_Put.f (k + 1) a0 a1 a2) := by
 intro a0 a1 a2 k; have ih0 := be_Put.mono_l k; unfold be_Put.f
 repeat' first
   | (with_reducible exact ih0 _ _ _)
   | (with_reducible exact LeO.refl _)
   | (with_reducible exact LeO.none _)
   | (with_reducible refine LeO.ite ?_ ?_)
   | (with_reducible refine LeO.bind ?_ (fun _ => ?_))
   | exact ih0 _ _ _
   | exact LeO.none _
   | refine LeO.ite ?_ ?_
   | refine LeO.bind ?_ (fun _ => ?_)
set_option maxHeartbeats 8000000 in
set_option maxRecDepth 100000 in
theorem be_Put.calls (k : Nat) (A0 : Option Addr) (c0 : Nat) (l0 : List Int) (a1 : Int) (a2 : Int) (r : List Int) (w : World) (hr0 : Kd.C (Kd.int .u8) w A0 l0.length l0) (hc0 : l0.length ≤ c0) (h : be_Put.f k l0 a1 a2 = some r) :
  Calls Try.prog 123 #[.slice A0 l0.length c0, .int .i64 a1, .int .u64 a2] w fun e w' => ∃ v0_ : Value, e = .returned (v0_) ∧ Kd.R (Kd.int .u8) 5 w' w.heap.size (fun _ => True) v0_ r ∧ Below w.heap.size w w' := by
 have HR0 := aK hr0; have HC0 := aK hc0; clear hr0 hc0; have HB := aK (Below.refl w.heap.size w); have H : (if ([] : List Int).length + l0.length < 140737488355328 then ((be_width.f a1).bind fun t271 => (be_Put.l0 k a2 (([] : List Int) ++ l0) (wrap64 (t271 - 1)))) else (none)) = some r := h; clear h; by_cases c4 : ([] : List Int).length + l0.length < 140737488355328
 ·
  rw [if_pos c4] at H; have LMc4 := aK c4; clear c4; obtain ⟨y268, hy268⟩ : ∃ y_ : List Int, y_ = (([] : List Int) ++ l0) := ⟨_, rfl⟩; replace H : ((be_width.f a1).bind fun t271 => (be_Put.l0 k a2 y268 (wrap64 (t271 - 1)))) = some r := by first | (rw [hy268]; with_reducible exact H) | (have H2_ := (Option.bind_some _ _).symm.trans H; rw [hy268]; with_reducible exact H2_) | (have H2_ := (Option.bind_some _ _).symm.trans H; with_reducible exact H2_) | with_reducible exact H | (rw [hy268]; exact H) | exact H
  have Ny268 := aK hy268; clear hy268; replace H := Option.bind_eq_some_iff.mp H; obtain ⟨t271, A50, H⟩ := H; replace H : (be_Put.l0 k a2 y268 (wrap64 (t271 - 1))) = some r := H; have A5 := aK A50; clear A50; have H' := aK H; clear H; go_enter Try.func123, Try.ntmps123; go_wp2_with (first | ((with_reducible refine gate_builtin (b := .append) (xs := #[.const (.slice none 0 0), .tmp 9]) rfl ?_); at_builtin; refine Kd.R_append_rows (Kd.int .u8) (w0 := w) w.heap.size rfl (.const (.slice none 0 0)) (.tmp 9) 38 5 (.int .u8 0) 1 rfl Try.underlying38 info5 rfl (by decide) (by omega) (.slice none 0 0) ([] : List Int) l0 _ _ _ (fun _ => True) (fun _ => False) rfl rfl ?aO ?aR (fun _ _ h => h) (fun _ h => h.elim) ?aF ?aB ?aS ?aL ?_; (case aR => repeat (first | exact HR0.out | (with_reducible refine Kd.C_alloc ?_ _) | (with_reducible refine Kd.C_drewN ?_ _) | (with_reducible refine Kd.C_drew ?_))); (case aB => exact (by repeat (first | (with_reducible first | exact HB.out | apply below_alloc | apply pw_below_drewN | apply below_drew1) | exact HB.out))); (case aF => exact (fun _ _ => trivial)); (case aO => exact ((Kd.R_nil _ _ _ _ (fun _ => True)))); (case aS => exact (below_size (by repeat (first | (with_reducible first | exact HB.out | apply below_alloc | apply pw_below_drewN | apply below_drew1) | exact HB.out)))); (case aL => have := LMc4.out; omega); intro v269 w6 ho hb hg hat; rw [← Ny268.out] at ho; have n0_ := aK (hb); have n1_ := aK (ho); clear HB; have HB := n0_; have HO270 := n1_; clear n0_ n1_; clear ho hb hg hat) | ((with_reducible refine gate_callee (f := 128) rfl ?_); refine goesL_ (some 12) rfl rfl Try.func128 (by kernel_rfl) rfl #[.int .i64 a1] rfl (by (try simp only [List.map_toArray, List.map_cons, List.map_nil]); first | done | rfl | (simp only [List.length_drop, List.length_take]; rfl)) ?_; (with_reducible refine (be_width.calls a1 t271 _ A5.out).mono ?_); rintro e w7 ⟨rfl, hb⟩; refine ⟨_, rfl, ?_⟩; have n0_ := aK (Kd.R_below (by (with_reducible repeat (first | apply Kd.R_alloc | apply Kd.R_drewN | apply Kd.R_drew)); exact HO270.out) hb); have n1_ := aK (below_step (by repeat (first | (with_reducible first | exact HB.out | apply below_alloc | apply pw_below_drewN | apply below_drew1) | exact HB.out)) hb); clear HO270; clear HB; have HO270 := n0_; have HB := n1_; clear n0_ n1_; (try clear hb); (try clear hb2); (try clear hk); (try clear hi)))
  go_loopg [7, 8] k (fun kq v7 v8 w' => ∃ (x7_1 : List Int) (x8_1 : Int), v8 = .int .i64 x8_1 ∧ Aside0 (be_Put.l0 kq a2 x7_1 x8_1 = some r) ∧ Aside0 (kq ≤ k) ∧ Aside0 (Kd.R (Kd.int .u8) 5 w' w.heap.size (fun _ => True) v7 x7_1) ∧ Aside0 (Below w.heap.size w w'))
  case atStart => exact ⟨(y268), (wrap64 (t271 - 1)), (by first | rfl | (simp; done) | (simp [*]; done)), H', ⟨Nat.le_refl _⟩, ⟨by (with_reducible repeat (first | apply Kd.R_alloc | apply Kd.R_drewN | apply Kd.R_drew)); exact HO270.out⟩, ⟨by repeat (first | (with_reducible first | exact HB.out | apply below_alloc | apply pw_below_drewN | apply below_drew1) | exact HB.out)⟩⟩
  case round =>
   clear H'
   try clear c1
   try clear p2
   try clear c4
   try clear p6
   obtain ⟨x7_1, x8_1, rfl, HA, HK1, HO_7, HB⟩ := hrel
   cases gk with
   | zero => exact absurd HA.out (by simp [be_Put.l0])
   | succ k1 =>
    have H := HA.out; clear HA; simp only [be_Put.l0] at H; by_cases c8 : x8_1 ≥ 0
    ·
     rw [if_pos c8] at H; have c8b0 : decide (0 ≤ x8_1) = true := decide_eq_true c8; clear c8; obtain ⟨ji9, hji9⟩ : ∃ j_ : Int, (wrap64 (8 * x8_1)) = j_ := ⟨_, rfl⟩; replace H : (if 0 ≤ (ji9) then (if x7_1.length < 140737488355328 then (be_Put.l0 k1 a2 (x7_1 ++ [(shr .u64 a2 (ji9)) % 256]) (wrap64 (x8_1 - 1))) else (none)) else (none)) = some r := by first | (rw [hji9] at H; exact H) | (simp only [hji9] at H ⊢; exact H)
     have hji9w : (IntKind.i64.wrap (8 * x8_1)) = ji9 := (i64_w _).trans hji9; by_cases c10 : 0 ≤ (ji9)
     ·
      rw [if_pos c10] at H; have c10b0 := eq_true c10; have c10b1 : decide (0 ≤ (ji9)) = true := decide_eq_true c10; clear c10; obtain ⟨ji11, hji11⟩ : ∃ j_ : Int, (shr .u64 a2 (ji9)) = j_ := ⟨_, rfl⟩; replace H : (if x7_1.length < 140737488355328 then (be_Put.l0 k1 a2 (x7_1 ++ [(ji11) % 256]) (wrap64 (x8_1 - 1))) else (none)) = some r := by first | (rw [hji11] at H; exact H) | (simp only [hji11] at H ⊢; exact H)
      have hji11_ : (a2 / 2 ^ min (ji9).toNat 64) = ji11 := hji11; have hji11z : (ji9) ≤ 64 → (a2 / 2 ^ (ji9).toNat) = ji11 := shr_small hji11; by_cases c12 : x7_1.length < 140737488355328
      ·
       rw [if_pos c12] at H; have LMc12 := aK c12; clear c12; obtain ⟨y272, hy272⟩ : ∃ y_ : List Int, y_ = (x7_1 ++ [(ji11) % 256]) := ⟨_, rfl⟩; replace H : (be_Put.l0 k1 a2 y272 (wrap64 (x8_1 - 1))) = some r := by first | (rw [hy272]; with_reducible exact H) | (have H2_ := (Option.bind_some _ _).symm.trans H; rw [hy272]; with_reducible exact H2_) | (have H2_ := (Option.bind_some _ _).symm.trans H; with_reducible exact H2_) | with_reducible exact H | (rw [hy272]; exact H) | exact H
       have Ny272 := aK hy272; clear hy272; have H' := aK H; clear H; go_wp2_with (first | ((with_reducible refine gate_builtin (b := .append) (xs := #[.tmp 18, .tmp 24]) rfl ?_); at_builtin; refine Kd.R_append (Kd.int .u8) (w0 := w) w.heap.size rfl (.tmp 18) (.tmp 24) 38 5 (.int .u8 0) 1 rfl Try.underlying38 info5 rfl (by decide) (by omega) u7 x7_1 ((ji11) % 256) [.int .u8 ((ji11) % 256)] (fun _ => True) (fun _ => False) rfl rfl ?aP (fun _ hk => hk.elim) ?aF ?aO ?aB ?aS ?aL ?_; (case aP => exact rfl); (case aB => exact (by repeat (first | (with_reducible first | exact HB.out | apply below_alloc | apply pw_below_drewN | apply below_drew1) | exact HB.out))); (case aF => exact (fun _ _ => trivial)); (case aO => exact (by (with_reducible repeat (first | apply Kd.R_alloc | apply Kd.R_drewN | apply Kd.R_drew)); exact HO_7.out)); (case aS => exact (below_size (by repeat (first | (with_reducible first | exact HB.out | apply below_alloc | apply pw_below_drewN | apply below_drew1) | exact HB.out)))); (case aL => have := LMc12.out; omega); intro v273 w13 ho hb hg hat; rw [← Ny272.out] at ho; have n0_ := aK (hb); have n1_ := aK (ho); clear HB; clear HO_7; have HB := n0_; have HO274 := n1_; clear n0_ n1_; clear ho hb hg hat)); go_roundg k1
       case measure => have := HK1.out; omega
       case rel => exact ⟨(y272), (wrap64 (x8_1 - 1)), (by first | rfl | (simp; done) | (simp [*]; done)), H', ⟨by have := HK1.out; omega⟩, ⟨by (with_reducible repeat (first | apply Kd.R_alloc | apply Kd.R_drewN | apply Kd.R_drew)); exact HO274.out⟩, ⟨by repeat (first | (with_reducible first | exact HB.out | apply below_alloc | apply pw_below_drewN | apply below_drew1) | exact HB.out)⟩⟩
      ·
       rw [if_neg c12] at H; exact absurd H (by simp)
     ·
      rw [if_neg c10] at H; exact absurd H (by simp)
    ·
     rw [if_neg c8] at H; have c8b0 : decide (0 ≤ x8_1) = false := decide_eq_false c8; clear c8; obtain rfl := Option.some.inj H
     go_wp2
     go_ret; exact ⟨_, by first | rfl | (simp [errW_none, errW_some] <;> rfl) | (simp [*, errW_none, errW_some] <;> rfl), by (with_reducible repeat (first | apply Kd.R_alloc | apply Kd.R_drewN | apply Kd.R_drew)); exact HO_7.out, by repeat (first | (with_reducible first | exact HB.out | apply below_alloc | apply pw_below_drewN | apply below_drew1) | exact HB.out)⟩
 ·
  rw [if_neg c4] at H; exact absurd H (by simp)
end Go.Proofs.Ytnchdmidaigheaa.Hp
namespace Go.Proofs.Ytnchdmidaigheaa.Hp
open Go.RowKit Go.Proofs.YtnchdmidaigheaaW.PrintWords Go.Proofs.YtnchdmidaigheaaW.PrintLast Go.Proofs.YtnchdmidaigheaaW.PrintMore
attribute [local go_sem] max2_int min2_int max_two min_two max_three min_three max_four min_four   -- for this text's walks alone
set_option linter.unusedVariables false
set_option linter.unusedSimpArgs false
def zeros_count.f (a : Int) : Option Int := if 0 ≤ a ∧ a ≤ 255 then some (zbits a) else none
set_option maxHeartbeats 8000000 in
set_option maxRecDepth 100000 in
theorem zeros_count.calls (a0 : Int) (r : Int) (w : World) (h : zeros_count.f a0 = some r) :
  Calls Try.prog 129 #[.int .u8 a0] w fun e w' => e = .returned (.int .i64 r) ∧ Drawn0 w w' := by
 unfold zeros_count.f at h; by_cases hr : 0 ≤ a0 ∧ a0 ≤ 255
 ·
  rw [if_pos hr] at h; obtain rfl := Option.some.inj h; obtain ⟨h0, h1⟩ := hr; clear h; go_enter Try.func129, Try.ntmps129
  go_wp2
  go_loopg [3, 5] 9 (fun kq n i w' => ∃ k : Nat, i = .int .i64 k ∧ n = .int .i64 (zpre a0 k) ∧ Aside0 (k ≤ 8) ∧ Aside0 (kq + k = 9) ∧ Drawn0 w w')
  case atStart => exact ⟨0, rfl, rfl, ⟨by omega⟩, ⟨rfl⟩, Drawn0.refl _⟩
  case round =>
   obtain ⟨k, rfl, rfl, HK, HQ, ⟨m, rfl⟩⟩ := hrel; by_cases hk : k < 8
   ·
    have hb : decide ((k : Int) < 8) = true := by simp; omega
    have HS := aK (zstep a0 h0 h1 k hk)
    go_wp2
    go_roundg (gk - 1)
    case measure => have := HQ.out; omega
    case rel => exact ⟨k + 1, by simp, by rw [HS.out], ⟨by omega⟩, ⟨by have := HQ.out; omega⟩, by repeat (first | exact Drawn0.refl _ | apply Drawn0.step)⟩
   ·
    have hk8 : k = 8 := by have := HK.out; omega
    subst hk8; rw [zpre_8]
    go_wp2
    go_ret; exact ⟨rfl, by repeat (first | exact Drawn0.refl _ | apply Drawn0.step)⟩
 ·
  rw [if_neg hr] at h
  cases h
end Go.Proofs.Ytnchdmidaigheaa.Hp
namespace Go.Proofs.Ytnchdmidaigheaa.Hp
open Go.RowKit Go.Proofs.YtnchdmidaigheaaW.PrintWords Go.Proofs.YtnchdmidaigheaaW.PrintLast Go.Proofs.YtnchdmidaigheaaW.PrintMore
attribute [local go_sem] max2_int min2_int max_two min_two max_three min_three max_four min_four   -- for this text's walks alone
set_option linter.unusedVariables false
set_option linter.unusedSimpArgs false
def zeros_Count.l0 : Nat → Int → List Int → Int → Int → Option (Int)
 | 0, _, _, _, _ => none
 | k + 1, x3, x6, x7, x8 => if x8 < x7 then (if 0 ≤ x8 then (if x8 < (x6.length : Int) then ((zeros_count.f (rd x6 x8)).bind fun t276 => (zeros_Count.l0 k (wrap64 (x3 + t276)) x6 x7 (wrap64 (x8 + 1)))) else (none)) else (none)) else (some x3)
def zeros_Count.f (k : Nat) (l0 : List Int) : Option (Int) := zeros_Count.l0 k 0 l0 (l0.length : Int) 0
theorem zeros_Count.mono_l : ∀ k, (∀ y0 y1 y2 y3, LeO (zeros_Count.l0 k y0 y1 y2 y3) (zeros_Count.l0 (k + 1) y0 y1 y2 y3))
 | 0 => fun _ _ _ _ r h => by simp [zeros_Count.l0] at h
 | k + 1 => by
  have ih0 := zeros_Count.mono_l k
  ·
   intro y0 y1 y2 y3; unfold zeros_Count.l0
   repeat' first
   | (with_reducible exact ih0 _ _ _ _)
   | (with_reducible exact LeO.refl _)
   | (with_reducible exact LeO.none _)
   | (with_reducible refine LeO.ite ?_ ?_)
   | (with_reducible refine LeO.bind ?_ (fun _ => ?_))
   | exact ih0 _ _ _ _
   | exact LeO.none _
   | refine LeO.ite ?_ ?_
   | refine LeO.bind ?_ (fun _ => ?_)
theorem zeros_Count.mono : ∀ a0 k, LeO (zeros_Count.f k a0) (zeros_Count.f (k + 1) a0) := by
 intro a0 k; have ih0 := zeros_Count.mono_l k; unfold zeros_Count.f
 repeat' first
   | (with_reducible exact ih0 _ _ _ _)
   | (with_reducible exact LeO.refl _)
   | (with_reducible exact LeO.none _)
   | (with_reducible refine LeO.ite ?_ ?_)
   | (with_reducible refine LeO.bind ?_ (fun _ => ?_))
   | exact ih0 _ _ _ _
   | exact LeO.none _
   | refine LeO.ite ?_ ?_
   | refine LeO.bind ?_ (fun _ => ?_)
set_option maxHeartbeats 8000000 in
set_option maxRecDepth 100000 in
theorem zeros_Count.calls (k : Nat) (A0 : Option Addr) (c0 : Nat) (l0 : List Int) (r : Int) (w : World) (hr0 : Kd.C (Kd.int .u8) w A0 l0.length l0) (hc0 : l0.length ≤ c0) (h : zeros_Count.f k l0 = some r) :
  Calls Try.prog 124 #[.slice A0 l0.length c0] w fun e w' => e = .returned (.int .i64 r) ∧ Drawn0 w w' := by
 have HR0 := aK hr0; have HC0 := aK hc0; clear hr0 hc0; have H : (zeros_Count.l0 k 0 l0 (l0.length : Int) 0) = some r := h; clear h; have H' := aK H; clear H; go_enter Try.func124, Try.ntmps124
 go_wp2
 go_loopg [3, 8] k (fun kq v3 v8 w' => ∃ (x3_1 : Int) (x8_1 : Int), v3 = .int .i64 x3_1 ∧ v8 = .int .i64 x8_1 ∧ Aside0 (zeros_Count.l0 kq x3_1 l0 (l0.length : Int) x8_1 = some r) ∧ Aside0 (kq ≤ k) ∧ Drawn0 w w')
 case atStart => exact ⟨(0), (0), (by first | rfl | (simp; done) | (simp [*]; done)), (by first | rfl | (simp; done) | (simp [*]; done)), H', ⟨Nat.le_refl _⟩, by repeat (first | exact Drawn0.refl _ | apply Drawn0.step)⟩
 case round =>
  clear H'
  try clear c1
  obtain ⟨x3_1, x8_1, rfl, rfl, HA, HK1, ⟨m1, rfl⟩⟩ := hrel
  cases gk with
  | zero => exact absurd HA.out (by simp [zeros_Count.l0])
  | succ k1 =>
   have H := HA.out; clear HA; simp only [zeros_Count.l0] at H; by_cases c2 : x8_1 < (l0.length : Int)
   ·
    rw [if_pos c2] at H; have c2b0 : decide (x8_1 < (l0.length : Int)) = true := decide_eq_true c2; clear c2; by_cases c3 : 0 ≤ x8_1
    ·
     rw [if_pos c3] at H; have c3b0 : decide (0 ≤ x8_1) = true := decide_eq_true c3; clear c3; by_cases c4 : x8_1 < (l0.length : Int)
     ·
      rw [if_pos c4] at H; have c4b0 : decide (x8_1 < (l0.length : Int)) = true := decide_eq_true c4; clear c4; replace H := Option.bind_eq_some_iff.mp H; obtain ⟨t276, A50, H⟩ := H; replace H : (zeros_Count.l0 k1 (wrap64 (x3_1 + t276)) l0 (l0.length : Int) (wrap64 (x8_1 + 1))) = some r := H; have A5 := aK A50; clear A50; have H' := aK H; clear H; have p275 : 0 ≤ (x8_1 : Int) := of_decide_eq_true (by first | (with_reducible assumption) | assumption); have q275 : x8_1 < (l0.length : Int) := of_decide_eq_true (by first | (with_reducible assumption) | assumption); obtain ⟨ad275, e275, hx275_0⟩ := Kd.at_int HR0.out x8_1 p275 q275
      cases e275
      replace p275 := eq_true p275; replace q275 := eq_true q275; go_wp2_with (first | ((with_reducible refine gate_callee (f := 129) rfl ?_); refine goesL_ (some 14) rfl rfl Try.func129 (by kernel_rfl) rfl #[.int .u8 (rd l0 x8_1)] rfl (by (try simp only [List.map_toArray, List.map_cons, List.map_nil]); first | done | rfl | (simp only [List.length_drop, List.length_take]; rfl)) ?_; (with_reducible refine (zeros_count.calls (rd l0 x8_1) t276 _ A5.out).mono ?_); rintro e w' ⟨rfl, ⟨nd, rfl⟩⟩; refine ⟨_, rfl, ?_⟩)); go_roundg k1
      case measure => have := HK1.out; omega
      case rel => exact ⟨(wrap64 (x3_1 + t276)), (wrap64 (x8_1 + 1)), (by first | rfl | (simp; done) | (simp [*]; done)), (by first | rfl | (simp; done) | (simp [*]; done)), H', ⟨by have := HK1.out; omega⟩, by repeat (first | exact Drawn0.refl _ | apply Drawn0.step)⟩
     ·
      rw [if_neg c4] at H; exact absurd H (by simp)
    ·
     rw [if_neg c3] at H; exact absurd H (by simp)
   ·
    rw [if_neg c2] at H; have c2b0 : decide (x8_1 < (l0.length : Int)) = false := decide_eq_false c2; clear c2; obtain rfl := Option.some.inj H
    go_wp2
    go_ret; exact ⟨by first | rfl | (simp; done) | (simp [*]; done), by repeat (first | exact Drawn0.refl _ | apply Drawn0.step)⟩
def page_Seal.f (k : Nat) (l0 : List Int) : Option (List Int) := if (l0.length : Int) = 252 then ((zeros_Count.f k l0).bind fun t277 => ((be_Put.f k l0 4 (IntKind.u64.wrap (t277))).bind fun t278 => (some t278))) else (some ([] : List Int))
theorem page_Seal.mono : ∀ a0 k, LeO (page_Seal.f k a0) (page_Seal.f (k + 1) a0) := by
 intro a0 k; unfold page_Seal.f
 repeat' first
   | (with_reducible exact be_Put.mono _ _ _ _)
   | (with_reducible exact zeros_Count.mono _ _)
   | (with_reducible exact LeO.refl _)
   | (with_reducible exact LeO.none _)
   | (with_reducible refine LeO.ite ?_ ?_)
   | (with_reducible refine LeO.bind ?_ (fun _ => ?_))
   | exact be_Put.mono _ _ _ _
   | exact zeros_Count.mono _ _
   | exact LeO.none _
   | refine LeO.ite ?_ ?_
   | refine LeO.bind ?_ (fun _ => ?_)
set_option maxHeartbeats 8000000 in
set_option maxRecDepth 100000 in
theorem page_Seal.calls (k : Nat) (A0 : Option Addr) (c0 : Nat) (l0 : List Int) (r : List Int) (w : World) (hr0 : Kd.C (Kd.int .u8) w A0 l0.length l0) (hc0 : l0.length ≤ c0) (h : page_Seal.f k l0 = some r) :
  Calls Try.prog 111 #[.slice A0 l0.length c0] w fun e w' => ∃ v0_ : Value, e = .returned (v0_) ∧ Kd.R (Kd.int .u8) 5 w' w.heap.size (fun _ => True) v0_ r ∧ Below w.heap.size w w' := by
 have HR0 := aK hr0; have HC0 := aK hc0; clear hr0 hc0; have HB := aK (Below.refl w.heap.size w); have H : (if (l0.length : Int) = 252 then ((zeros_Count.f k l0).bind fun t277 => ((be_Put.f k l0 4 (IntKind.u64.wrap (t277))).bind fun t278 => (some t278))) else (some ([] : List Int))) = some r := h; clear h; by_cases c2 : (l0.length : Int) = 252
 ·
  rw [if_pos c2] at H; have c2b0 : ((l0.length : Int) == 252) = true := beq_iff_eq.mpr c2; have c2b1 : ((l0.length : Int) != 252) = false := bne_eq_false_iff_eq.mpr c2; clear c2; replace H := Option.bind_eq_some_iff.mp H; obtain ⟨t277, A30, H⟩ := H; replace H : ((be_Put.f k l0 4 (IntKind.u64.wrap (t277))).bind fun t278 => (some t278)) = some r := H; have A3 := aK A30; clear A30; replace H := Option.bind_eq_some_iff.mp H; obtain ⟨t278, A40, H⟩ := H; replace H : (some t278) = some r := H; have A4 := aK A40; clear A40; obtain rfl := Option.some.inj H; go_enter Try.func111, Try.ntmps111; go_wp2_with (first | ((with_reducible refine gate_callee (f := 124) rfl ?_); refine goesL_ (some 8) rfl rfl Try.func124 (by kernel_rfl) rfl #[.slice A0 l0.length c0] rfl (by (try simp only [List.map_toArray, List.map_cons, List.map_nil]); first | done | rfl | (simp only [List.length_drop, List.length_take]; rfl)) ?_; (with_reducible refine (zeros_Count.calls k _ _ l0 t277 _ ?side1 ?side2 A3.out).mono ?_); (case side1 => repeat (first | exact HR0.out | (with_reducible refine Kd.C_alloc ?_ _) | (with_reducible refine Kd.C_drewN ?_ _) | (with_reducible refine Kd.C_drew ?_))); (case side2 => exact HC0.out); rintro e w' ⟨rfl, ⟨nd, rfl⟩⟩; refine ⟨_, rfl, ?_⟩) | ((with_reducible refine gate_callee (f := 123) rfl ?_); refine goesL_ (some 10) rfl rfl Try.func123 (by kernel_rfl) rfl #[.slice A0 l0.length c0, .int .i64 4, .int .u64 (IntKind.u64.wrap (t277))] rfl (by (try simp only [List.map_toArray, List.map_cons, List.map_nil]); first | done | rfl | (simp only [List.length_drop, List.length_take]; rfl)) ?_; (with_reducible refine (be_Put.calls k _ _ l0 4 (IntKind.u64.wrap (t277)) t278 _ ?side1 ?side2 A4.out).mono ?_); (case side1 => repeat (first | exact HR0.out | (with_reducible refine Kd.C_alloc ?_ _) | (with_reducible refine Kd.C_drewN ?_ _) | (with_reducible refine Kd.C_drew ?_))); (case side2 => exact HC0.out); rintro e w5 ⟨v279, rfl, ho0, hb⟩; refine ⟨_, rfl, ?_⟩; have n0_ := aK (Kd.R_lower ho0 (below_size (by repeat (first | (with_reducible first | exact HB.out | apply below_alloc | apply pw_below_drewN | apply below_drew1) | exact HB.out)))); have n1_ := aK (below_step (by repeat (first | (with_reducible first | exact HB.out | apply below_alloc | apply pw_below_drewN | apply below_drew1) | exact HB.out)) hb); clear HB; have HO280 := n0_; have HB := n1_; clear n0_ n1_; (try clear hb); (try clear hb2); (try clear hk); (try clear hi); (try clear ho0))); go_ret; exact ⟨_, by first | rfl | (simp [errW_none, errW_some] <;> rfl) | (simp [*, errW_none, errW_some] <;> rfl), by (with_reducible repeat (first | apply Kd.R_alloc | apply Kd.R_drewN | apply Kd.R_drew)); exact HO280.out, by repeat (first | (with_reducible first | exact HB.out | apply below_alloc | apply pw_below_drewN | apply below_drew1) | exact HB.out)⟩
 ·
  rw [if_neg c2] at H; have c2b0 : ((l0.length : Int) == 252) = false := beq_eq_false_iff_ne.mpr c2; have c2b1 : ((l0.length : Int) != 252) = true := bne_iff_ne.mpr c2; obtain rfl := Option.some.inj H; go_enter Try.func111, Try.ntmps111
  go_wp2
  go_ret; exact ⟨_, by first | rfl | (simp [errW_none, errW_some] <;> rfl) | (simp [*, errW_none, errW_some] <;> rfl), by first | exact Kd.R_nil _ _ _ _ _ | exact Kd.N_nil _ _ _ _ _ | exact Kd.V_nil _ _ _ _ _ | exact Kd.Q_nil _ _ _ _ _ | exact Kd.S_nil _ _ _ _ _, by repeat (first | (with_reducible first | exact HB.out | apply below_alloc | apply pw_below_drewN | apply below_drew1) | exact HB.out)⟩
end Go.Proofs.Ytnchdmidaigheaa.Hp
namespace Go.Proofs.Ytnchdmidaigheaa.Hp
open Go.RowKit Go.Proofs.YtnchdmidaigheaaW.PrintWords Go.Proofs.YtnchdmidaigheaaW.PrintLast Go.Proofs.YtnchdmidaigheaaW.PrintMore
attribute [local go_sem] max2_int min2_int max_two min_two max_three min_three max_four min_four   -- for this text's walks alone
set_option linter.unusedVariables false
set_option linter.unusedSimpArgs false
def zeros_Ones.l0 : Nat → List Int → Int → Int → Option (List Int)
 | 0, _, _, _ => none
 | k + 1, x3, x5, x6 => if x6 < x5 then (if x3.length < 140737488355328 then (zeros_Ones.l0 k (x3 ++ [255]) x5 (wrap64 (x6 + 1))) else (none)) else (some x3)
def zeros_Ones.f (k : Nat) (a0 : Int) : Option (List Int) := zeros_Ones.l0 k ([] : List Int) (mn a0 1048576) 0
theorem zeros_Ones.mono_l : ∀ k, (∀ y0 y1 y2, LeO (zeros_Ones.l0 k y0 y1 y2) (zeros_Ones.l0 (k + 1) y0 y1 y2))
 | 0 => fun _ _ _ r h => by simp [zeros_Ones.l0] at h
 | k + 1 => by
  have ih0 := zeros_Ones.mono_l k
  ·
   intro y0 y1 y2; unfold zeros_Ones.l0
   repeat' first
   | (with_reducible exact ih0 _ _ _)
   | (with_reducible exact LeO.refl _)
   | (with_reducible exact LeO.none _)
   | (with_reducible refine LeO.ite ?_ ?_)
   | (with_reducible refine LeO.bind ?_ (fun _ => ?_))
   | exact ih0 _ _ _
   | exact LeO.none _
   | refine LeO.ite ?_ ?_
   | refine LeO.bind ?_ (fun _ => ?_)
theorem zeros_Ones.mono : ∀ a0 k, LeO (zeros_Ones.f k a0) (zeros_Ones.f (k + 1) a0) := by
 intro a0 k; have ih0 := zeros_Ones.mono_l k; unfold zeros_Ones.f
 repeat' first
   | (with_reducible exact ih0 _ _ _)
   | (with_reducible exact LeO.refl _)
   | (with_reducible exact LeO.none _)
   | (with_reducible refine LeO.ite ?_ ?_)
   | (with_reducible refine LeO.bind ?_ (fun _ => ?_))
   | exact ih0 _ _ _
   | exact LeO.none _
   | refine LeO.ite ?_ ?_
   | refine LeO.bind ?_ (fun _ => ?_)
set_option maxHeartbeats 8000000 in
set_option maxRecDepth 100000 in
theorem zeros_Ones.calls (k : Nat) (a0 : Int) (r : List Int) (w : World) (h : zeros_Ones.f k a0 = some r) :
  Calls Try.prog 61 #[.int .i64 a0] w fun e w' => ∃ v0_ : Value, e = .returned (v0_) ∧ Kd.R (Kd.int .u8) 5 w' w.heap.size (fun _ => True) v0_ r ∧ Below w.heap.size w w' := by
 have HB := aK (Below.refl w.heap.size w); have H : (zeros_Ones.l0 k ([] : List Int) (mn a0 1048576) 0) = some r := h; clear h; obtain ⟨ji2, hji2⟩ : ∃ j_ : Int, (mn a0 1048576) = j_ := ⟨_, rfl⟩; replace H : (zeros_Ones.l0 k ([] : List Int) ji2 0) = some r := by first | (rw [hji2] at H; exact H) | (simp only [hji2] at H ⊢; exact H)
 (try (have hji2h : ji2 ≤ 1048576 := by (rw [← hji2]; unfold mn; (repeat' split) <;> omega))); (try (have hji2g : ji2 ≤ 64 := by omega)); have hji2_ : (if 1048576 < a0 then 1048576 else a0) = ji2 := hji2; have H' := aK H; clear H; go_enter Try.func61, Try.ntmps61
 go_wp2
 go_loopg [3, 6] k (fun kq v3 v6 w' => ∃ (x3_1 : List Int) (x6_1 : Int), v6 = .int .i64 x6_1 ∧ Aside0 (zeros_Ones.l0 kq x3_1 ji2 x6_1 = some r) ∧ Aside0 (kq ≤ k) ∧ Aside0 (Kd.R (Kd.int .u8) 5 w' w.heap.size (fun _ => True) v3 x3_1) ∧ Aside0 (Below w.heap.size w w'))
 case atStart => exact ⟨(([] : List Int)), (0), (by first | rfl | (simp; done) | (simp [*]; done)), H', ⟨Nat.le_refl _⟩, ⟨by first | exact Kd.R_nil _ _ _ _ _ | exact Kd.N_nil _ _ _ _ _ | exact Kd.V_nil _ _ _ _ _ | exact Kd.Q_nil _ _ _ _ _ | exact Kd.S_nil _ _ _ _ _⟩, ⟨by repeat (first | (with_reducible first | exact HB.out | apply below_alloc | apply pw_below_drewN | apply below_drew1) | exact HB.out)⟩⟩
 case round =>
  clear H'
  try clear p2
  obtain ⟨x3_1, x6_1, rfl, HA, HK1, HO_3, HB⟩ := hrel
  cases gk with
  | zero => exact absurd HA.out (by simp [zeros_Ones.l0])
  | succ k1 =>
   have H := HA.out; clear HA; simp only [zeros_Ones.l0] at H; by_cases c3 : x6_1 < ji2
   ·
    rw [if_pos c3] at H; have c3b0 : decide (x6_1 < ji2) = true := decide_eq_true c3; clear c3; by_cases c4 : x3_1.length < 140737488355328
    ·
     rw [if_pos c4] at H; have LMc4 := aK c4; clear c4; obtain ⟨y103, hy103⟩ : ∃ y_ : List Int, y_ = (x3_1 ++ [255]) := ⟨_, rfl⟩; replace H : (zeros_Ones.l0 k1 y103 ji2 (wrap64 (x6_1 + 1))) = some r := by first | (rw [hy103]; with_reducible exact H) | (have H2_ := (Option.bind_some _ _).symm.trans H; rw [hy103]; with_reducible exact H2_) | (have H2_ := (Option.bind_some _ _).symm.trans H; with_reducible exact H2_) | with_reducible exact H | (rw [hy103]; exact H) | exact H
     have Ny103 := aK hy103; clear hy103; have H' := aK H; clear H; go_wp2_with (first | ((with_reducible refine gate_builtin (b := .append) (xs := #[.tmp 8, .tmp 9]) rfl ?_); at_builtin; refine Kd.R_append (Kd.int .u8) (w0 := w) w.heap.size rfl (.tmp 8) (.tmp 9) 38 5 (.int .u8 0) 1 rfl Try.underlying38 info5 rfl (by decide) (by omega) u3 x3_1 255 [.int .u8 255] (fun _ => True) (fun _ => False) rfl rfl ?aP (fun _ hk => hk.elim) ?aF ?aO ?aB ?aS ?aL ?_; (case aP => exact rfl); (case aB => exact (by repeat (first | (with_reducible first | exact HB.out | apply below_alloc | apply pw_below_drewN | apply below_drew1) | exact HB.out))); (case aF => exact (fun _ _ => trivial)); (case aO => exact (by (with_reducible repeat (first | apply Kd.R_alloc | apply Kd.R_drewN | apply Kd.R_drew)); exact HO_3.out)); (case aS => exact (below_size (by repeat (first | (with_reducible first | exact HB.out | apply below_alloc | apply pw_below_drewN | apply below_drew1) | exact HB.out)))); (case aL => have := LMc4.out; omega); intro v104 w5 ho hb hg hat; rw [← Ny103.out] at ho; have n0_ := aK (hb); have n1_ := aK (ho); clear HB; clear HO_3; have HB := n0_; have HO105 := n1_; clear n0_ n1_; clear ho hb hg hat)); go_roundg k1
     case measure => have := HK1.out; omega
     case rel => exact ⟨(y103), (wrap64 (x6_1 + 1)), (by first | rfl | (simp; done) | (simp [*]; done)), H', ⟨by have := HK1.out; omega⟩, ⟨by (with_reducible repeat (first | apply Kd.R_alloc | apply Kd.R_drewN | apply Kd.R_drew)); exact HO105.out⟩, ⟨by repeat (first | (with_reducible first | exact HB.out | apply below_alloc | apply pw_below_drewN | apply below_drew1) | exact HB.out)⟩⟩
    ·
     rw [if_neg c4] at H; exact absurd H (by simp)
   ·
    rw [if_neg c3] at H; have c3b0 : decide (x6_1 < ji2) = false := decide_eq_false c3; clear c3; obtain rfl := Option.some.inj H
    go_wp2
    go_ret; exact ⟨_, by first | rfl | (simp [errW_none, errW_some] <;> rfl) | (simp only [← hji2]; first | rfl | (simp [errW_none, errW_some] <;> rfl)) | (simp [*, errW_none, errW_some] <;> rfl), by (with_reducible repeat (first | apply Kd.R_alloc | apply Kd.R_drewN | apply Kd.R_drew)); exact HO_3.out, by repeat (first | (with_reducible first | exact HB.out | apply below_alloc | apply pw_below_drewN | apply below_drew1) | exact HB.out)⟩
def zeros_Mask.f (l0 : List Int) (a1 : Int) : Option (Int) := if a1 < 0 then (some 0) else (if (l0.length : Int) = 0 then (some 0) else (if 0 ≤ (Int.tmod a1 (l0.length : Int)) then (if (Int.tmod a1 (l0.length : Int)) < (l0.length : Int) then (some (rd l0 (Int.tmod a1 (l0.length : Int)))) else (none)) else (none)))
set_option maxHeartbeats 8000000 in
set_option maxRecDepth 100000 in
theorem zeros_Mask.calls (A0 : Option Addr) (c0 : Nat) (l0 : List Int) (a1 : Int) (r : Int) (w : World) (hr0 : Kd.C (Kd.int .u8) w A0 l0.length l0) (hc0 : l0.length ≤ c0) (h : zeros_Mask.f l0 a1 = some r) :
  Calls Try.prog 104 #[.slice A0 l0.length c0, .int .i64 a1] w fun e w' => e = .returned (.int .u8 r) ∧ Drawn0 w w' := by
 have HR0 := aK hr0; have HC0 := aK hc0; clear hr0 hc0; have H : (if a1 < 0 then (some 0) else (if (l0.length : Int) = 0 then (some 0) else (if 0 ≤ (Int.tmod a1 (l0.length : Int)) then (if (Int.tmod a1 (l0.length : Int)) < (l0.length : Int) then (some (rd l0 (Int.tmod a1 (l0.length : Int)))) else (none)) else (none)))) = some r := h; clear h; by_cases c3 : a1 < 0
 ·
  rw [if_pos c3] at H; have c3b0 : decide (a1 < 0) = true := decide_eq_true c3; clear c3; obtain rfl := Option.some.inj H; go_enter Try.func104, Try.ntmps104
  go_wp2
  go_ret; exact ⟨by first | rfl | (simp; done) | (simp [*]; done), by repeat (first | exact Drawn0.refl _ | apply Drawn0.step)⟩
 ·
  rw [if_neg c3] at H; have c3b0 : decide (a1 < 0) = false := decide_eq_false c3; clear c3; by_cases c4 : (l0.length : Int) = 0
  ·
   rw [if_pos c4] at H; have c4b0 : ((l0.length : Int) == 0) = true := beq_iff_eq.mpr c4; have c4b1 : ((l0.length : Int) != 0) = false := bne_eq_false_iff_eq.mpr c4; clear c4; obtain rfl := Option.some.inj H; go_enter Try.func104, Try.ntmps104
   go_wp2
   go_ret; exact ⟨by first | rfl | (simp; done) | (simp [*]; done), by repeat (first | exact Drawn0.refl _ | apply Drawn0.step)⟩
  ·
   rw [if_neg c4] at H; have c4b0 : ((l0.length : Int) == 0) = false := beq_eq_false_iff_ne.mpr c4; have c4b1 : ((l0.length : Int) != 0) = true := bne_iff_ne.mpr c4; have c4b2 : ¬ (l0 = []) := fun h_ => c4 (by rw [h_]; rfl); obtain ⟨ji5, hji5⟩ : ∃ j_ : Int, (Int.tmod a1 (l0.length : Int)) = j_ := ⟨_, rfl⟩; replace H : (if 0 ≤ (ji5) then (if (ji5) < (l0.length : Int) then (some (rd l0 (ji5))) else (none)) else (none)) = some r := by first | (rw [hji5] at H; exact H) | (simp only [hji5] at H ⊢; exact H)
   by_cases c6 : 0 ≤ (ji5)
   ·
    rw [if_pos c6] at H; have c6b0 : decide (0 ≤ (ji5)) = true := decide_eq_true c6; clear c6; by_cases c7 : (ji5) < (l0.length : Int)
    ·
     rw [if_pos c7] at H; have c7b0 : decide ((ji5) < (l0.length : Int)) = true := decide_eq_true c7; clear c7; obtain rfl := Option.some.inj H; have p111 : 0 ≤ ((ji5) : Int) := of_decide_eq_true (by first | (with_reducible assumption) | assumption); have q111 : (ji5) < (l0.length : Int) := of_decide_eq_true (by first | (with_reducible assumption) | assumption); obtain ⟨ad111, e111, hx111_0⟩ := Kd.at_int HR0.out (ji5) p111 q111
     cases e111
     replace p111 := eq_true p111; replace q111 := eq_true q111; go_enter Try.func104, Try.ntmps104
     go_wp2
     go_ret; exact ⟨by first | rfl | (simp; done) | (simp only [← hji5] <;> (first | rfl | simp)) | (simp [*]; done), by repeat (first | exact Drawn0.refl _ | apply Drawn0.step)⟩
    ·
     rw [if_neg c7] at H; exact absurd H (by simp)
   ·
    rw [if_neg c6] at H; exact absurd H (by simp)
end Go.Proofs.Ytnchdmidaigheaa.Hp
namespace Go.Proofs.Ytnchdmidaigheaa.Hp
open Go.RowKit Go.Proofs.YtnchdmidaigheaaW.PrintWords Go.Proofs.YtnchdmidaigheaaW.PrintLast Go.Proofs.YtnchdmidaigheaaW.PrintMore
attribute [local go_sem] max2_int min2_int max_two min_two max_three min_three max_four min_four   -- for this text's walks alone
set_option linter.unusedVariables false
set_option linter.unusedSimpArgs false
def page_Check.f (k i c b o l n : Int) : Option Int := some (if headMay k i c b o l n then 0 else 3)
theorem page_Check.within_calls (n a b : Int) (r : Bool) (w : World) (h : within n a b = r) : Calls Try.prog 121 #[.int .i64 n, .int .i64 a, .int .i64 b] w fun e w' => e = .returned (.bool r) ∧ Drawn0 w w' := by
 unfold within at h; subst h; by_cases h1 : a ≤ n <;> by_cases h2 : n ≤ b
 all_goals
  go_enter Try.func121, Try.ntmps121
  go_wp2
  go_ret; exact ⟨by simp [h1, h2], Drawn0.refl _⟩
set_option maxHeartbeats 8000000 in
set_option maxRecDepth 100000 in
theorem page_Check.calls (a0_0 : Int) (a0_1 : Int) (a0_2 : Int) (a0_3 : Int) (a0_4 : Int) (a0_5 : Int) (a0_6 : Int) (r : Int) (w : World) (h : page_Check.f a0_0 a0_1 a0_2 a0_3 a0_4 a0_5 a0_6 = some r) :
  Calls Try.prog 109 #[.agg #[.int .i64 a0_0, .int .i64 a0_1, .int .i64 a0_2, .int .u64 a0_3, .int .u64 a0_4, .int .i64 a0_5, .int .i64 a0_6]] w fun e w' => e = .returned (.int .i64 r) ∧ Below w.heap.size w w' := by
 have h := Option.some.inj h; by_cases h1 : within a0_0 1 5 = true
 case neg =>
  have h1 : within a0_0 1 5 = false := by simpa using h1
  have hm : headMay a0_0 a0_1 a0_2 a0_3 a0_4 a0_5 a0_6 = false := by unfold headMay; skip; simp [h1]
  rw [hm] at h; simp only [Bool.false_eq_true, if_false] at h; subst h; have H1 := aK h1; clear hm h1; go_enter Try.func109, Try.ntmps109; go_wp2_with ((go_at_call 121); (first | (with_reducible refine (page_Check.within_calls a0_0 1 5 _ _ H1.out).mono ?_)); rintro e w' ⟨rfl, ⟨n, rfl⟩⟩); go_ret; exact ⟨rfl, by repeat (first | exact Below.refl _ _ | apply below_alloc | apply pw_below_drewN | apply below_drew1)⟩
 by_cases h2 : within a0_2 1 16 = true
 case neg =>
  have h2 : within a0_2 1 16 = false := by simpa using h2
  have hm : headMay a0_0 a0_1 a0_2 a0_3 a0_4 a0_5 a0_6 = false := by unfold headMay; skip; simp [h1, h2]
  rw [hm] at h; simp only [Bool.false_eq_true, if_false] at h; subst h; have H1 := aK h1; have H2 := aK h2; clear hm h1 h2; go_enter Try.func109, Try.ntmps109; go_wp2_with ((go_at_call 121); (first | (with_reducible refine (page_Check.within_calls a0_0 1 5 _ _ H1.out).mono ?_) | (with_reducible refine (page_Check.within_calls a0_2 1 16 _ _ H2.out).mono ?_)); rintro e w' ⟨rfl, ⟨n, rfl⟩⟩); go_ret; exact ⟨rfl, by repeat (first | exact Below.refl _ _ | apply below_alloc | apply pw_below_drewN | apply below_drew1)⟩
 by_cases h3 : within a0_1 0 (wrap64 (a0_2 - 1)) = true
 case neg =>
  have h3 : within a0_1 0 (wrap64 (a0_2 - 1)) = false := by simpa using h3
  have hm : headMay a0_0 a0_1 a0_2 a0_3 a0_4 a0_5 a0_6 = false := by unfold headMay; skip; simp [h1, h2, h3]
  rw [hm] at h; simp only [Bool.false_eq_true, if_false] at h; subst h; have H1 := aK h1; have H2 := aK h2; have H3 := aK h3; clear hm h1 h2 h3; go_enter Try.func109, Try.ntmps109; go_wp2_with ((go_at_call 121); (first | (with_reducible refine (page_Check.within_calls a0_0 1 5 _ _ H1.out).mono ?_) | (with_reducible refine (page_Check.within_calls a0_2 1 16 _ _ H2.out).mono ?_) | (with_reducible refine (page_Check.within_calls a0_1 0 (wrap64 (a0_2 - 1)) _ _ H3.out).mono ?_)); rintro e w' ⟨rfl, ⟨n, rfl⟩⟩); go_ret; exact ⟨rfl, by repeat (first | exact Below.refl _ _ | apply below_alloc | apply pw_below_drewN | apply below_drew1)⟩
 by_cases h4 : decide (2147483648 ≤ a0_3) = false
 case neg =>
  have h4 : decide (2147483648 ≤ a0_3) = true := by simpa using h4
  have hm : headMay a0_0 a0_1 a0_2 a0_3 a0_4 a0_5 a0_6 = false := by unfold headMay; skip; simp [h1, h2, h3, h4, show ¬ (a0_3 < 2147483648) from by have := of_decide_eq_true h4; omega]
  rw [hm] at h; simp only [Bool.false_eq_true, if_false] at h; subst h; have H1 := aK h1; have H2 := aK h2; have H3 := aK h3; clear hm h1 h2 h3; go_enter Try.func109, Try.ntmps109; go_wp2_with ((go_at_call 121); (first | (with_reducible refine (page_Check.within_calls a0_0 1 5 _ _ H1.out).mono ?_) | (with_reducible refine (page_Check.within_calls a0_2 1 16 _ _ H2.out).mono ?_) | (with_reducible refine (page_Check.within_calls a0_1 0 (wrap64 (a0_2 - 1)) _ _ H3.out).mono ?_)); rintro e w' ⟨rfl, ⟨n, rfl⟩⟩); go_ret; exact ⟨rfl, by repeat (first | exact Below.refl _ _ | apply below_alloc | apply pw_below_drewN | apply below_drew1)⟩
 by_cases h5 : decide (2147483648 ≤ a0_4) = false
 case neg =>
  have h5 : decide (2147483648 ≤ a0_4) = true := by simpa using h5
  have hm : headMay a0_0 a0_1 a0_2 a0_3 a0_4 a0_5 a0_6 = false := by unfold headMay; skip; simp [h1, h2, h3, h4, h5, show ¬ (a0_4 < 2147483648) from by have := of_decide_eq_true h5; omega]
  rw [hm] at h; simp only [Bool.false_eq_true, if_false] at h; subst h; have H1 := aK h1; have H2 := aK h2; have H3 := aK h3; clear hm h1 h2 h3; go_enter Try.func109, Try.ntmps109; go_wp2_with ((go_at_call 121); (first | (with_reducible refine (page_Check.within_calls a0_0 1 5 _ _ H1.out).mono ?_) | (with_reducible refine (page_Check.within_calls a0_2 1 16 _ _ H2.out).mono ?_) | (with_reducible refine (page_Check.within_calls a0_1 0 (wrap64 (a0_2 - 1)) _ _ H3.out).mono ?_)); rintro e w' ⟨rfl, ⟨n, rfl⟩⟩); go_ret; exact ⟨rfl, by repeat (first | exact Below.refl _ _ | apply below_alloc | apply pw_below_drewN | apply below_drew1)⟩
 by_cases h6 : within a0_5 0 65535 = true
 case neg =>
  have h6 : within a0_5 0 65535 = false := by simpa using h6
  have hm : headMay a0_0 a0_1 a0_2 a0_3 a0_4 a0_5 a0_6 = false := by unfold headMay; skip; simp [h1, h2, h3, h4, h5, h6]
  rw [hm] at h; simp only [Bool.false_eq_true, if_false] at h; subst h; have H1 := aK h1; have H2 := aK h2; have H3 := aK h3; have H6 := aK h6; clear hm h1 h2 h3 h6; go_enter Try.func109, Try.ntmps109; go_wp2_with ((go_at_call 121); (first | (with_reducible refine (page_Check.within_calls a0_0 1 5 _ _ H1.out).mono ?_) | (with_reducible refine (page_Check.within_calls a0_2 1 16 _ _ H2.out).mono ?_) | (with_reducible refine (page_Check.within_calls a0_1 0 (wrap64 (a0_2 - 1)) _ _ H3.out).mono ?_) | (with_reducible refine (page_Check.within_calls a0_5 0 65535 _ _ H6.out).mono ?_)); rintro e w' ⟨rfl, ⟨n, rfl⟩⟩); go_ret; exact ⟨rfl, by repeat (first | exact Below.refl _ _ | apply below_alloc | apply pw_below_drewN | apply below_drew1)⟩
 by_cases h7 : within a0_6 0 228 = true
 case neg =>
  have h7 : within a0_6 0 228 = false := by simpa using h7
  have hm : headMay a0_0 a0_1 a0_2 a0_3 a0_4 a0_5 a0_6 = false := by unfold headMay; skip; simp [h1, h2, h3, h4, h5, h6, h7]
  rw [hm] at h; simp only [Bool.false_eq_true, if_false] at h; subst h; have H1 := aK h1; have H2 := aK h2; have H3 := aK h3; have H6 := aK h6; have H7 := aK h7; clear hm h1 h2 h3 h6 h7; go_enter Try.func109, Try.ntmps109; go_wp2_with ((go_at_call 121); (first | (with_reducible refine (page_Check.within_calls a0_0 1 5 _ _ H1.out).mono ?_) | (with_reducible refine (page_Check.within_calls a0_2 1 16 _ _ H2.out).mono ?_) | (with_reducible refine (page_Check.within_calls a0_1 0 (wrap64 (a0_2 - 1)) _ _ H3.out).mono ?_) | (with_reducible refine (page_Check.within_calls a0_5 0 65535 _ _ H6.out).mono ?_) | (with_reducible refine (page_Check.within_calls a0_6 0 228 _ _ H7.out).mono ?_)); rintro e w' ⟨rfl, ⟨n, rfl⟩⟩); go_ret; exact ⟨rfl, by repeat (first | exact Below.refl _ _ | apply below_alloc | apply pw_below_drewN | apply below_drew1)⟩
 have hm : headMay a0_0 a0_1 a0_2 a0_3 a0_4 a0_5 a0_6 = true := by unfold headMay; simp [h1, h2, h3, h6, h7, show a0_3 < 2147483648 from by have := of_decide_eq_false h4; omega, show a0_4 < 2147483648 from by have := of_decide_eq_false h5; omega]
 rw [hm] at h; simp only [if_true] at h; subst h; have H1 := aK h1; have H2 := aK h2; have H3 := aK h3; have H6 := aK h6; have H7 := aK h7; clear hm h1 h2 h3 h6 h7; go_enter Try.func109, Try.ntmps109; go_wp2_with ((go_at_call 121); (first | (with_reducible refine (page_Check.within_calls a0_0 1 5 _ _ H1.out).mono ?_) | (with_reducible refine (page_Check.within_calls a0_2 1 16 _ _ H2.out).mono ?_) | (with_reducible refine (page_Check.within_calls a0_1 0 (wrap64 (a0_2 - 1)) _ _ H3.out).mono ?_) | (with_reducible refine (page_Check.within_calls a0_5 0 65535 _ _ H6.out).mono ?_) | (with_reducible refine (page_Check.within_calls a0_6 0 228 _ _ H7.out).mono ?_)); rintro e w' ⟨rfl, ⟨n, rfl⟩⟩); go_ret; exact ⟨rfl, by repeat (first | exact Below.refl _ _ | apply below_alloc | apply pw_below_drewN | apply below_drew1)⟩
end Go.Proofs.Ytnchdmidaigheaa.Hp
namespace Go.Proofs.Ytnchdmidaigheaa.Hp
open Go.RowKit Go.Proofs.YtnchdmidaigheaaW.PrintWords Go.Proofs.YtnchdmidaigheaaW.PrintLast Go.Proofs.YtnchdmidaigheaaW.PrintMore
attribute [local go_sem] max2_int min2_int max_two min_two max_three min_three max_four min_four   -- for this text's walks alone
set_option linter.unusedVariables false
set_option linter.unusedSimpArgs false
theorem put_loop (n : Int) (h0 : 0 ≤ n) (h1 : n < 18446744073709551616) (w : Nat) : ∀ (k : Nat) (out : List Int), out.length + w ≤ 2000000 → w ≤ 8 → w < k → be_Put.l0 k n out ((w : Int) - 1) = some (out ++ beBytes w n) := by
 induction w with
 | zero =>
  intro k out ho hw hk; obtain ⟨k, rfl⟩ : ∃ m, k = m + 1 := ⟨k - 1, by omega⟩; simp only [be_Put.l0]; rw [if_neg (by omega)]; simp [beBytes]
 | succ w ih =>
  intro k out ho hw hk; obtain ⟨k, rfl⟩ : ∃ m, k = m + 1 := ⟨k - 1, by omega⟩; simp only [be_Put.l0]; have e1 : wrap64 (8 * (((w + 1 : Nat) : Int) - 1)) = 8 * (w : Int) := by unfold wrap64; omega
  have e2 : wrap64 ((((w + 1 : Nat) : Int) - 1) - 1) = (w : Int) - 1 := by unfold wrap64; omega
  rw [if_pos (by omega), e1, if_pos (by omega), if_pos (by omega), e2, shr_byte n h0 h1 w (by omega), ih k _ (by rw [List.length_append]; simp; omega) (by omega) (by omega), beBytes_succ]; simp
theorem put_is (l : List Int) (w n : Int) (hl : l.length ≤ 1000000) (h0 : 0 ≤ n) (h1 : n < 18446744073709551616) : be_Put.f 10 l w n = some (l ++ beBytes (wid w) n) := by
 unfold be_Put.f be_width.f; have e : mn (mx w 0) 8 = ((wid w : Nat) : Int) := by unfold wid mn mx; (repeat' split) <;> omega
 have e1 : wrap64 (((wid w : Nat) : Int) - 1) = ((wid w : Nat) : Int) - 1 := by have := wid_le w; unfold wrap64; omega
 have e2 : ([] : List Int).length + l.length < 140737488355328 := by simp; omega
 rw [if_pos e2]; simp only [Option.bind_some]; rw [e, e1, put_loop n h0 h1 (wid w) 10 _ (by have := wid_le w; simp; omega) (wid_le w) (by have := wid_le w; omega)]; simp
set_option maxHeartbeats 1000000 in
theorem lay_calls (wv n : Int) (g : Nat) (v : Value) (xs : List Int) (w0 W : World) (hg : W.heap[g]? = some (.cells #[v] 38 (0, 0))) (hR : Kd.R (Kd.int .u8) 5 W w0.heap.size (fun _ => True) v xs) (hB : Below w0.heap.size w0 W) (hgb : w0.heap.size ≤ g)
  (hlen : xs.length ≤ 100000) (hn : 0 ≤ n ∧ n < 18446744073709551616) (hwv : 0 ≤ wv) (hw8 : wv ≤ 8) :
  Calls Try.prog 122 #[.int .u64 wv, .int .u64 n, .pointer (some ⟨g, 0, none⟩)] W fun e W' => e = .returned (.tuple #[]) ∧ ∃ v', W'.heap[g]? = some (.cells #[v'] 38 (0, 0)) ∧ Kd.R (Kd.int .u8) 5 W' w0.heap.size (fun _ => True) v' (xs ++ beBytes (wid wv) n) ∧ Below w0.heap.size w0 W' := by
 obtain ⟨A, c, rfl, hc, hC⟩ := Kd.R_reads hR; have hcell : W.cell? ⟨g, 0, none⟩ = some (.slice A xs.length c) := by simp [World.cell?, hg]
 have hput := put_is xs wv n (by omega) hn.1 hn.2; generalize xs ++ beBytes (wid wv) n = ys at hput ⊢; have HP := aK hput; clear hput; have HC := aK hC; have Hc := aK hc; have HG := aK hg; have HB := aK hB; have Hgb := aK hgb; clear hg hR hC hc hB hgb hlen hn; go_enter Try.func122, Try.ntmps122; go_wp2_with fail; refine (be_Put.calls 10 A c xs wv n _ W HC.out Hc.out HP.out).mono ?_; rintro e W1 ⟨v1, rfl, ho, hb⟩; obtain ⟨A1, c1, hv1⟩ := Kd.R_slice ho; have hglt : g < W.heap.size := by
  have := HG.out; exact (Array.getElem?_eq_some_iff.1 this).1
 have hg1 : W1.heap[g]? = some (.cells #[.slice A xs.length c] 38 (0, 0)) := (hb.block g hglt).trans HG.out; have hcell1 : W1.cell? ⟨g, 0, none⟩ = some (.slice A xs.length c) := by simp [World.cell?, hg1]
 have hfr1 : W1.frozen? ⟨g, 0, none⟩ = false := by simp [World.frozen?, hg1]
 have ho2 := Kd.R_lower ho HB.out.size; have HF := aK (show ∃ v', (W1.setCell ⟨g, 0, none⟩ v1).heap[g]? = some (.cells #[v'] 38 (0, 0)) ∧ Kd.R (Kd.int .u8) 5 (W1.setCell ⟨g, 0, none⟩ v1) w0.heap.size (fun _ => True) v' ys ∧ Below w0.heap.size w0 (W1.setCell ⟨g, 0, none⟩ v1) from
  ⟨v1, by simpa using blk_set hg1 0 v1, Kd.R_set ho2 hg1 (by decide) 0 v1, (below_then HB.out HB.out.size hb).setCell Hgb.out _⟩)
 clear ho hb hg1 ho2; subst hv1
 go_wp2
 go_end0
 exact ⟨rfl, HF.out⟩
def be_Row.f (l : List Int) : Option (List Int) := if l.length ≤ 1000 ∧ rowOk l then some (beRow l) else none
set_option maxHeartbeats 8000000 in
set_option maxRecDepth 100000 in
theorem be_Row.calls (A0 : Option Addr) (c0 : Nat) (l0 : List Int) (r : List Int) (w : World) (hr0 : Kd.C (Kd.int .u64) w A0 l0.length l0) (hc0 : l0.length ≤ c0) (h : be_Row.f l0 = some r) :
  Calls Try.prog 110 #[.slice A0 l0.length c0] w fun e w' => ∃ v0_ : Value, e = .returned (v0_) ∧ Kd.R (Kd.int .u8) 5 w' w.heap.size (fun _ => True) v0_ r ∧ Below w.heap.size w w' := by
 unfold be_Row.f at h; by_cases hb : l0.length ≤ 1000 ∧ rowOk l0
 case neg => rw [if_neg hb] at h; cases h
 rw [if_pos hb] at h; obtain rfl := Option.some.inj h; obtain ⟨hl, hok⟩ := hb; have HR0 := aK hr0; have HL := aK hl; have HK := aK hok; clear h hr0 hc0 hl hok; have hmf : ∀ (fn : Fn) (first cap : Array Value) (w : World), (Instr.makeFunc fn first cap).run Try.prog w = .ok (.func fn first cap) w := fun _ _ _ _ => rfl; go_enter Try.func110, Try.ntmps110
 go_wp2
 go_loopg [5] (l0.length + 1) (fun kq v5 w' => ∃ (i j : Nat) (v : Value), v5 = .int .i64 (i : Int) ∧ Aside0 (i = 2 * j) ∧ Aside0 (i ≤ l0.length) ∧ Aside0 (kq + j = l0.length + 1) ∧ Aside0 (w'.heap[w.heap.size]? = some (.cells #[v] 38 (0, 0))) ∧ Aside0 (Kd.R (Kd.int .u8) 5 w' w.heap.size (fun _ => True) v (beRow (l0.take i))) ∧ Aside0 (Below w.heap.size w w'))
 case atStart => exact ⟨0, 0, .slice none 0 0, rfl, ⟨rfl⟩, ⟨by omega⟩, ⟨by omega⟩, ⟨heap_alloc_new w _⟩, ⟨Kd.R_nil _ _ _ _ _⟩, ⟨by repeat (first | exact Below.refl _ _ | apply below_alloc | apply pw_below_drewN | apply below_drew1)⟩⟩
 case round =>
  obtain ⟨i, j, v, rfl, HI, HJ, HQ, HG, HO, HB⟩ := hrel; have hwr : wrap64 ((i : Int) + 1) = (i : Int) + 1 := by have := HL.out; have := HJ.out; unfold wrap64; omega
  have hwr2 : wrap64 ((i : Int) + 2) = (i : Int) + 2 := by have := HL.out; have := HJ.out; unfold wrap64; omega
  by_cases hj : i + 1 < l0.length
  ·
   have t1 : decide ((i : Int) + 1 < (l0.length : Int)) = true := decide_eq_true (by omega); have p1 : 0 ≤ (i : Int) := by omega
   have q1 : (i : Int) < (l0.length : Int) := by omega
   have p2 : 0 ≤ (i : Int) + 1 := by omega
   have q2 : (i : Int) + 1 < (l0.length : Int) := by omega
   obtain ⟨ad, ead, hx⟩ := Kd.at_int HR0.out (i : Int) p1 q1
   cases ead
   obtain ⟨ad2, ead2, hy⟩ := Kd.at_int HR0.out ((i : Int) + 1) p2 q2
   cases ead2
   rw [Int.toNat_natCast] at hx; replace hx := (HB.out.cell (World.block_lt_of_cell? w _ hx)).trans hx; replace hy := (HB.out.cell (World.block_lt_of_cell? w _ hy)).trans hy; have hy2 : wr.cell? (ad.add (i + 1)) = some (.int .u64 (rd l0 ((i : Int) + 1))) := by rw [← hy]; congr 2
   go_wp2
   refine region_still_tail_w 10 (by kernel_rfl) (by kernel_rfl) (fun w2 hw2 => ?_); have hx3 : w2.cell? (ad.add i) = some (.int .u64 (rd l0 (i : Int))) := by rw [hw2]; exact hx
   have hy3 : w2.cell? (ad.add (i + 1)) = some (.int .u64 (rd l0 ((i : Int) + 1))) := by rw [hw2]; exact hy2
   have HG2 := aK (show w2.heap[w.heap.size]? = some (.cells #[v] 38 (0, 0)) by rw [hw2]; exact HG.out); have HO2 := aK (show Kd.R (Kd.int .u8) 5 w2 w.heap.size (fun _ => True) v (beRow (l0.take i)) by rw [hw2]; exact Kd.R_drew HO.out); have HB2 := aK (show Below w.heap.size w w2 by rw [hw2]; exact below_drew HB.out); have hy4 : w2.cell? ⟨ad.block, ad.off + (i + 1), none⟩ = some (.int .u64 (rd l0 ((i : Int) + 1))) := by rw [← hy3]; simp [Addr.add]
   clear hx hy hy2 hw2 HG HO HB; have hwk : IntKind.i64.wrap ((i : Int) + 1) = (i : Int) + 1 := (i64_w _).trans hwr; simp only [List.take_succ_cons, List.take_zero, List.drop_succ_cons, List.drop_zero]
   repeat still_step
   refine wpStill_nil ?_; have hk1 := HK.out.2 i (by omega); have hk2 := HK.out.2 (i + 1) (by omega); have hrow : (beRow (l0.take i)).length ≤ 100000 := by have := beRow_len (l0.take i); have := HL.out; rw [List.length_take] at *; omega
   have hr1 : rd l0 (i : Int) = l0.getD i 0 := by unfold rd; rw [Int.toNat_natCast]
   have hr2 : rd l0 ((i : Int) + 1) = l0.getD (i + 1) 0 := by unfold rd; congr 1
   have HN := aK (show beRow (l0.take (i + 2)) = beRow (l0.take i) ++ beBytes (wid (rd l0 (i : Int))) (rd l0 ((i : Int) + 1)) by
    have h1 := HI.out; have h2 := beRow_take l0 j (by omega); rw [hr1, hr2, show i + 2 = 2 * (j + 1) by omega, h1, h2]; have h3 := hk1.2.2 (by omega); rw [h1] at h3
    congr 2
    unfold mn; rw [if_neg (by omega)])
   have HC := aK (lay_calls (rd l0 (i : Int)) (rd l0 ((i : Int) + 1)) w.heap.size v (beRow (l0.take i)) w w2 HG2.out HO2.out HB2.out (Nat.le_refl _) hrow (by rw [hr2]; exact ⟨hk2.1, hk2.2.1⟩) (by rw [hr1]; exact hk1.1) (by rw [hr1]; exact hk1.2.2 (by have := HI.out; omega))); clear hk1 hk2 hr1 hr2 hrow HG2 HO2 HB2; go_wp2_with fail; refine HC.out.mono ?_; rintro e W' ⟨rfl, v', hg', ho', hb'⟩; rw [← HN.out] at ho'; have HG3 := aK hg'; have HO3 := aK ho'; have HB3 := aK hb'; clear hg' ho' hb' HC hy4
   go_wp2
   go_roundg (l0.length - j)
   case measure => have := HQ.out; have := HI.out; have := HJ.out; omega
   case rel => exact ⟨i + 2, j + 1, v', by first | rfl | (simp; done) | (congr 1; done) | (congr 1; omega), ⟨by have := HI.out; omega⟩, ⟨by omega⟩, ⟨by have := HI.out; have := HJ.out; omega⟩, HG3, HO3, HB3⟩
  ·
   have t1 : decide ((i : Int) + 1 < (l0.length : Int)) = false := decide_eq_false (by omega); obtain ⟨A1, c1, hv1⟩ := Kd.R_slice HO.out; have hcell : wr.cell? ⟨w.heap.size, 0, none⟩ = some v := by have := HG.out; simp [World.cell?, this]
   have HE := aK (show Kd.R (Kd.int .u8) 5 wr w.heap.size (fun _ => True) v (beRow l0) by
    have h1 := HI.out; have h2 := HJ.out; have h3 := HK.out.1; have h4 := HO.out
    rwa [show i = l0.length by omega, List.take_length] at h4)
   subst hv1; clear HO
   go_wp2
   go_ret; exact ⟨_, rfl, HE.out, HB.out⟩
end Go.Proofs.Ytnchdmidaigheaa.Hp
namespace Go.Proofs.Ytnchdmidaigheaa.Hp
open Go.RowKit Go.Proofs.YtnchdmidaigheaaW.PrintWords Go.Proofs.YtnchdmidaigheaaW.PrintLast Go.Proofs.YtnchdmidaigheaaW.PrintMore
attribute [local go_sem] max2_int min2_int max_two min_two max_three min_three max_four min_four   -- for this text's walks alone
set_option linter.unusedVariables false
set_option linter.unusedSimpArgs false
def page_Put.j0 : Nat → ByteArray → Bool → Int → Int → Int → Int → Int → Int → Int → Option (List Int × Int)
 | 0, _, _, _, _, _, _, _, _, _ => none
 | k + 1, x1, x16, x282000, x282001, x282002, x282003, x282004, x282005, x282006 => if x16 = true then (some (([] : List Int), 3)) else ((be_Row.f (([1, IntKind.u64.wrap (x282000), 1, IntKind.u64.wrap (x282001), 1, IntKind.u64.wrap (x282002), 1, 0, 8, x282003, 8, x282004, 2, IntKind.u64.wrap (x282005), 2, IntKind.u64.wrap (x282006)] : List Int))).bind fun t286 => (if t286.length + x1.size < 140737488355328 then ((some (t286 ++ bytesOf x1 : List Int)).bind fun y289 => ((zeros_Ones.f k (wrap64 (252 - (y289.length : Int)))).bind fun t292 => (if y289.length + t292.length < 140737488355328 then ((page_Seal.f k (y289 ++ t292)).bind fun t298 => (some (t298, 0))) else (none)))) else (none)))
def page_Put.f (k : Nat) (a0_0 : Int) (a0_1 : Int) (a0_2 : Int) (a0_3 : Int) (a0_4 : Int) (a0_5 : Int) (a0_6 : Int) (a1 : ByteArray) : Option (List Int × Int) := (page_Check.f a0_0 a0_1 a0_2 a0_3 a0_4 a0_5 a0_6).bind fun t282 => (if t282 = 0 then (page_Put.j0 k a1 ((a1.size : Int) != a0_6) a0_0 a0_1 a0_2 a0_3 a0_4 a0_5 a0_6) else (page_Put.j0 k a1 true a0_0 a0_1 a0_2 a0_3 a0_4 a0_5 a0_6))
theorem page_Put.mono_l : ∀ k, (∀ y0 y1 y2 y3 y4 y5 y6 y7 y8, LeO (page_Put.j0 k y0 y1 y2 y3 y4 y5 y6 y7 y8) (page_Put.j0 (k + 1) y0 y1 y2 y3 y4 y5 y6 y7 y8))
 | 0 => fun _ _ _ _ _ _ _ _ _ r h => by simp [page_Put.j0] at h
 | k + 1 => by
  have ih0 := page_Put.mono_l k
  ·
   intro y0 y1 y2 y3 y4 y5 y6 y7 y8; unfold page_Put.j0
   repeat' first
   | (with_reducible exact ih0 _ _ _ _ _ _ _ _ _)
   | (with_reducible exact page_Seal.mono _ _)
   | (with_reducible exact zeros_Ones.mono _ _)
   | (with_reducible exact LeO.refl _)
   | (with_reducible exact LeO.none _)
   | (with_reducible refine LeO.ite ?_ ?_)
   | (with_reducible refine LeO.bind ?_ (fun _ => ?_))
   | exact ih0 _ _ _ _ _ _ _ _ _
   | exact page_Seal.mono _ _
   | exact zeros_Ones.mono _ _
   | exact LeO.none _
   | refine LeO.ite ?_ ?_
   | refine LeO.bind ?_ (fun _ => ?_)
theorem page_Put.mono : ∀ a0 a1 a2 a3 a4 a5 a6 a7 k, LeO (page_Put.f k a0 a1 a2 a3 a4 a5 a6 a7) (page_Put.f (k + 1) a0 a1 a2 a3 a4 a5 a6 a7) := by
 intro a0 a1 a2 a3 a4 a5 a6 a7 k; have ih0 := page_Put.mono_l k; unfold page_Put.f
 repeat' first
   | (with_reducible exact ih0 _ _ _ _ _ _ _ _ _)
   | (with_reducible exact page_Seal.mono _ _)
   | (with_reducible exact zeros_Ones.mono _ _)
   | (with_reducible exact LeO.refl _)
   | (with_reducible exact LeO.none _)
   | (with_reducible refine LeO.ite ?_ ?_)
   | (with_reducible refine LeO.bind ?_ (fun _ => ?_))
   | exact ih0 _ _ _ _ _ _ _ _ _
   | exact page_Seal.mono _ _
   | exact zeros_Ones.mono _ _
   | exact LeO.none _
   | refine LeO.ite ?_ ?_
   | refine LeO.bind ?_ (fun _ => ?_)
set_option maxHeartbeats 8000000 in
set_option maxRecDepth 100000 in
theorem page_Put.calls (k : Nat) (a0_0 : Int) (a0_1 : Int) (a0_2 : Int) (a0_3 : Int) (a0_4 : Int) (a0_5 : Int) (a0_6 : Int) (a1 : ByteArray) (r1 : List Int) (r2 : Int) (w : World) (h : page_Put.f k a0_0 a0_1 a0_2 a0_3 a0_4 a0_5 a0_6 a1 = some (r1, r2)) :
  Calls Try.prog 88 #[.agg #[.int .i64 a0_0, .int .i64 a0_1, .int .i64 a0_2, .int .u64 a0_3, .int .u64 a0_4, .int .i64 a0_5, .int .i64 a0_6], .string a1] w fun e w' => ∃ v0_ : Value, e = .returned (.tuple #[v0_, .int .i64 r2]) ∧ Kd.R (Kd.int .u8) 5 w' w.heap.size (fun _ => True) v0_ r1 ∧ Below w.heap.size w w' := by
 have hu82 := Try.underlying82; have HB := aK (Below.refl w.heap.size w); have H : ((page_Check.f a0_0 a0_1 a0_2 a0_3 a0_4 a0_5 a0_6).bind fun t282 => (if t282 = 0 then (page_Put.j0 k a1 ((a1.size : Int) != a0_6) a0_0 a0_1 a0_2 a0_3 a0_4 a0_5 a0_6) else (page_Put.j0 k a1 true a0_0 a0_1 a0_2 a0_3 a0_4 a0_5 a0_6))) = some (r1, r2) := h; clear h; have HC3 := aK H; clear H; go_enter Try.func88, Try.ntmps88; go_upto_region 1 with (first | ((with_reducible refine gate_dst (N := 2) rfl ?_); (try (refine gate_guard (by rfl) ?_; dsimp only)); refine box_event ?hg (N := 2) ?hd (cs := #[.int .i64 a0_0, .int .i64 a0_1, .int .i64 a0_2, .int .u64 a0_3, .int .u64 a0_4, .int .i64 a0_5, .int .i64 a0_6]) (t := 82) ?hr ?_; (case hd => rfl); (case hg => rfl); (case hr => first | (go_simp; done) | (go_simp; rfl)); intro gb281 hg w4 hbox hb; have n0_ := aK (below_step (by repeat (first | (with_reducible first | exact HB.out | apply below_alloc | apply pw_below_drewN | apply below_drew1) | exact HB.out)) hb); have n1_ := aK (hbox); have n2_ := aK ((by rw [hg]; exact (below_size (by repeat (first | (with_reducible first | exact HB.out | apply below_alloc | apply pw_below_drewN | apply below_drew1) | exact HB.out))) : w.heap.size ≤ gb281)); have n3_ := aK ((by rw [hg]; exact (below_size (by repeat (first | (with_reducible first | exact HB.out | apply below_alloc | apply pw_below_drewN | apply below_drew1) | exact HB.out))) : w.heap.size ≤ gb281)); clear HB; have HB := n0_; have BK281 := n1_; have GW281 := n2_; have GE281 := n3_; clear n0_ n1_ n2_ n3_; clear hb hbox hg)); (try simp only [Act.put, List.setIfInBounds_toArray, List.set_cons_zero, List.set_cons_succ])
 go_cut [16] (fun v16 wc => ∃ (kq : Nat) (x16_2 : Bool), v16 = .bool x16_2 ∧ Aside0 (page_Put.j0 kq a1 x16_2 a0_0 a0_1 a0_2 a0_3 a0_4 a0_5 a0_6 = some (r1, r2)) ∧ Aside0 (kq ≤ k) ∧ Aside0 (wc.heap[gb281]? = some (.cells #[.int .i64 a0_0, .int .i64 a0_1, .int .i64 a0_2, .int .u64 a0_3, .int .u64 a0_4, .int .i64 a0_5, .int .i64 a0_6] 82 (0, 0))) ∧ Aside0 (Below w.heap.size w wc))
 case first =>
  have H := HC3.out; clear HC3; replace H := Option.bind_eq_some_iff.mp H; obtain ⟨t282, A50, H⟩ := H; replace H : (if t282 = 0 then (page_Put.j0 k a1 ((a1.size : Int) != a0_6) a0_0 a0_1 a0_2 a0_3 a0_4 a0_5 a0_6) else (page_Put.j0 k a1 true a0_0 a0_1 a0_2 a0_3 a0_4 a0_5 a0_6)) = some (r1, r2) := H; have A5 := aK A50; clear A50; by_cases c6 : t282 = 0
  ·
   rw [if_pos c6] at H; have c6b0 : (t282 == 0) = true := beq_iff_eq.mpr c6; have c6b1 : (t282 != 0) = false := bne_eq_false_iff_eq.mpr c6; clear c6
   (first | rw [c6b0] | (simp only [i64_w, i32_w]; rw [c6b0]) | skip)
   have H' := aK H; clear H; have hcz7_0 : w4.cell? ⟨gb281, 0, none⟩ = some (.int .i64 a0_0) := (blk_cell BK281.out 0).trans rfl; have hcz7_1 : w4.cell? ⟨gb281, 1, none⟩ = some (.int .i64 a0_1) := (blk_cell BK281.out 1).trans rfl; have hcz7_2 : w4.cell? ⟨gb281, 2, none⟩ = some (.int .i64 a0_2) := (blk_cell BK281.out 2).trans rfl; have hcz7_3 : w4.cell? ⟨gb281, 3, none⟩ = some (.int .u64 a0_3) := (blk_cell BK281.out 3).trans rfl; have hcz7_4 : w4.cell? ⟨gb281, 4, none⟩ = some (.int .u64 a0_4) := (blk_cell BK281.out 4).trans rfl; have hcz7_5 : w4.cell? ⟨gb281, 5, none⟩ = some (.int .i64 a0_5) := (blk_cell BK281.out 5).trans rfl; have hcz7_6 : w4.cell? ⟨gb281, 6, none⟩ = some (.int .i64 a0_6) := (blk_cell BK281.out 6).trans rfl; have hfz7_0 := blk_frozen BK281.out 0; have hfz7_1 := blk_frozen BK281.out 1; have hfz7_2 := blk_frozen BK281.out 2; have hfz7_3 := blk_frozen BK281.out 3; have hfz7_4 := blk_frozen BK281.out 4; have hfz7_5 := blk_frozen BK281.out 5; have hfz7_6 := blk_frozen BK281.out 6; go_wp2_with (first | ((with_reducible refine gate_callee (f := 109) rfl ?_); refine goesL_ (some 8) rfl rfl Try.func109 (by kernel_rfl) rfl #[.agg #[.int .i64 a0_0, .int .i64 a0_1, .int .i64 a0_2, .int .u64 a0_3, .int .u64 a0_4, .int .i64 a0_5, .int .i64 a0_6]] rfl (by (try simp only [List.map_toArray, List.map_cons, List.map_nil]); first | done | rfl | (simp only [List.length_drop, List.length_take]; rfl)) ?_; (with_reducible refine (page_Check.calls a0_0 a0_1 a0_2 a0_3 a0_4 a0_5 a0_6 t282 _ A5.out).mono ?_); rintro e w8 ⟨rfl, hb⟩; refine ⟨_, rfl, ?_⟩; have n0_ := aK (blk_below (g := gb281) (o := .cells #[.int .i64 a0_0, .int .i64 a0_1, .int .i64 a0_2, .int .u64 a0_3, .int .u64 a0_4, .int .i64 a0_5, .int .i64 a0_6] 82 (0, 0)) (by (with_reducible repeat (first | refine blk_drewN ?_ _ | refine blk_drew ?_ | refine blk_alloc ?_ _)); exact BK281.out) hb); have n1_ := aK (below_step (by repeat (first | (with_reducible first | exact HB.out | apply below_alloc | apply pw_below_drewN | apply below_drew1 | refine below_set ?_ GE281.out) | exact HB.out)) hb); clear BK281; clear HB; have BK281 := n0_; have HB := n1_; clear n0_ n1_; (try clear hb); (try clear hb2); (try clear hk); (try clear hi); have hcz9_0 : w8.cell? ⟨gb281, 0, none⟩ = some (.int .i64 a0_0) := (blk_cell BK281.out 0).trans rfl; have hcz9_1 : w8.cell? ⟨gb281, 1, none⟩ = some (.int .i64 a0_1) := (blk_cell BK281.out 1).trans rfl; have hcz9_2 : w8.cell? ⟨gb281, 2, none⟩ = some (.int .i64 a0_2) := (blk_cell BK281.out 2).trans rfl; have hcz9_3 : w8.cell? ⟨gb281, 3, none⟩ = some (.int .u64 a0_3) := (blk_cell BK281.out 3).trans rfl; have hcz9_4 : w8.cell? ⟨gb281, 4, none⟩ = some (.int .u64 a0_4) := (blk_cell BK281.out 4).trans rfl; have hcz9_5 : w8.cell? ⟨gb281, 5, none⟩ = some (.int .i64 a0_5) := (blk_cell BK281.out 5).trans rfl; have hcz9_6 : w8.cell? ⟨gb281, 6, none⟩ = some (.int .i64 a0_6) := (blk_cell BK281.out 6).trans rfl; have hfz9_0 := blk_frozen BK281.out 0; have hfz9_1 := blk_frozen BK281.out 1; have hfz9_2 := blk_frozen BK281.out 2; have hfz9_3 := blk_frozen BK281.out 3; have hfz9_4 := blk_frozen BK281.out 4; have hfz9_5 := blk_frozen BK281.out 5; have hfz9_6 := blk_frozen BK281.out 6))
   go_meet
   case rel => exact ⟨_, (((a1.size : Int) != a0_6)), (by first | rfl | (simp; done) | (simp [*]; done)), H', ⟨by first | omega | exact Nat.le_refl _⟩, ⟨by (with_reducible repeat (first | refine blk_drewN ?_ _ | refine blk_drew ?_ | refine blk_alloc ?_ _)); exact BK281.out⟩, ⟨by repeat (first | (with_reducible first | exact HB.out | apply below_alloc | apply pw_below_drewN | apply below_drew1 | refine below_set ?_ GE281.out) | exact HB.out)⟩⟩
  ·
   rw [if_neg c6] at H; have c6b0 : (t282 == 0) = false := beq_eq_false_iff_ne.mpr c6; have c6b1 : (t282 != 0) = true := bne_iff_ne.mpr c6
   (first | rw [c6b0] | (simp only [i64_w, i32_w]; rw [c6b0]) | skip)
   have H' := aK H; clear H; have hcz10_0 : w4.cell? ⟨gb281, 0, none⟩ = some (.int .i64 a0_0) := (blk_cell BK281.out 0).trans rfl; have hcz10_1 : w4.cell? ⟨gb281, 1, none⟩ = some (.int .i64 a0_1) := (blk_cell BK281.out 1).trans rfl; have hcz10_2 : w4.cell? ⟨gb281, 2, none⟩ = some (.int .i64 a0_2) := (blk_cell BK281.out 2).trans rfl; have hcz10_3 : w4.cell? ⟨gb281, 3, none⟩ = some (.int .u64 a0_3) := (blk_cell BK281.out 3).trans rfl; have hcz10_4 : w4.cell? ⟨gb281, 4, none⟩ = some (.int .u64 a0_4) := (blk_cell BK281.out 4).trans rfl; have hcz10_5 : w4.cell? ⟨gb281, 5, none⟩ = some (.int .i64 a0_5) := (blk_cell BK281.out 5).trans rfl; have hcz10_6 : w4.cell? ⟨gb281, 6, none⟩ = some (.int .i64 a0_6) := (blk_cell BK281.out 6).trans rfl; have hfz10_0 := blk_frozen BK281.out 0; have hfz10_1 := blk_frozen BK281.out 1; have hfz10_2 := blk_frozen BK281.out 2; have hfz10_3 := blk_frozen BK281.out 3; have hfz10_4 := blk_frozen BK281.out 4; have hfz10_5 := blk_frozen BK281.out 5; have hfz10_6 := blk_frozen BK281.out 6; go_wp2_with (first | ((with_reducible refine gate_callee (f := 109) rfl ?_); refine goesL_ (some 8) rfl rfl Try.func109 (by kernel_rfl) rfl #[.agg #[.int .i64 a0_0, .int .i64 a0_1, .int .i64 a0_2, .int .u64 a0_3, .int .u64 a0_4, .int .i64 a0_5, .int .i64 a0_6]] rfl (by (try simp only [List.map_toArray, List.map_cons, List.map_nil]); first | done | rfl | (simp only [List.length_drop, List.length_take]; rfl)) ?_; (with_reducible refine (page_Check.calls a0_0 a0_1 a0_2 a0_3 a0_4 a0_5 a0_6 t282 _ A5.out).mono ?_); rintro e w11 ⟨rfl, hb⟩; refine ⟨_, rfl, ?_⟩; have n0_ := aK (blk_below (g := gb281) (o := .cells #[.int .i64 a0_0, .int .i64 a0_1, .int .i64 a0_2, .int .u64 a0_3, .int .u64 a0_4, .int .i64 a0_5, .int .i64 a0_6] 82 (0, 0)) (by (with_reducible repeat (first | refine blk_drewN ?_ _ | refine blk_drew ?_ | refine blk_alloc ?_ _)); exact BK281.out) hb); have n1_ := aK (below_step (by repeat (first | (with_reducible first | exact HB.out | apply below_alloc | apply pw_below_drewN | apply below_drew1 | refine below_set ?_ GE281.out) | exact HB.out)) hb); clear BK281; clear HB; have BK281 := n0_; have HB := n1_; clear n0_ n1_; (try clear hb); (try clear hb2); (try clear hk); (try clear hi)))
   go_meet
   case rel => exact ⟨_, (true), (by first | rfl | (simp; done) | (simp [*]; done)), H', ⟨by first | omega | exact Nat.le_refl _⟩, ⟨by (with_reducible repeat (first | refine blk_drewN ?_ _ | refine blk_drew ?_ | refine blk_alloc ?_ _)); exact BK281.out⟩, ⟨by repeat (first | (with_reducible first | exact HB.out | apply below_alloc | apply pw_below_drewN | apply below_drew1 | refine below_set ?_ GE281.out) | exact HB.out)⟩⟩
 case rest =>
  clear HC3
  try clear c1
  try clear p2
  try clear c6
  try clear c6b0
  try clear c6b1
  try clear c8
  try clear c10
  try clear hcz10_0
  try clear hcz10_1
  try clear hcz10_2
  try clear hcz10_3
  try clear hcz10_4
  try clear hcz10_5
  try clear hcz10_6
  try clear hcz7_0
  try clear hcz7_1
  try clear hcz7_2
  try clear hcz7_3
  try clear hcz7_4
  try clear hcz7_5
  try clear hcz7_6
  try clear hcz9_0
  try clear hcz9_1
  try clear hcz9_2
  try clear hcz9_3
  try clear hcz9_4
  try clear hcz9_5
  try clear hcz9_6
  try clear hfz10_0
  try clear hfz10_1
  try clear hfz10_2
  try clear hfz10_3
  try clear hfz10_4
  try clear hfz10_5
  try clear hfz10_6
  try clear hfz7_0
  try clear hfz7_1
  try clear hfz7_2
  try clear hfz7_3
  try clear hfz7_4
  try clear hfz7_5
  try clear hfz7_6
  try clear hfz9_0
  try clear hfz9_1
  try clear hfz9_2
  try clear hfz9_3
  try clear hfz9_4
  try clear hfz9_5
  try clear hfz9_6
  obtain ⟨kq, x16_2, rfl, HA, HJ2, BK281, HB⟩ := hcut
  cases kq with
  | zero => exact absurd HA.out (by simp [page_Put.j0])
  | succ kj2 =>
   have H := HA.out; clear HA; simp only [page_Put.j0] at H; by_cases c12 : x16_2 = true
   ·
    subst c12; have H1 : (some (([] : List Int), 3)) = some (r1, r2) := by rw [if_pos rfl] at H; exact H
    clear H; have H := H1; clear H1; simp only [Option.some.injEq, Prod.mk.injEq] at H; obtain ⟨rfl, rfl⟩ := H
    go_wp2
    go_ret2; exact ⟨_, by first | rfl | (simp [errW_none, errW_some] <;> rfl) | (simp [*, errW_none, errW_some] <;> rfl), by first | exact Kd.R_nil _ _ _ _ _ | exact Kd.N_nil _ _ _ _ _ | exact Kd.V_nil _ _ _ _ _ | exact Kd.Q_nil _ _ _ _ _ | exact Kd.S_nil _ _ _ _ _, by repeat (first | (with_reducible first | exact HB.out | apply below_alloc | apply pw_below_drewN | apply below_drew1 | refine below_set ?_ GE281.out) | exact HB.out)⟩
   ·
    replace c12 := Bool.eq_false_iff.mpr c12; subst c12; have H1 : ((be_Row.f (([1, IntKind.u64.wrap (a0_0), 1, IntKind.u64.wrap (a0_1), 1, IntKind.u64.wrap (a0_2), 1, 0, 8, a0_3, 8, a0_4, 2, IntKind.u64.wrap (a0_5), 2, IntKind.u64.wrap (a0_6)] : List Int))).bind fun t286 => (if t286.length + a1.size < 140737488355328 then ((some (t286 ++ bytesOf a1 : List Int)).bind fun y289 => ((zeros_Ones.f kj2 (wrap64 (252 - (y289.length : Int)))).bind fun t292 => (if y289.length + t292.length < 140737488355328 then ((page_Seal.f kj2 (y289 ++ t292)).bind fun t298 => (some (t298, 0))) else (none)))) else (none))) = some (r1, r2) := by rw [if_neg (show ¬ (false = true) by decide)] at H; exact H
    clear H; have H := H1; clear H1; obtain ⟨y283, hy283⟩ : ∃ y_ : List Int, y_ = (([1, IntKind.u64.wrap (a0_0), 1, IntKind.u64.wrap (a0_1), 1, IntKind.u64.wrap (a0_2), 1, 0, 8, a0_3, 8, a0_4, 2, IntKind.u64.wrap (a0_5), 2, IntKind.u64.wrap (a0_6)] : List Int)) := ⟨_, rfl⟩; replace H : ((be_Row.f y283).bind fun t286 => (if t286.length + a1.size < 140737488355328 then ((some (t286 ++ bytesOf a1 : List Int)).bind fun y289 => ((zeros_Ones.f kj2 (wrap64 (252 - (y289.length : Int)))).bind fun t292 => (if y289.length + t292.length < 140737488355328 then ((page_Seal.f kj2 (y289 ++ t292)).bind fun t298 => (some (t298, 0))) else (none)))) else (none))) = some (r1, r2) := by first | (rw [hy283]; with_reducible exact H) | (have H2_ := (Option.bind_some _ _).symm.trans H; rw [hy283]; with_reducible exact H2_) | (have H2_ := (Option.bind_some _ _).symm.trans H; with_reducible exact H2_) | with_reducible exact H | (rw [hy283]; exact H) | exact H
    have Ny283 := aK hy283; clear hy283; replace H := Option.bind_eq_some_iff.mp H; obtain ⟨t286, A130, H⟩ := H; replace H : (if t286.length + a1.size < 140737488355328 then ((some (t286 ++ bytesOf a1 : List Int)).bind fun y289 => ((zeros_Ones.f kj2 (wrap64 (252 - (y289.length : Int)))).bind fun t292 => (if y289.length + t292.length < 140737488355328 then ((page_Seal.f kj2 (y289 ++ t292)).bind fun t298 => (some (t298, 0))) else (none)))) else (none)) = some (r1, r2) := H; have A13 := aK A130; clear A130; by_cases c14 : t286.length + a1.size < 140737488355328
    ·
     rw [if_pos c14] at H; have LMc14 := aK c14; clear c14; obtain ⟨y289, hy289⟩ : ∃ y_ : List Int, y_ = (t286 ++ bytesOf a1) := ⟨_, rfl⟩; replace H : ((zeros_Ones.f kj2 (wrap64 (252 - (y289.length : Int)))).bind fun t292 => (if y289.length + t292.length < 140737488355328 then ((page_Seal.f kj2 (y289 ++ t292)).bind fun t298 => (some (t298, 0))) else (none))) = some (r1, r2) := by first | (rw [hy289]; with_reducible exact H) | (have H2_ := (Option.bind_some _ _).symm.trans H; rw [hy289]; with_reducible exact H2_) | (have H2_ := (Option.bind_some _ _).symm.trans H; with_reducible exact H2_) | with_reducible exact H | (rw [hy289]; exact H) | exact H
     have Ny289 := aK hy289; clear hy289; replace H := Option.bind_eq_some_iff.mp H; obtain ⟨t292, A150, H⟩ := H; replace H : (if y289.length + t292.length < 140737488355328 then ((page_Seal.f kj2 (y289 ++ t292)).bind fun t298 => (some (t298, 0))) else (none)) = some (r1, r2) := H; have A15 := aK A150; clear A150; by_cases c16 : y289.length + t292.length < 140737488355328
     ·
      rw [if_pos c16] at H; have LMc16 := aK c16; clear c16; obtain ⟨y295, hy295⟩ : ∃ y_ : List Int, y_ = (y289 ++ t292) := ⟨_, rfl⟩; replace H : ((page_Seal.f kj2 y295).bind fun t298 => (some (t298, 0))) = some (r1, r2) := by first | (rw [hy295]; with_reducible exact H) | (have H2_ := (Option.bind_some _ _).symm.trans H; rw [hy295]; with_reducible exact H2_) | (have H2_ := (Option.bind_some _ _).symm.trans H; with_reducible exact H2_) | with_reducible exact H | (rw [hy295]; exact H) | exact H
      have Ny295 := aK hy295; clear hy295; replace H := Option.bind_eq_some_iff.mp H; obtain ⟨t298, A170, H⟩ := H; replace H : (some (t298, 0)) = some (r1, r2) := H; have A17 := aK A170; clear A170; simp only [Option.some.injEq, Prod.mk.injEq] at H; obtain ⟨rfl, rfl⟩ := H; have hcz18_0 : wc.cell? ⟨gb281, 0, none⟩ = some (.int .i64 a0_0) := (blk_cell BK281.out 0).trans rfl; have hcz18_1 : wc.cell? ⟨gb281, 1, none⟩ = some (.int .i64 a0_1) := (blk_cell BK281.out 1).trans rfl; have hcz18_2 : wc.cell? ⟨gb281, 2, none⟩ = some (.int .i64 a0_2) := (blk_cell BK281.out 2).trans rfl; have hcz18_3 : wc.cell? ⟨gb281, 3, none⟩ = some (.int .u64 a0_3) := (blk_cell BK281.out 3).trans rfl; have hcz18_4 : wc.cell? ⟨gb281, 4, none⟩ = some (.int .u64 a0_4) := (blk_cell BK281.out 4).trans rfl; have hcz18_5 : wc.cell? ⟨gb281, 5, none⟩ = some (.int .i64 a0_5) := (blk_cell BK281.out 5).trans rfl; have hcz18_6 : wc.cell? ⟨gb281, 6, none⟩ = some (.int .i64 a0_6) := (blk_cell BK281.out 6).trans rfl; have hfz18_0 := blk_frozen BK281.out 0; have hfz18_1 := blk_frozen BK281.out 1; have hfz18_2 := blk_frozen BK281.out 2; have hfz18_3 := blk_frozen BK281.out 3; have hfz18_4 := blk_frozen BK281.out 4; have hfz18_5 := blk_frozen BK281.out 5; have hfz18_6 := blk_frozen BK281.out 6; go_wp2_with (first | ((with_reducible refine gate_dst (N := 36) rfl ?_); (try (refine gate_guard (by rfl) ?_; dsimp only)); refine Kd.R_lit (Kd.int .u64) _ 80 ?hg (N := 36) ?hd (xs := ([1, IntKind.u64.wrap (a0_0), 1, IntKind.u64.wrap (a0_1), 1, IntKind.u64.wrap (a0_2), 1, 0, 8, a0_3, 8, a0_4, 2, IntKind.u64.wrap (a0_5), 2, IntKind.u64.wrap (a0_6)] : List Int)) (inner := [.int .u64 1, .int .u64 (IntKind.u64.wrap (a0_0)), .int .u64 1, .int .u64 (IntKind.u64.wrap (a0_1)), .int .u64 1, .int .u64 (IntKind.u64.wrap (a0_2)), .int .u64 1, .int .u64 0, .int .u64 8, .int .u64 a0_3, .int .u64 8, .int .u64 a0_4, .int .u64 2, .int .u64 (IntKind.u64.wrap (a0_5)), .int .u64 2, .int .u64 (IntKind.u64.wrap (a0_6))]) (ok := fun _ => True) (okp := fun _ => True) ?hr ?hp (fun _ hk => hk) trivial (Below.refl _ _) (Nat.le_refl _) (by simp) ?_; (case hd => rfl); (case hg => rfl); (case hr => first | (go_simp; done) | (go_simp; rfl)); (case hp => exact (Reps.one (show Kd.M (Kd.int .u64) _ _ _ 1 [.int .u64 1] from rfl) (Reps.one (show Kd.M (Kd.int .u64) _ _ _ (IntKind.u64.wrap (a0_0)) [.int .u64 (IntKind.u64.wrap (a0_0))] from rfl) (Reps.one (show Kd.M (Kd.int .u64) _ _ _ 1 [.int .u64 1] from rfl) (Reps.one (show Kd.M (Kd.int .u64) _ _ _ (IntKind.u64.wrap (a0_1)) [.int .u64 (IntKind.u64.wrap (a0_1))] from rfl) (Reps.one (show Kd.M (Kd.int .u64) _ _ _ 1 [.int .u64 1] from rfl) (Reps.one (show Kd.M (Kd.int .u64) _ _ _ (IntKind.u64.wrap (a0_2)) [.int .u64 (IntKind.u64.wrap (a0_2))] from rfl) (Reps.one (show Kd.M (Kd.int .u64) _ _ _ 1 [.int .u64 1] from rfl) (Reps.one (show Kd.M (Kd.int .u64) _ _ _ 0 [.int .u64 0] from rfl) (Reps.one (show Kd.M (Kd.int .u64) _ _ _ 8 [.int .u64 8] from rfl) (Reps.one (show Kd.M (Kd.int .u64) _ _ _ a0_3 [.int .u64 a0_3] from rfl) (Reps.one (show Kd.M (Kd.int .u64) _ _ _ 8 [.int .u64 8] from rfl) (Reps.one (show Kd.M (Kd.int .u64) _ _ _ a0_4 [.int .u64 a0_4] from rfl) (Reps.one (show Kd.M (Kd.int .u64) _ _ _ 2 [.int .u64 2] from rfl) (Reps.one (show Kd.M (Kd.int .u64) _ _ _ (IntKind.u64.wrap (a0_5)) [.int .u64 (IntKind.u64.wrap (a0_5))] from rfl) (Reps.one (show Kd.M (Kd.int .u64) _ _ _ 2 [.int .u64 2] from rfl) (Reps.one (show Kd.M (Kd.int .u64) _ _ _ (IntKind.u64.wrap (a0_6)) [.int .u64 (IntKind.u64.wrap (a0_6))] from rfl) (Reps.none _ _)))))))))))))))))); intro v284 w19 ho20 hb hg_ hnew_; clear hg_ hnew_; (first | rw [← Ny283.out] at ho20 | (simp only [Int.reduceToNat] at ho20; rw [← Ny283.out] at ho20)); have n0_ := aK (Kd.R_lower ho20 (below_size (by repeat (first | (with_reducible first | exact HB.out | apply below_alloc | apply pw_below_drewN | apply below_drew1 | refine below_set ?_ GE281.out) | exact HB.out)))); have n1_ := aK (blk_below (g := gb281) (o := .cells #[.int .i64 a0_0, .int .i64 a0_1, .int .i64 a0_2, .int .u64 a0_3, .int .u64 a0_4, .int .i64 a0_5, .int .i64 a0_6] 82 (0, 0)) (by (with_reducible repeat (first | refine blk_drewN ?_ _ | refine blk_drew ?_ | refine blk_alloc ?_ _)); exact BK281.out) hb); have n2_ := aK (below_step (by repeat (first | (with_reducible first | exact HB.out | apply below_alloc | apply pw_below_drewN | apply below_drew1 | refine below_set ?_ GE281.out) | exact HB.out)) hb); clear BK281; clear HB; have HO285 := n0_; have BK281 := n1_; have HB := n2_; clear n0_ n1_ n2_; clear hb ho20; obtain ⟨Ao21, co21, eo21⟩ := Kd.R_slice HO285.out; subst eo21) | ((with_reducible refine gate_callee (f := 110) rfl ?_); refine goesL_ (some 37) rfl rfl Try.func110 (by kernel_rfl) rfl #[.slice Ao21 y283.length co21] rfl (by (try simp only [List.map_toArray, List.map_cons, List.map_nil]); first | done | rfl | (simp only [List.length_drop, List.length_take]; rfl)) ?_; (with_reducible refine (be_Row.calls _ _ y283 t286 _ ?side1 ?side2 A13.out).mono ?_); (case side1 => repeat (first | exact (Kd.R_reads' HO285.out).2.2 | (with_reducible refine Kd.C_alloc ?_ _) | (with_reducible refine Kd.C_drewN ?_ _) | (with_reducible refine Kd.C_drew ?_))); (case side2 => exact (Kd.R_reads' HO285.out).2.1); rintro e w22 ⟨v287, rfl, ho0, hb⟩; refine ⟨_, rfl, ?_⟩; have n0_ := aK (Kd.R_below (by (with_reducible repeat (first | apply Kd.R_alloc | apply Kd.R_drewN | apply Kd.R_drew)); exact HO285.out) hb); have n1_ := aK (Kd.R_lower ho0 (below_size (by repeat (first | (with_reducible first | exact HB.out | apply below_alloc | apply pw_below_drewN | apply below_drew1 | refine below_set ?_ GE281.out) | exact HB.out)))); have n2_ := aK (blk_below (g := gb281) (o := .cells #[.int .i64 a0_0, .int .i64 a0_1, .int .i64 a0_2, .int .u64 a0_3, .int .u64 a0_4, .int .i64 a0_5, .int .i64 a0_6] 82 (0, 0)) (by (with_reducible repeat (first | refine blk_drewN ?_ _ | refine blk_drew ?_ | refine blk_alloc ?_ _)); exact BK281.out) hb); have n3_ := aK (below_step (by repeat (first | (with_reducible first | exact HB.out | apply below_alloc | apply pw_below_drewN | apply below_drew1 | refine below_set ?_ GE281.out) | exact HB.out)) hb); clear HO285; clear BK281; clear HB; have HO285 := n0_; have HO288 := n1_; have BK281 := n2_; have HB := n3_; clear n0_ n1_ n2_ n3_; (try clear hb); (try clear hb2); (try clear hk); (try clear hi); (try clear ho0)) | (at_builtin; refine print_append_str (w0 := w) w.heap.size rfl (.tmp 38) _ 38 9 5 rfl Try.underlying38 Try.underlying9 info5 v287 t286 a1 rfl rfl ?aO ?aB ?aS ?aL ?_; (case aB => exact (by repeat (first | (with_reducible first | exact HB.out | apply below_alloc | apply pw_below_drewN | apply below_drew1 | refine below_set ?_ GE281.out) | exact HB.out))); (case aO => exact (Kd.own_of_R (by (with_reducible repeat (first | apply Kd.R_alloc | apply Kd.R_drewN | apply Kd.R_drew)); exact HO288.out))); (case aS => exact (below_size (by repeat (first | (with_reducible first | exact HB.out | apply below_alloc | apply pw_below_drewN | apply below_drew1 | refine below_set ?_ GE281.out) | exact HB.out)))); (case aL => have := LMc14.out; omega); intro v290 w23 ho0 hb hg; have ho := Kd.R_of_own (h1 := fun _ => rfl) (ok := fun _ => True) ho0 (fun _ _ => trivial); clear ho0; have hat := True.intro; rw [← Ny289.out] at ho; change Kd.R (Kd.int .u8) 5 w23 w.heap.size (fun _ => True) v290 y289 at ho; have n0_ := aK (blk_grown (g := gb281) (o := .cells #[.int .i64 a0_0, .int .i64 a0_1, .int .i64 a0_2, .int .u64 a0_3, .int .u64 a0_4, .int .i64 a0_5, .int .i64 a0_6] 82 (0, 0)) (by (with_reducible repeat (first | refine blk_drewN ?_ _ | refine blk_drew ?_ | refine blk_alloc ?_ _)); exact BK281.out) hg (Kd.R_ne HO288.out BK281.out (by decide))); have n1_ := aK (Kd.R_over' (by (with_reducible repeat (first | apply Kd.R_alloc | apply Kd.R_drewN | apply Kd.R_drew)); exact HO285.out) (Kd.R_typed (by (with_reducible repeat (first | apply Kd.R_alloc | apply Kd.R_drewN | apply Kd.R_drew)); exact HO288.out)) (by decide) hg); have n2_ := aK (hb); have n3_ := aK (ho); clear BK281; clear HO285; clear HB; clear HO288; have BK281 := n0_; have HO285 := n1_; have HB := n2_; have HO291 := n3_; clear n0_ n1_ n2_ n3_; clear ho hb hg hat; obtain ⟨Ao24, co24, eo24⟩ := Kd.R_slice HO291.out; subst eo24) | ((with_reducible refine gate_callee (f := 61) rfl ?_); refine goesL_ (some 45) rfl rfl Try.func61 (by kernel_rfl) rfl #[.int .i64 (wrap64 (252 - (y289.length : Int)))] rfl (by (try simp only [List.map_toArray, List.map_cons, List.map_nil]); first | done | rfl | (simp only [List.length_drop, List.length_take]; rfl)) ?_; (with_reducible refine (zeros_Ones.calls kj2 (wrap64 (252 - (y289.length : Int))) t292 _ A15.out).mono ?_); rintro e w25 ⟨v293, rfl, ho0, hb⟩; refine ⟨_, rfl, ?_⟩; have n0_ := aK (Kd.R_below (by (with_reducible repeat (first | apply Kd.R_alloc | apply Kd.R_drewN | apply Kd.R_drew)); exact HO285.out) hb); have n1_ := aK (Kd.R_elder' (by (with_reducible repeat (first | apply Kd.R_alloc | apply Kd.R_drewN | apply Kd.R_drew)); exact HO291.out) (Kd.R_base ho0) hb); have n2_ := aK (Kd.R_lower (Kd.R_new' ho0 (Kd.R_lt (by (with_reducible repeat (first | apply Kd.R_alloc | apply Kd.R_drewN | apply Kd.R_drew)); exact HO291.out))) (below_size (by repeat (first | (with_reducible first | exact HB.out | apply below_alloc | apply pw_below_drewN | apply below_drew1 | refine below_set ?_ GE281.out) | exact HB.out)))); have n3_ := aK (blk_below (g := gb281) (o := .cells #[.int .i64 a0_0, .int .i64 a0_1, .int .i64 a0_2, .int .u64 a0_3, .int .u64 a0_4, .int .i64 a0_5, .int .i64 a0_6] 82 (0, 0)) (by (with_reducible repeat (first | refine blk_drewN ?_ _ | refine blk_drew ?_ | refine blk_alloc ?_ _)); exact BK281.out) hb); have n4_ := aK (below_step (by repeat (first | (with_reducible first | exact HB.out | apply below_alloc | apply pw_below_drewN | apply below_drew1 | refine below_set ?_ GE281.out) | exact HB.out)) hb); clear HO285; clear HO291; clear BK281; clear HB; have HO285 := n0_; have HO291 := n1_; have HO294 := n2_; have BK281 := n3_; have HB := n4_; clear n0_ n1_ n2_ n3_ n4_; (try clear hb); (try clear hb2); (try clear hk); (try clear hi); (try clear ho0); obtain ⟨Ao27, co27, eo27⟩ := Kd.R_slice HO294.out; subst eo27) | ((with_reducible refine gate_builtin (b := .append) (xs := #[.tmp 41, .tmp 45]) rfl ?_); (try (refine gate_guard (by rfl) ?_; dsimp only)); at_builtin; refine Kd.R_append_rows (Kd.int .u8) (w0 := w) w.heap.size rfl (.tmp 41) (.tmp 45) 38 5 (.int .u8 0) 1 rfl Try.underlying38 info5 rfl (by decide) (by omega) (.slice Ao24 y289.length co24) y289 t292 _ _ _ (fun k_ => some k_ ≠ (.slice Ao27 t292.length co27 : Value).ownBlock) (fun _ => False) rfl rfl ?aO ?aR (fun _ _ h => h) (fun _ h => h.elim) ?aF ?aB ?aS ?aL ?_; (case aR => repeat (first | exact (Kd.R_reads' HO294.out).2.2 | (with_reducible refine Kd.C_alloc ?_ _) | (with_reducible refine Kd.C_drewN ?_ _) | (with_reducible refine Kd.C_drew ?_))); (case aB => exact (by repeat (first | (with_reducible first | exact HB.out | apply below_alloc | apply pw_below_drewN | apply below_drew1 | refine below_set ?_ GE281.out) | exact HB.out))); (case aF => exact (fun k_ hk => Kd.fresh' (Kd.R_lt (by (with_reducible repeat (first | apply Kd.R_alloc | apply Kd.R_drewN | apply Kd.R_drew)); exact HO294.out)) k_ hk)); (case aO => exact (by (with_reducible repeat (first | apply Kd.R_alloc | apply Kd.R_drewN | apply Kd.R_drew)); exact Kd.R_mono HO291.out (fun _ hk => hk.2))); (case aS => exact (below_size (by repeat (first | (with_reducible first | exact HB.out | apply below_alloc | apply pw_below_drewN | apply below_drew1 | refine below_set ?_ GE281.out) | exact HB.out)))); (case aL => have := LMc16.out; omega); intro v296 w26 ho hb hg hat; rw [← Ny295.out] at ho; have n0_ := aK (blk_grown (g := gb281) (o := .cells #[.int .i64 a0_0, .int .i64 a0_1, .int .i64 a0_2, .int .u64 a0_3, .int .u64 a0_4, .int .i64 a0_5, .int .i64 a0_6] 82 (0, 0)) (by (with_reducible repeat (first | refine blk_drewN ?_ _ | refine blk_drew ?_ | refine blk_alloc ?_ _)); exact BK281.out) hg (Kd.R_ne HO291.out BK281.out (by decide))); have n1_ := aK (Kd.R_over' (by (with_reducible repeat (first | apply Kd.R_alloc | apply Kd.R_drewN | apply Kd.R_drew)); exact HO285.out) (Kd.R_typed (by (with_reducible repeat (first | apply Kd.R_alloc | apply Kd.R_drewN | apply Kd.R_drew)); exact HO291.out)) (by decide) hg); have n2_ := aK (Kd.R_after (ok := (fun _ => True)) (by (with_reducible repeat (first | apply Kd.R_alloc | apply Kd.R_drewN | apply Kd.R_drew)); exact HO294.out) hg hat); have n3_ := aK (hb); have n4_ := aK (ho); clear BK281; clear HO285; clear HO294; clear HB; clear HO291; have BK281 := n0_; have HO285 := n1_; have HO294 := n2_; have HB := n3_; have HO297 := n4_; clear n0_ n1_ n2_ n3_ n4_; clear ho hb hg hat; obtain ⟨Ao28, co28, eo28⟩ := Kd.R_slice HO297.out; subst eo28) | ((with_reducible refine gate_callee (f := 111) rfl ?_); refine goesL_ (some 47) rfl rfl Try.func111 (by kernel_rfl) rfl #[.slice Ao28 y295.length co28] rfl (by (try simp only [List.map_toArray, List.map_cons, List.map_nil]); first | done | rfl | (simp only [List.length_drop, List.length_take]; rfl)) ?_; (with_reducible refine (page_Seal.calls kj2 _ _ y295 t298 _ ?side1 ?side2 A17.out).mono ?_); (case side1 => repeat (first | exact (Kd.R_reads' HO297.out).2.2 | (with_reducible refine Kd.C_alloc ?_ _) | (with_reducible refine Kd.C_drewN ?_ _) | (with_reducible refine Kd.C_drew ?_))); (case side2 => exact (Kd.R_reads' HO297.out).2.1); rintro e w29 ⟨v299, rfl, ho0, hb⟩; refine ⟨_, rfl, ?_⟩; have n0_ := aK (Kd.R_below (by (with_reducible repeat (first | apply Kd.R_alloc | apply Kd.R_drewN | apply Kd.R_drew)); exact HO285.out) hb); have n1_ := aK (Kd.R_elder' (by (with_reducible repeat (first | apply Kd.R_alloc | apply Kd.R_drewN | apply Kd.R_drew)); exact HO294.out) (Kd.R_base ho0) hb); have n2_ := aK (Kd.R_elder' (by (with_reducible repeat (first | apply Kd.R_alloc | apply Kd.R_drewN | apply Kd.R_drew)); exact HO297.out) (Kd.R_base ho0) hb); have n3_ := aK (Kd.R_lower (Kd.R_new' (Kd.R_new' ho0 (Kd.R_lt (by (with_reducible repeat (first | apply Kd.R_alloc | apply Kd.R_drewN | apply Kd.R_drew)); exact HO294.out))) (Kd.R_lt (by (with_reducible repeat (first | apply Kd.R_alloc | apply Kd.R_drewN | apply Kd.R_drew)); exact HO297.out))) (below_size (by repeat (first | (with_reducible first | exact HB.out | apply below_alloc | apply pw_below_drewN | apply below_drew1 | refine below_set ?_ GE281.out) | exact HB.out)))); have n4_ := aK (blk_below (g := gb281) (o := .cells #[.int .i64 a0_0, .int .i64 a0_1, .int .i64 a0_2, .int .u64 a0_3, .int .u64 a0_4, .int .i64 a0_5, .int .i64 a0_6] 82 (0, 0)) (by (with_reducible repeat (first | refine blk_drewN ?_ _ | refine blk_drew ?_ | refine blk_alloc ?_ _)); exact BK281.out) hb); have n5_ := aK (below_step (by repeat (first | (with_reducible first | exact HB.out | apply below_alloc | apply pw_below_drewN | apply below_drew1 | refine below_set ?_ GE281.out) | exact HB.out)) hb); clear HO285; clear HO294; clear HO297; clear BK281; clear HB; have HO285 := n0_; have HO294 := n1_; have HO297 := n2_; have HO300 := n3_; have BK281 := n4_; have HB := n5_; clear n0_ n1_ n2_ n3_ n4_ n5_; (try clear hb); (try clear hb2); (try clear hk); (try clear hi); (try clear ho0)))
      go_ret2; exact ⟨_, by first | rfl | (simp [errW_none, errW_some] <;> rfl) | (simp [*, errW_none, errW_some] <;> rfl), by (with_reducible repeat (first | apply Kd.R_alloc | apply Kd.R_drewN | apply Kd.R_drew)); exact Kd.R_mono HO300.out (fun _ hk => trivial), by repeat (first | (with_reducible first | exact HB.out | apply below_alloc | apply pw_below_drewN | apply below_drew1 | refine below_set ?_ GE281.out) | exact HB.out)⟩
     ·
      rw [if_neg c16] at H; exact absurd H (by simp)
    ·
     rw [if_neg c14] at H; exact absurd H (by simp)
end Go.Proofs.Ytnchdmidaigheaa.Hp
namespace Go.Proofs.Ytnchdmidaigheaa.Hp
open Go.RowKit Go.Proofs.YtnchdmidaigheaaW.PrintWords Go.Proofs.YtnchdmidaigheaaW.PrintLast Go.Proofs.YtnchdmidaigheaaW.PrintMore
attribute [local go_sem] max2_int min2_int max_two min_two max_three min_three max_four min_four   -- for this text's walks alone
set_option linter.unusedVariables false
set_option linter.unusedSimpArgs false
def zeros_Blank.f (k : Nat) (l0 : List Int) : Option (Bool) := (zeros_Count.f k l0).bind fun t301 => (some (t301 == 0))
theorem zeros_Blank.mono : ∀ a0 k, LeO (zeros_Blank.f k a0) (zeros_Blank.f (k + 1) a0) := by
 intro a0 k; unfold zeros_Blank.f
 repeat' first
   | (with_reducible exact zeros_Count.mono _ _)
   | (with_reducible exact LeO.refl _)
   | (with_reducible exact LeO.none _)
   | (with_reducible refine LeO.ite ?_ ?_)
   | (with_reducible refine LeO.bind ?_ (fun _ => ?_))
   | exact zeros_Count.mono _ _
   | exact LeO.none _
   | refine LeO.ite ?_ ?_
   | refine LeO.bind ?_ (fun _ => ?_)
set_option maxHeartbeats 8000000 in
set_option maxRecDepth 100000 in
theorem zeros_Blank.calls (k : Nat) (A0 : Option Addr) (c0 : Nat) (l0 : List Int) (r : Bool) (w : World) (hr0 : Kd.C (Kd.int .u8) w A0 l0.length l0) (hc0 : l0.length ≤ c0) (h : zeros_Blank.f k l0 = some r) :
  Calls Try.prog 113 #[.slice A0 l0.length c0] w fun e w' => e = .returned (.bool r) ∧ Drawn0 w w' := by
 have HR0 := aK hr0; have HC0 := aK hc0; clear hr0 hc0; have H : ((zeros_Count.f k l0).bind fun t301 => (some (t301 == 0))) = some r := h; clear h; replace H := Option.bind_eq_some_iff.mp H; obtain ⟨t301, A20, H⟩ := H; replace H : (some (t301 == 0)) = some r := H; have A2 := aK A20; clear A20; obtain rfl := Option.some.inj H; go_enter Try.func113, Try.ntmps113; go_wp2_with (first | ((with_reducible refine gate_callee (f := 124) rfl ?_); refine goesL_ (some 4) rfl rfl Try.func124 (by kernel_rfl) rfl #[.slice A0 l0.length c0] rfl (by (try simp only [List.map_toArray, List.map_cons, List.map_nil]); first | done | rfl | (simp only [List.length_drop, List.length_take]; rfl)) ?_; (with_reducible refine (zeros_Count.calls k _ _ l0 t301 _ ?side1 ?side2 A2.out).mono ?_); (case side1 => repeat (first | exact HR0.out | (with_reducible refine Kd.C_alloc ?_ _) | (with_reducible refine Kd.C_drewN ?_ _) | (with_reducible refine Kd.C_drew ?_))); (case side2 => exact HC0.out); rintro e w' ⟨rfl, ⟨nd, rfl⟩⟩; refine ⟨_, rfl, ?_⟩)); go_ret; exact ⟨by first | rfl | (simp; done) | (simp [*]; done), by repeat (first | exact Drawn0.refl _ | apply Drawn0.step)⟩
def page_Class.f (k : Nat) (l0 : List Int) : Option (Int) := if (l0.length : Int) = 256 then ((zeros_Blank.f k l0).bind fun t302 => (if t302 = true then (some 0) else ((page_read.f l0).bind fun bt303 => ((page_Put.f k bt303.1 bt303.2.1 bt303.2.2.1 bt303.2.2.2.1 bt303.2.2.2.2.1 bt303.2.2.2.2.2.1 bt303.2.2.2.2.2.2.1 bt303.2.2.2.2.2.2.2).bind fun bt311 => (if bt311.2 = 0 then (if (strOfNums bt311.1).toList = (strOfNums l0).toList then (some 1) else (some 2)) else (some 2)))))) else (some 2)
theorem page_Class.mono : ∀ a0 k, LeO (page_Class.f k a0) (page_Class.f (k + 1) a0) := by
 intro a0 k; unfold page_Class.f
 repeat' first
   | (with_reducible exact page_Put.mono _ _ _ _ _ _ _ _ _)
   | (with_reducible exact zeros_Blank.mono _ _)
   | (with_reducible exact LeO.refl _)
   | (with_reducible exact LeO.none _)
   | (with_reducible refine LeO.ite ?_ ?_)
   | (with_reducible refine LeO.bind ?_ (fun _ => ?_))
   | exact page_Put.mono _ _ _ _ _ _ _ _ _
   | exact zeros_Blank.mono _ _
   | exact LeO.none _
   | refine LeO.ite ?_ ?_
   | refine LeO.bind ?_ (fun _ => ?_)
set_option maxHeartbeats 8000000 in
set_option maxRecDepth 100000 in
theorem page_Class.calls (k : Nat) (A0 : Option Addr) (c0 : Nat) (l0 : List Int) (r : Int) (w : World) (hr0 : Kd.C (Kd.int .u8) w A0 l0.length l0) (hc0 : l0.length ≤ c0) (h : page_Class.f k l0 = some r) :
  Calls Try.prog 91 #[.slice A0 l0.length c0] w fun e w' => e = .returned (.int .i64 r) ∧ Below w.heap.size w w' := by
 have HR0 := aK hr0; have HC0 := aK hc0; clear hr0 hc0; have HB := aK (Below.refl w.heap.size w); have H : (if (l0.length : Int) = 256 then ((zeros_Blank.f k l0).bind fun t302 => (if t302 = true then (some 0) else ((page_read.f l0).bind fun bt303 => ((page_Put.f k bt303.1 bt303.2.1 bt303.2.2.1 bt303.2.2.2.1 bt303.2.2.2.2.1 bt303.2.2.2.2.2.1 bt303.2.2.2.2.2.2.1 bt303.2.2.2.2.2.2.2).bind fun bt311 => (if bt311.2 = 0 then (if (strOfNums bt311.1).toList = (strOfNums l0).toList then (some 1) else (some 2)) else (some 2)))))) else (some 2)) = some r := h; clear h; by_cases c2 : (l0.length : Int) = 256
 ·
  rw [if_pos c2] at H; have c2b0 : ((l0.length : Int) == 256) = true := beq_iff_eq.mpr c2; have c2b1 : ((l0.length : Int) != 256) = false := bne_eq_false_iff_eq.mpr c2; clear c2; replace H := Option.bind_eq_some_iff.mp H; obtain ⟨t302, A30, H⟩ := H; replace H : (if t302 = true then (some 0) else ((page_read.f l0).bind fun bt303 => ((page_Put.f k bt303.1 bt303.2.1 bt303.2.2.1 bt303.2.2.2.1 bt303.2.2.2.2.1 bt303.2.2.2.2.2.1 bt303.2.2.2.2.2.2.1 bt303.2.2.2.2.2.2.2).bind fun bt311 => (if bt311.2 = 0 then (if (strOfNums bt311.1).toList = (strOfNums l0).toList then (some 1) else (some 2)) else (some 2))))) = some r := H; have A3 := aK A30; clear A30; by_cases c4 : t302 = true
  ·
   subst c4; have H1 : (some 0) = some r := by rw [if_pos rfl] at H; exact H
   clear H; have H := H1; clear H1; obtain rfl := Option.some.inj H; go_enter Try.func91, Try.ntmps91; go_wp2_with (first | ((with_reducible refine gate_callee (f := 113) rfl ?_); refine goesL_ (some 9) rfl rfl Try.func113 (by kernel_rfl) rfl #[.slice A0 l0.length c0] rfl (by (try simp only [List.map_toArray, List.map_cons, List.map_nil]); first | done | rfl | (simp only [List.length_drop, List.length_take]; rfl)) ?_; (with_reducible refine (zeros_Blank.calls k _ _ l0 true _ ?side1 ?side2 A3.out).mono ?_); (case side1 => repeat (first | exact HR0.out | (with_reducible refine Kd.C_alloc ?_ _) | (with_reducible refine Kd.C_drewN ?_ _) | (with_reducible refine Kd.C_drew ?_))); (case side2 => exact HC0.out); rintro e w' ⟨rfl, ⟨nd, rfl⟩⟩; refine ⟨_, rfl, ?_⟩)); go_ret; exact ⟨by first | rfl | (simp [errW_none, errW_some] <;> rfl) | (simp [*, errW_none, errW_some] <;> rfl), by repeat (first | (with_reducible first | exact HB.out | apply below_alloc | apply pw_below_drewN | apply below_drew1) | exact HB.out)⟩
  ·
   replace c4 := Bool.eq_false_iff.mpr c4; subst c4; have H1 : ((page_read.f l0).bind fun bt303 => ((page_Put.f k bt303.1 bt303.2.1 bt303.2.2.1 bt303.2.2.2.1 bt303.2.2.2.2.1 bt303.2.2.2.2.2.1 bt303.2.2.2.2.2.2.1 bt303.2.2.2.2.2.2.2).bind fun bt311 => (if bt311.2 = 0 then (if (strOfNums bt311.1).toList = (strOfNums l0).toList then (some 1) else (some 2)) else (some 2)))) = some r := by rw [if_neg (show ¬ (false = true) by decide)] at H; exact H
   clear H; have H := H1; clear H1; replace H := Option.bind_eq_some_iff.mp H; obtain ⟨⟨t303, t304, t305, t306, t307, t308, t309, t310⟩, A50, H⟩ := H; replace H : ((page_Put.f k t303 t304 t305 t306 t307 t308 t309 t310).bind fun bt311 => (if bt311.2 = 0 then (if (strOfNums bt311.1).toList = (strOfNums l0).toList then (some 1) else (some 2)) else (some 2))) = some r := H; have A5 := aK A50; clear A50; replace H := Option.bind_eq_some_iff.mp H; obtain ⟨⟨t311, t314⟩, A60, H⟩ := H; replace H : (if t314 = 0 then (if (strOfNums t311).toList = (strOfNums l0).toList then (some 1) else (some 2)) else (some 2)) = some r := H; have A6 := aK A60; clear A60; by_cases c7 : t314 = 0
   ·
    rw [if_pos c7] at H; have c7b0 : (t314 == 0) = true := beq_iff_eq.mpr c7; have c7b1 : (t314 != 0) = false := bne_eq_false_iff_eq.mpr c7; clear c7; by_cases c8 : (strOfNums t311).toList = (strOfNums l0).toList
    ·
     rw [if_pos c8] at H; have c8b0 : ((strOfNums t311).toList == (strOfNums l0).toList) = true := beq_iff_eq.mpr c8; have c8b1 : ((strOfNums t311).toList != (strOfNums l0).toList) = false := bne_eq_false_iff_eq.mpr c8; clear c8; obtain rfl := Option.some.inj H; go_enter Try.func91, Try.ntmps91; go_wp2_with (first | ((with_reducible refine gate_callee (f := 113) rfl ?_); refine goesL_ (some 9) rfl rfl Try.func113 (by kernel_rfl) rfl #[.slice A0 l0.length c0] rfl (by (try simp only [List.map_toArray, List.map_cons, List.map_nil]); first | done | rfl | (simp only [List.length_drop, List.length_take]; rfl)) ?_; (with_reducible refine (zeros_Blank.calls k _ _ l0 false _ ?side1 ?side2 A3.out).mono ?_); (case side1 => repeat (first | exact HR0.out | (with_reducible refine Kd.C_alloc ?_ _) | (with_reducible refine Kd.C_drewN ?_ _) | (with_reducible refine Kd.C_drew ?_))); (case side2 => exact HC0.out); rintro e w' ⟨rfl, ⟨nd, rfl⟩⟩; refine ⟨_, rfl, ?_⟩) | ((with_reducible refine gate_callee (f := 112) rfl ?_); refine goesL_ (some 12) rfl rfl Try.func112 (by kernel_rfl) rfl #[.slice A0 l0.length c0] rfl (by (try simp only [List.map_toArray, List.map_cons, List.map_nil]); first | done | rfl | (simp only [List.length_drop, List.length_take]; rfl)) ?_; (with_reducible refine (page_read.calls _ _ l0 t303 t304 t305 t306 t307 t308 t309 t310 _ ?side1 ?side2 A5.out).mono ?_); (case side1 => repeat (first | exact HR0.out | (with_reducible refine Kd.C_alloc ?_ _) | (with_reducible refine Kd.C_drewN ?_ _) | (with_reducible refine Kd.C_drew ?_))); (case side2 => exact HC0.out); rintro e w9 ⟨rfl, hb⟩; refine ⟨_, rfl, ?_⟩; have n0_ := aK (below_step (by repeat (first | (with_reducible first | exact HB.out | apply below_alloc | apply pw_below_drewN | apply below_drew1) | exact HB.out)) hb); clear HB; have HB := n0_; clear n0_; (try clear hb); (try clear hb2); (try clear hk); (try clear hi)) | ((with_reducible refine gate_callee (f := 88) rfl ?_); refine goesL_ (some 15) rfl rfl Try.func88 (by kernel_rfl) rfl #[.agg #[.int .i64 t303, .int .i64 t304, .int .i64 t305, .int .u64 t306, .int .u64 t307, .int .i64 t308, .int .i64 t309], .string t310] rfl (by (try simp only [List.map_toArray, List.map_cons, List.map_nil]); first | done | rfl | (simp only [List.length_drop, List.length_take]; rfl)) ?_; (with_reducible refine (page_Put.calls k t303 t304 t305 t306 t307 t308 t309 t310 t311 t314 _ A6.out).mono ?_); rintro e w10 ⟨v312, rfl, ho0, hb⟩; refine ⟨_, rfl, ?_⟩; have n0_ := aK (Kd.R_lower ho0 (below_size (by repeat (first | (with_reducible first | exact HB.out | apply below_alloc | apply pw_below_drewN | apply below_drew1) | exact HB.out)))); have n1_ := aK (below_step (by repeat (first | (with_reducible first | exact HB.out | apply below_alloc | apply pw_below_drewN | apply below_drew1) | exact HB.out)) hb); clear HB; have HO313 := n0_; have HB := n1_; clear n0_ n1_; (try clear hb); (try clear hb2); (try clear hk); (try clear hi); (try clear ho0); have hcv11 := own_string (P := Try.prog) Try.underlying38 Try.underlying5 Try.underlying9 (Kd.own_of_R HO313.out); have hcv11d := fun m_ => own_string (P := Try.prog) Try.underlying38 Try.underlying5 Try.underlying9 (Kd.own_of_R (Kd.R_drewN HO313.out m_)); have hcv12 := Kd.C_string (P := Try.prog) (A := A0) (c := c0) Try.underlying38 Try.underlying5 Try.underlying9 (Kd.C_below HR0.out HB.out))); go_ret; exact ⟨by first | rfl | (simp [errW_none, errW_some] <;> rfl) | (simp [*, errW_none, errW_some] <;> rfl), by repeat (first | (with_reducible first | exact HB.out | apply below_alloc | apply pw_below_drewN | apply below_drew1) | exact HB.out)⟩
    ·
     rw [if_neg c8] at H; have c8b0 : ((strOfNums t311).toList == (strOfNums l0).toList) = false := beq_eq_false_iff_ne.mpr c8; have c8b1 : ((strOfNums t311).toList != (strOfNums l0).toList) = true := bne_iff_ne.mpr c8; obtain rfl := Option.some.inj H; go_enter Try.func91, Try.ntmps91; go_wp2_with (first | ((with_reducible refine gate_callee (f := 113) rfl ?_); refine goesL_ (some 9) rfl rfl Try.func113 (by kernel_rfl) rfl #[.slice A0 l0.length c0] rfl (by (try simp only [List.map_toArray, List.map_cons, List.map_nil]); first | done | rfl | (simp only [List.length_drop, List.length_take]; rfl)) ?_; (with_reducible refine (zeros_Blank.calls k _ _ l0 false _ ?side1 ?side2 A3.out).mono ?_); (case side1 => repeat (first | exact HR0.out | (with_reducible refine Kd.C_alloc ?_ _) | (with_reducible refine Kd.C_drewN ?_ _) | (with_reducible refine Kd.C_drew ?_))); (case side2 => exact HC0.out); rintro e w' ⟨rfl, ⟨nd, rfl⟩⟩; refine ⟨_, rfl, ?_⟩) | ((with_reducible refine gate_callee (f := 112) rfl ?_); refine goesL_ (some 12) rfl rfl Try.func112 (by kernel_rfl) rfl #[.slice A0 l0.length c0] rfl (by (try simp only [List.map_toArray, List.map_cons, List.map_nil]); first | done | rfl | (simp only [List.length_drop, List.length_take]; rfl)) ?_; (with_reducible refine (page_read.calls _ _ l0 t303 t304 t305 t306 t307 t308 t309 t310 _ ?side1 ?side2 A5.out).mono ?_); (case side1 => repeat (first | exact HR0.out | (with_reducible refine Kd.C_alloc ?_ _) | (with_reducible refine Kd.C_drewN ?_ _) | (with_reducible refine Kd.C_drew ?_))); (case side2 => exact HC0.out); rintro e w13 ⟨rfl, hb⟩; refine ⟨_, rfl, ?_⟩; have n0_ := aK (below_step (by repeat (first | (with_reducible first | exact HB.out | apply below_alloc | apply pw_below_drewN | apply below_drew1) | exact HB.out)) hb); clear HB; have HB := n0_; clear n0_; (try clear hb); (try clear hb2); (try clear hk); (try clear hi)) | ((with_reducible refine gate_callee (f := 88) rfl ?_); refine goesL_ (some 15) rfl rfl Try.func88 (by kernel_rfl) rfl #[.agg #[.int .i64 t303, .int .i64 t304, .int .i64 t305, .int .u64 t306, .int .u64 t307, .int .i64 t308, .int .i64 t309], .string t310] rfl (by (try simp only [List.map_toArray, List.map_cons, List.map_nil]); first | done | rfl | (simp only [List.length_drop, List.length_take]; rfl)) ?_; (with_reducible refine (page_Put.calls k t303 t304 t305 t306 t307 t308 t309 t310 t311 t314 _ A6.out).mono ?_); rintro e w14 ⟨v312, rfl, ho0, hb⟩; refine ⟨_, rfl, ?_⟩; have n0_ := aK (Kd.R_lower ho0 (below_size (by repeat (first | (with_reducible first | exact HB.out | apply below_alloc | apply pw_below_drewN | apply below_drew1) | exact HB.out)))); have n1_ := aK (below_step (by repeat (first | (with_reducible first | exact HB.out | apply below_alloc | apply pw_below_drewN | apply below_drew1) | exact HB.out)) hb); clear HB; have HO313 := n0_; have HB := n1_; clear n0_ n1_; (try clear hb); (try clear hb2); (try clear hk); (try clear hi); (try clear ho0); have hcv15 := own_string (P := Try.prog) Try.underlying38 Try.underlying5 Try.underlying9 (Kd.own_of_R HO313.out); have hcv15d := fun m_ => own_string (P := Try.prog) Try.underlying38 Try.underlying5 Try.underlying9 (Kd.own_of_R (Kd.R_drewN HO313.out m_)); have hcv16 := Kd.C_string (P := Try.prog) (A := A0) (c := c0) Try.underlying38 Try.underlying5 Try.underlying9 (Kd.C_below HR0.out HB.out))); go_ret; exact ⟨by first | rfl | (simp [errW_none, errW_some] <;> rfl) | (simp [*, errW_none, errW_some] <;> rfl), by repeat (first | (with_reducible first | exact HB.out | apply below_alloc | apply pw_below_drewN | apply below_drew1) | exact HB.out)⟩
   ·
    rw [if_neg c7] at H; have c7b0 : (t314 == 0) = false := beq_eq_false_iff_ne.mpr c7; have c7b1 : (t314 != 0) = true := bne_iff_ne.mpr c7; obtain rfl := Option.some.inj H; go_enter Try.func91, Try.ntmps91; go_wp2_with (first | ((with_reducible refine gate_callee (f := 113) rfl ?_); refine goesL_ (some 9) rfl rfl Try.func113 (by kernel_rfl) rfl #[.slice A0 l0.length c0] rfl (by (try simp only [List.map_toArray, List.map_cons, List.map_nil]); first | done | rfl | (simp only [List.length_drop, List.length_take]; rfl)) ?_; (with_reducible refine (zeros_Blank.calls k _ _ l0 false _ ?side1 ?side2 A3.out).mono ?_); (case side1 => repeat (first | exact HR0.out | (with_reducible refine Kd.C_alloc ?_ _) | (with_reducible refine Kd.C_drewN ?_ _) | (with_reducible refine Kd.C_drew ?_))); (case side2 => exact HC0.out); rintro e w' ⟨rfl, ⟨nd, rfl⟩⟩; refine ⟨_, rfl, ?_⟩) | ((with_reducible refine gate_callee (f := 112) rfl ?_); refine goesL_ (some 12) rfl rfl Try.func112 (by kernel_rfl) rfl #[.slice A0 l0.length c0] rfl (by (try simp only [List.map_toArray, List.map_cons, List.map_nil]); first | done | rfl | (simp only [List.length_drop, List.length_take]; rfl)) ?_; (with_reducible refine (page_read.calls _ _ l0 t303 t304 t305 t306 t307 t308 t309 t310 _ ?side1 ?side2 A5.out).mono ?_); (case side1 => repeat (first | exact HR0.out | (with_reducible refine Kd.C_alloc ?_ _) | (with_reducible refine Kd.C_drewN ?_ _) | (with_reducible refine Kd.C_drew ?_))); (case side2 => exact HC0.out); rintro e w17 ⟨rfl, hb⟩; refine ⟨_, rfl, ?_⟩; have n0_ := aK (below_step (by repeat (first | (with_reducible first | exact HB.out | apply below_alloc | apply pw_below_drewN | apply below_drew1) | exact HB.out)) hb); clear HB; have HB := n0_; clear n0_; (try clear hb); (try clear hb2); (try clear hk); (try clear hi)) | ((with_reducible refine gate_callee (f := 88) rfl ?_); refine goesL_ (some 15) rfl rfl Try.func88 (by kernel_rfl) rfl #[.agg #[.int .i64 t303, .int .i64 t304, .int .i64 t305, .int .u64 t306, .int .u64 t307, .int .i64 t308, .int .i64 t309], .string t310] rfl (by (try simp only [List.map_toArray, List.map_cons, List.map_nil]); first | done | rfl | (simp only [List.length_drop, List.length_take]; rfl)) ?_; (with_reducible refine (page_Put.calls k t303 t304 t305 t306 t307 t308 t309 t310 t311 t314 _ A6.out).mono ?_); rintro e w18 ⟨v312, rfl, ho0, hb⟩; refine ⟨_, rfl, ?_⟩; have n0_ := aK (Kd.R_lower ho0 (below_size (by repeat (first | (with_reducible first | exact HB.out | apply below_alloc | apply pw_below_drewN | apply below_drew1) | exact HB.out)))); have n1_ := aK (below_step (by repeat (first | (with_reducible first | exact HB.out | apply below_alloc | apply pw_below_drewN | apply below_drew1) | exact HB.out)) hb); clear HB; have HO313 := n0_; have HB := n1_; clear n0_ n1_; (try clear hb); (try clear hb2); (try clear hk); (try clear hi); (try clear ho0))); go_ret; exact ⟨by first | rfl | (simp [errW_none, errW_some] <;> rfl) | (simp [*, errW_none, errW_some] <;> rfl), by repeat (first | (with_reducible first | exact HB.out | apply below_alloc | apply pw_below_drewN | apply below_drew1) | exact HB.out)⟩
 ·
  rw [if_neg c2] at H; have c2b0 : ((l0.length : Int) == 256) = false := beq_eq_false_iff_ne.mpr c2; have c2b1 : ((l0.length : Int) != 256) = true := bne_iff_ne.mpr c2; obtain rfl := Option.some.inj H; go_enter Try.func91, Try.ntmps91
  go_wp2
  go_ret; exact ⟨by first | rfl | (simp [errW_none, errW_some] <;> rfl) | (simp [*, errW_none, errW_some] <;> rfl), by repeat (first | (with_reducible first | exact HB.out | apply below_alloc | apply pw_below_drewN | apply below_drew1) | exact HB.out)⟩
end Go.Proofs.Ytnchdmidaigheaa.Hp
namespace Go.Proofs.Ytnchdmidaigheaa.Hp
open Go.RowKit Go.Proofs.YtnchdmidaigheaaW.PrintWords Go.Proofs.YtnchdmidaigheaaW.PrintLast Go.Proofs.YtnchdmidaigheaaW.PrintMore
attribute [local go_sem] max2_int min2_int max_two min_two max_three min_three max_four min_four   -- for this text's walks alone
set_option linter.unusedVariables false
set_option linter.unusedSimpArgs false
def page_Get.f (k : Nat) (l0 : List Int) : Option (Int × Int × Int × Int × Int × Int × Int × ByteArray × Int) := (page_Class.f k l0).bind fun t316 => (if t316 = 0 then (some (0, 0, 0, 0, 0, 0, 0, (⟨#[]⟩ : ByteArray), 8)) else (if t316 = 2 then (some (0, 0, 0, 0, 0, 0, 0, (⟨#[]⟩ : ByteArray), 6)) else ((page_read.f l0).bind fun bt317 => (some (bt317.1, bt317.2.1, bt317.2.2.1, bt317.2.2.2.1, bt317.2.2.2.2.1, bt317.2.2.2.2.2.1, bt317.2.2.2.2.2.2.1, bt317.2.2.2.2.2.2.2, 0)))))
theorem page_Get.mono : ∀ a0 k, LeO (page_Get.f k a0) (page_Get.f (k + 1) a0) := by
 intro a0 k; unfold page_Get.f
 repeat' first
   | (with_reducible exact page_Class.mono _ _)
   | (with_reducible exact LeO.refl _)
   | (with_reducible exact LeO.none _)
   | (with_reducible refine LeO.ite ?_ ?_)
   | (with_reducible refine LeO.bind ?_ (fun _ => ?_))
   | exact page_Class.mono _ _
   | exact LeO.none _
   | refine LeO.ite ?_ ?_
   | refine LeO.bind ?_ (fun _ => ?_)
set_option maxHeartbeats 8000000 in
set_option maxRecDepth 100000 in
theorem page_Get.calls (k : Nat) (A0 : Option Addr) (c0 : Nat) (l0 : List Int) (r1 : Int) (r2 : Int) (r3 : Int) (r4 : Int) (r5 : Int) (r6 : Int) (r7 : Int) (r8 : ByteArray) (r9 : Int) (w : World) (hr0 : Kd.C (Kd.int .u8) w A0 l0.length l0) (hc0 : l0.length ≤ c0) (h : page_Get.f k l0 = some (r1, r2, r3, r4, r5, r6, r7, r8, r9)) :
  Calls Try.prog 90 #[.slice A0 l0.length c0] w fun e w' => e = .returned (.tuple #[.agg #[.int .i64 r1, .int .i64 r2, .int .i64 r3, .int .u64 r4, .int .u64 r5, .int .i64 r6, .int .i64 r7], .string r8, .int .i64 r9]) ∧ Below w.heap.size w w' := by
 have hu82 := Try.underlying82; have HR0 := aK hr0; have HC0 := aK hc0; clear hr0 hc0; have HB := aK (Below.refl w.heap.size w); have H : ((page_Class.f k l0).bind fun t316 => (if t316 = 0 then (some (0, 0, 0, 0, 0, 0, 0, (⟨#[]⟩ : ByteArray), 8)) else (if t316 = 2 then (some (0, 0, 0, 0, 0, 0, 0, (⟨#[]⟩ : ByteArray), 6)) else ((page_read.f l0).bind fun bt317 => (some (bt317.1, bt317.2.1, bt317.2.2.1, bt317.2.2.2.1, bt317.2.2.2.2.1, bt317.2.2.2.2.2.1, bt317.2.2.2.2.2.2.1, bt317.2.2.2.2.2.2.2, 0)))))) = some (r1, r2, r3, r4, r5, r6, r7, r8, r9) := h; clear h; replace H := Option.bind_eq_some_iff.mp H; obtain ⟨t316, A20, H⟩ := H; replace H : (if t316 = 0 then (some (0, 0, 0, 0, 0, 0, 0, (⟨#[]⟩ : ByteArray), 8)) else (if t316 = 2 then (some (0, 0, 0, 0, 0, 0, 0, (⟨#[]⟩ : ByteArray), 6)) else ((page_read.f l0).bind fun bt317 => (some (bt317.1, bt317.2.1, bt317.2.2.1, bt317.2.2.2.1, bt317.2.2.2.2.1, bt317.2.2.2.2.2.1, bt317.2.2.2.2.2.2.1, bt317.2.2.2.2.2.2.2, 0))))) = some (r1, r2, r3, r4, r5, r6, r7, r8, r9) := H; have A2 := aK A20; clear A20; by_cases c3 : t316 = 0
 ·
  rw [if_pos c3] at H; have c3b0 : (t316 == 0) = true := beq_iff_eq.mpr c3; have c3b1 : (t316 != 0) = false := bne_eq_false_iff_eq.mpr c3; clear c3; simp only [Option.some.injEq, Prod.mk.injEq] at H; obtain ⟨rfl, rfl, rfl, rfl, rfl, rfl, rfl, rfl, rfl⟩ := H; go_enter Try.func90, Try.ntmps90; go_wp2_with (first | ((with_reducible refine gate_dst (N := 2) rfl ?_); refine box_event ?hg (N := 2) ?hd (cs := #[.int .i64 0, .int .i64 0, .int .i64 0, .int .u64 0, .int .u64 0, .int .i64 0, .int .i64 0]) (t := 82) ?hr ?_; (case hd => rfl); (case hg => rfl); (case hr => first | (go_simp; done) | (go_simp; rfl)); intro gb315 hg w4 hbox hb; have n0_ := aK (below_step (by repeat (first | (with_reducible first | exact HB.out | apply below_alloc | apply pw_below_drewN | apply below_drew1) | exact HB.out)) hb); have n1_ := aK (hbox); have n2_ := aK ((by rw [hg]; exact (below_size (by repeat (first | (with_reducible first | exact HB.out | apply below_alloc | apply pw_below_drewN | apply below_drew1) | exact HB.out))) : w.heap.size ≤ gb315)); have n3_ := aK ((by rw [hg]; exact (below_size (by repeat (first | (with_reducible first | exact HB.out | apply below_alloc | apply pw_below_drewN | apply below_drew1) | exact HB.out))) : w.heap.size ≤ gb315)); clear HB; have HB := n0_; have BK315 := n1_; have GW315 := n2_; have GE315 := n3_; clear n0_ n1_ n2_ n3_; clear hb hbox hg) | ((with_reducible refine gate_callee (f := 91) rfl ?_); refine goesL_ (some 8) rfl rfl Try.func91 (by kernel_rfl) rfl #[.slice A0 l0.length c0] rfl (by (try simp only [List.map_toArray, List.map_cons, List.map_nil]); first | done | rfl | (simp only [List.length_drop, List.length_take]; rfl)) ?_; (with_reducible refine (page_Class.calls k _ _ l0 t316 _ ?side1 ?side2 A2.out).mono ?_); (case side1 => repeat (first | exact (Kd.C_below HR0.out HB.out) | (with_reducible refine Kd.C_alloc ?_ _) | (with_reducible refine Kd.C_drewN ?_ _) | (with_reducible refine Kd.C_drew ?_))); (case side2 => exact HC0.out); rintro e w5 ⟨rfl, hb⟩; refine ⟨_, rfl, ?_⟩; have n0_ := aK (blk_below (g := gb315) (o := .cells #[.int .i64 0, .int .i64 0, .int .i64 0, .int .u64 0, .int .u64 0, .int .i64 0, .int .i64 0] 82 (0, 0)) (by (with_reducible repeat (first | refine blk_drewN ?_ _ | refine blk_drew ?_ | refine blk_alloc ?_ _)); exact BK315.out) hb); have n1_ := aK (below_step (by repeat (first | (with_reducible first | exact HB.out | apply below_alloc | apply pw_below_drewN | apply below_drew1 | refine below_set ?_ GE315.out) | exact HB.out)) hb); clear BK315; clear HB; have BK315 := n0_; have HB := n1_; clear n0_ n1_; (try clear hb); (try clear hb2); (try clear hk); (try clear hi); have hcz6_0 : w5.cell? ⟨gb315, 0, none⟩ = some (.int .i64 0) := (blk_cell BK315.out 0).trans rfl; have hcz6_1 : w5.cell? ⟨gb315, 1, none⟩ = some (.int .i64 0) := (blk_cell BK315.out 1).trans rfl; have hcz6_2 : w5.cell? ⟨gb315, 2, none⟩ = some (.int .i64 0) := (blk_cell BK315.out 2).trans rfl; have hcz6_3 : w5.cell? ⟨gb315, 3, none⟩ = some (.int .u64 0) := (blk_cell BK315.out 3).trans rfl; have hcz6_4 : w5.cell? ⟨gb315, 4, none⟩ = some (.int .u64 0) := (blk_cell BK315.out 4).trans rfl; have hcz6_5 : w5.cell? ⟨gb315, 5, none⟩ = some (.int .i64 0) := (blk_cell BK315.out 5).trans rfl; have hcz6_6 : w5.cell? ⟨gb315, 6, none⟩ = some (.int .i64 0) := (blk_cell BK315.out 6).trans rfl; have hfz6_0 := blk_frozen BK315.out 0; have hfz6_1 := blk_frozen BK315.out 1; have hfz6_2 := blk_frozen BK315.out 2; have hfz6_3 := blk_frozen BK315.out 3; have hfz6_4 := blk_frozen BK315.out 4; have hfz6_5 := blk_frozen BK315.out 5; have hfz6_6 := blk_frozen BK315.out 6)); refine bodyPost_ret (results_ctt rfl _ _ gb315 82 #[.int .i64 0, .int .i64 0, .int .i64 0, .int .u64 0, .int .u64 0, .int .i64 0, .int .i64 0] (0, 0) _ rfl (by (with_reducible repeat (first | refine blk_drewN ?_ _ | refine blk_drew ?_ | refine blk_alloc ?_ _)); refine blk_put (cs := #[.int .i64 0, .int .i64 0, .int .i64 0, .int .u64 0, .int .u64 0, .int .i64 0, .int .i64 0]) ?_ 6 _ rfl; (with_reducible repeat (first | refine blk_drewN ?_ _ | refine blk_drew ?_ | refine blk_alloc ?_ _)); refine blk_put (cs := #[.int .i64 0, .int .i64 0, .int .i64 0, .int .u64 0, .int .u64 0, .int .i64 0, .int .i64 0]) ?_ 5 _ rfl; (with_reducible repeat (first | refine blk_drewN ?_ _ | refine blk_drew ?_ | refine blk_alloc ?_ _)); refine blk_put (cs := #[.int .i64 0, .int .i64 0, .int .i64 0, .int .u64 0, .int .u64 0, .int .i64 0, .int .i64 0]) ?_ 4 _ rfl; (with_reducible repeat (first | refine blk_drewN ?_ _ | refine blk_drew ?_ | refine blk_alloc ?_ _)); refine blk_put (cs := #[.int .i64 0, .int .i64 0, .int .i64 0, .int .u64 0, .int .u64 0, .int .i64 0, .int .i64 0]) ?_ 3 _ rfl; (with_reducible repeat (first | refine blk_drewN ?_ _ | refine blk_drew ?_ | refine blk_alloc ?_ _)); refine blk_put (cs := #[.int .i64 0, .int .i64 0, .int .i64 0, .int .u64 0, .int .u64 0, .int .i64 0, .int .i64 0]) ?_ 2 _ rfl; (with_reducible repeat (first | refine blk_drewN ?_ _ | refine blk_drew ?_ | refine blk_alloc ?_ _)); refine blk_put (cs := #[.int .i64 0, .int .i64 0, .int .i64 0, .int .u64 0, .int .u64 0, .int .i64 0, .int .i64 0]) ?_ 1 _ rfl; (with_reducible repeat (first | refine blk_drewN ?_ _ | refine blk_drew ?_ | refine blk_alloc ?_ _)); refine blk_put (cs := #[.int .i64 0, .int .i64 0, .int .i64 0, .int .u64 0, .int .u64 0, .int .i64 0, .int .i64 0]) ?_ 0 _ rfl; (with_reducible repeat (first | refine blk_drewN ?_ _ | refine blk_drew ?_ | refine blk_alloc ?_ _)); exact BK315.out) Try.underlying82 rfl (by kernel_rfl)) rfl ?_
  exact ⟨by first | rfl | (simp [errW_none, errW_some] <;> rfl) | (simp [*, errW_none, errW_some] <;> rfl), by repeat (first | (with_reducible first | exact HB.out | apply below_alloc | apply pw_below_drewN | apply below_drew1 | refine below_set ?_ GE315.out) | exact HB.out)⟩
 ·
  rw [if_neg c3] at H; have c3b0 : (t316 == 0) = false := beq_eq_false_iff_ne.mpr c3; have c3b1 : (t316 != 0) = true := bne_iff_ne.mpr c3; by_cases c7 : t316 = 2
  ·
   rw [if_pos c7] at H; have c7b0 : (t316 == 2) = true := beq_iff_eq.mpr c7; have c7b1 : (t316 != 2) = false := bne_eq_false_iff_eq.mpr c7; clear c7; simp only [Option.some.injEq, Prod.mk.injEq] at H; obtain ⟨rfl, rfl, rfl, rfl, rfl, rfl, rfl, rfl, rfl⟩ := H; go_enter Try.func90, Try.ntmps90; go_wp2_with (first | ((with_reducible refine gate_dst (N := 2) rfl ?_); refine box_event ?hg (N := 2) ?hd (cs := #[.int .i64 0, .int .i64 0, .int .i64 0, .int .u64 0, .int .u64 0, .int .i64 0, .int .i64 0]) (t := 82) ?hr ?_; (case hd => rfl); (case hg => rfl); (case hr => first | (go_simp; done) | (go_simp; rfl)); intro gb315 hg w8 hbox hb; have n0_ := aK (below_step (by repeat (first | (with_reducible first | exact HB.out | apply below_alloc | apply pw_below_drewN | apply below_drew1) | exact HB.out)) hb); have n1_ := aK (hbox); have n2_ := aK ((by rw [hg]; exact (below_size (by repeat (first | (with_reducible first | exact HB.out | apply below_alloc | apply pw_below_drewN | apply below_drew1) | exact HB.out))) : w.heap.size ≤ gb315)); have n3_ := aK ((by rw [hg]; exact (below_size (by repeat (first | (with_reducible first | exact HB.out | apply below_alloc | apply pw_below_drewN | apply below_drew1) | exact HB.out))) : w.heap.size ≤ gb315)); clear HB; have HB := n0_; have BK315 := n1_; have GW315 := n2_; have GE315 := n3_; clear n0_ n1_ n2_ n3_; clear hb hbox hg) | ((with_reducible refine gate_callee (f := 91) rfl ?_); refine goesL_ (some 8) rfl rfl Try.func91 (by kernel_rfl) rfl #[.slice A0 l0.length c0] rfl (by (try simp only [List.map_toArray, List.map_cons, List.map_nil]); first | done | rfl | (simp only [List.length_drop, List.length_take]; rfl)) ?_; (with_reducible refine (page_Class.calls k _ _ l0 t316 _ ?side1 ?side2 A2.out).mono ?_); (case side1 => repeat (first | exact (Kd.C_below HR0.out HB.out) | (with_reducible refine Kd.C_alloc ?_ _) | (with_reducible refine Kd.C_drewN ?_ _) | (with_reducible refine Kd.C_drew ?_))); (case side2 => exact HC0.out); rintro e w9 ⟨rfl, hb⟩; refine ⟨_, rfl, ?_⟩; have n0_ := aK (blk_below (g := gb315) (o := .cells #[.int .i64 0, .int .i64 0, .int .i64 0, .int .u64 0, .int .u64 0, .int .i64 0, .int .i64 0] 82 (0, 0)) (by (with_reducible repeat (first | refine blk_drewN ?_ _ | refine blk_drew ?_ | refine blk_alloc ?_ _)); exact BK315.out) hb); have n1_ := aK (below_step (by repeat (first | (with_reducible first | exact HB.out | apply below_alloc | apply pw_below_drewN | apply below_drew1 | refine below_set ?_ GE315.out) | exact HB.out)) hb); clear BK315; clear HB; have BK315 := n0_; have HB := n1_; clear n0_ n1_; (try clear hb); (try clear hb2); (try clear hk); (try clear hi); have hcz10_0 : w9.cell? ⟨gb315, 0, none⟩ = some (.int .i64 0) := (blk_cell BK315.out 0).trans rfl; have hcz10_1 : w9.cell? ⟨gb315, 1, none⟩ = some (.int .i64 0) := (blk_cell BK315.out 1).trans rfl; have hcz10_2 : w9.cell? ⟨gb315, 2, none⟩ = some (.int .i64 0) := (blk_cell BK315.out 2).trans rfl; have hcz10_3 : w9.cell? ⟨gb315, 3, none⟩ = some (.int .u64 0) := (blk_cell BK315.out 3).trans rfl; have hcz10_4 : w9.cell? ⟨gb315, 4, none⟩ = some (.int .u64 0) := (blk_cell BK315.out 4).trans rfl; have hcz10_5 : w9.cell? ⟨gb315, 5, none⟩ = some (.int .i64 0) := (blk_cell BK315.out 5).trans rfl; have hcz10_6 : w9.cell? ⟨gb315, 6, none⟩ = some (.int .i64 0) := (blk_cell BK315.out 6).trans rfl; have hfz10_0 := blk_frozen BK315.out 0; have hfz10_1 := blk_frozen BK315.out 1; have hfz10_2 := blk_frozen BK315.out 2; have hfz10_3 := blk_frozen BK315.out 3; have hfz10_4 := blk_frozen BK315.out 4; have hfz10_5 := blk_frozen BK315.out 5; have hfz10_6 := blk_frozen BK315.out 6)); refine bodyPost_ret (results_ctt rfl _ _ gb315 82 #[.int .i64 0, .int .i64 0, .int .i64 0, .int .u64 0, .int .u64 0, .int .i64 0, .int .i64 0] (0, 0) _ rfl (by (with_reducible repeat (first | refine blk_drewN ?_ _ | refine blk_drew ?_ | refine blk_alloc ?_ _)); refine blk_put (cs := #[.int .i64 0, .int .i64 0, .int .i64 0, .int .u64 0, .int .u64 0, .int .i64 0, .int .i64 0]) ?_ 6 _ rfl; (with_reducible repeat (first | refine blk_drewN ?_ _ | refine blk_drew ?_ | refine blk_alloc ?_ _)); refine blk_put (cs := #[.int .i64 0, .int .i64 0, .int .i64 0, .int .u64 0, .int .u64 0, .int .i64 0, .int .i64 0]) ?_ 5 _ rfl; (with_reducible repeat (first | refine blk_drewN ?_ _ | refine blk_drew ?_ | refine blk_alloc ?_ _)); refine blk_put (cs := #[.int .i64 0, .int .i64 0, .int .i64 0, .int .u64 0, .int .u64 0, .int .i64 0, .int .i64 0]) ?_ 4 _ rfl; (with_reducible repeat (first | refine blk_drewN ?_ _ | refine blk_drew ?_ | refine blk_alloc ?_ _)); refine blk_put (cs := #[.int .i64 0, .int .i64 0, .int .i64 0, .int .u64 0, .int .u64 0, .int .i64 0, .int .i64 0]) ?_ 3 _ rfl; (with_reducible repeat (first | refine blk_drewN ?_ _ | refine blk_drew ?_ | refine blk_alloc ?_ _)); refine blk_put (cs := #[.int .i64 0, .int .i64 0, .int .i64 0, .int .u64 0, .int .u64 0, .int .i64 0, .int .i64 0]) ?_ 2 _ rfl; (with_reducible repeat (first | refine blk_drewN ?_ _ | refine blk_drew ?_ | refine blk_alloc ?_ _)); refine blk_put (cs := #[.int .i64 0, .int .i64 0, .int .i64 0, .int .u64 0, .int .u64 0, .int .i64 0, .int .i64 0]) ?_ 1 _ rfl; (with_reducible repeat (first | refine blk_drewN ?_ _ | refine blk_drew ?_ | refine blk_alloc ?_ _)); refine blk_put (cs := #[.int .i64 0, .int .i64 0, .int .i64 0, .int .u64 0, .int .u64 0, .int .i64 0, .int .i64 0]) ?_ 0 _ rfl; (with_reducible repeat (first | refine blk_drewN ?_ _ | refine blk_drew ?_ | refine blk_alloc ?_ _)); exact BK315.out) Try.underlying82 rfl (by kernel_rfl)) rfl ?_
   exact ⟨by first | rfl | (simp [errW_none, errW_some] <;> rfl) | (simp [*, errW_none, errW_some] <;> rfl), by repeat (first | (with_reducible first | exact HB.out | apply below_alloc | apply pw_below_drewN | apply below_drew1 | refine below_set ?_ GE315.out) | exact HB.out)⟩
  ·
   rw [if_neg c7] at H; have c7b0 : (t316 == 2) = false := beq_eq_false_iff_ne.mpr c7; have c7b1 : (t316 != 2) = true := bne_iff_ne.mpr c7; replace H := Option.bind_eq_some_iff.mp H; obtain ⟨⟨t317, t318, t319, t320, t321, t322, t323, t324⟩, A110, H⟩ := H; replace H : (some (t317, t318, t319, t320, t321, t322, t323, t324, 0)) = some (r1, r2, r3, r4, r5, r6, r7, r8, r9) := H; have A11 := aK A110; clear A110; simp only [Option.some.injEq, Prod.mk.injEq] at H; obtain ⟨rfl, rfl, rfl, rfl, rfl, rfl, rfl, rfl, rfl⟩ := H; go_enter Try.func90, Try.ntmps90; go_wp2_with (first | ((with_reducible refine gate_dst (N := 2) rfl ?_); refine box_event ?hg (N := 2) ?hd (cs := #[.int .i64 0, .int .i64 0, .int .i64 0, .int .u64 0, .int .u64 0, .int .i64 0, .int .i64 0]) (t := 82) ?hr ?_; (case hd => rfl); (case hg => rfl); (case hr => first | (go_simp; done) | (go_simp; rfl)); intro gb315 hg w12 hbox hb; have n0_ := aK (below_step (by repeat (first | (with_reducible first | exact HB.out | apply below_alloc | apply pw_below_drewN | apply below_drew1) | exact HB.out)) hb); have n1_ := aK (hbox); have n2_ := aK ((by rw [hg]; exact (below_size (by repeat (first | (with_reducible first | exact HB.out | apply below_alloc | apply pw_below_drewN | apply below_drew1) | exact HB.out))) : w.heap.size ≤ gb315)); have n3_ := aK ((by rw [hg]; exact (below_size (by repeat (first | (with_reducible first | exact HB.out | apply below_alloc | apply pw_below_drewN | apply below_drew1) | exact HB.out))) : w.heap.size ≤ gb315)); clear HB; have HB := n0_; have BK315 := n1_; have GW315 := n2_; have GE315 := n3_; clear n0_ n1_ n2_ n3_; clear hb hbox hg) | ((with_reducible refine gate_callee (f := 91) rfl ?_); refine goesL_ (some 8) rfl rfl Try.func91 (by kernel_rfl) rfl #[.slice A0 l0.length c0] rfl (by (try simp only [List.map_toArray, List.map_cons, List.map_nil]); first | done | rfl | (simp only [List.length_drop, List.length_take]; rfl)) ?_; (with_reducible refine (page_Class.calls k _ _ l0 t316 _ ?side1 ?side2 A2.out).mono ?_); (case side1 => repeat (first | exact (Kd.C_below HR0.out HB.out) | (with_reducible refine Kd.C_alloc ?_ _) | (with_reducible refine Kd.C_drewN ?_ _) | (with_reducible refine Kd.C_drew ?_))); (case side2 => exact HC0.out); rintro e w13 ⟨rfl, hb⟩; refine ⟨_, rfl, ?_⟩; have n0_ := aK (blk_below (g := gb315) (o := .cells #[.int .i64 0, .int .i64 0, .int .i64 0, .int .u64 0, .int .u64 0, .int .i64 0, .int .i64 0] 82 (0, 0)) (by (with_reducible repeat (first | refine blk_drewN ?_ _ | refine blk_drew ?_ | refine blk_alloc ?_ _)); exact BK315.out) hb); have n1_ := aK (below_step (by repeat (first | (with_reducible first | exact HB.out | apply below_alloc | apply pw_below_drewN | apply below_drew1 | refine below_set ?_ GE315.out) | exact HB.out)) hb); clear BK315; clear HB; have BK315 := n0_; have HB := n1_; clear n0_ n1_; (try clear hb); (try clear hb2); (try clear hk); (try clear hi)) | ((with_reducible refine gate_callee (f := 112) rfl ?_); refine goesL_ (some 17) rfl rfl Try.func112 (by kernel_rfl) rfl #[.slice A0 l0.length c0] rfl (by (try simp only [List.map_toArray, List.map_cons, List.map_nil]); first | done | rfl | (simp only [List.length_drop, List.length_take]; rfl)) ?_; (with_reducible refine (page_read.calls _ _ l0 t317 t318 t319 t320 t321 t322 t323 t324 _ ?side1 ?side2 A11.out).mono ?_); (case side1 => repeat (first | exact (Kd.C_below HR0.out HB.out) | (with_reducible refine Kd.C_alloc ?_ _) | (with_reducible refine Kd.C_drewN ?_ _) | (with_reducible refine Kd.C_drew ?_))); (case side2 => exact HC0.out); rintro e w14 ⟨rfl, hb⟩; refine ⟨_, rfl, ?_⟩; have n0_ := aK (blk_below (g := gb315) (o := .cells #[.int .i64 0, .int .i64 0, .int .i64 0, .int .u64 0, .int .u64 0, .int .i64 0, .int .i64 0] 82 (0, 0)) (by (with_reducible repeat (first | refine blk_drewN ?_ _ | refine blk_drew ?_ | refine blk_alloc ?_ _)); exact BK315.out) hb); have n1_ := aK (below_step (by repeat (first | (with_reducible first | exact HB.out | apply below_alloc | apply pw_below_drewN | apply below_drew1 | refine below_set ?_ GE315.out) | exact HB.out)) hb); clear BK315; clear HB; have BK315 := n0_; have HB := n1_; clear n0_ n1_; (try clear hb); (try clear hb2); (try clear hk); (try clear hi)) | ((with_reducible refine gate_dst (N := 5) rfl ?_); refine box_event ?hg (N := 5) ?hd (cs := #[.int .i64 0, .int .i64 0, .int .i64 0, .int .u64 0, .int .u64 0, .int .i64 0, .int .i64 0]) (t := 82) ?hr ?_; (case hd => rfl); (case hg => rfl); (case hr => first | (go_simp; done) | (go_simp; rfl)); intro gb325 hg w15 hbox hb; have n0_ := aK (blk_below (g := gb315) (o := .cells #[.int .i64 0, .int .i64 0, .int .i64 0, .int .u64 0, .int .u64 0, .int .i64 0, .int .i64 0] 82 (0, 0)) (by (with_reducible repeat (first | refine blk_drewN ?_ _ | refine blk_drew ?_ | refine blk_alloc ?_ _)); exact BK315.out) hb); have n1_ := aK (below_step (by repeat (first | (with_reducible first | exact HB.out | apply below_alloc | apply pw_below_drewN | apply below_drew1 | refine below_set ?_ GE315.out) | exact HB.out)) hb); have n2_ := aK (hbox); have n3_ := aK ((by rw [hg]; exact (below_size (by repeat (first | (with_reducible first | exact HB.out | apply below_alloc | apply pw_below_drewN | apply below_drew1 | refine below_set ?_ GE315.out) | exact HB.out))) : w.heap.size ≤ gb325)); have n4_ := aK ((by rw [hg]; exact (below_size (by repeat (first | (with_reducible first | exact HB.out | apply below_alloc | apply pw_below_drewN | apply below_drew1 | refine below_set ?_ GE315.out) | exact HB.out))) : w.heap.size ≤ gb325)); have n5_ := aK ((by rw [hg]; exact Nat.ne_of_lt (blk_lt (g := gb315) (o := .cells #[.int .i64 0, .int .i64 0, .int .i64 0, .int .u64 0, .int .u64 0, .int .i64 0, .int .i64 0] 82 (0, 0)) (by (with_reducible repeat (first | refine blk_drewN ?_ _ | refine blk_drew ?_ | refine blk_alloc ?_ _)); exact BK315.out)) : gb315 ≠ gb325)); have n6_ := aK ((by rw [hg]; exact Nat.ne_of_gt (blk_lt (g := gb315) (o := .cells #[.int .i64 0, .int .i64 0, .int .i64 0, .int .u64 0, .int .u64 0, .int .i64 0, .int .i64 0] 82 (0, 0)) (by (with_reducible repeat (first | refine blk_drewN ?_ _ | refine blk_drew ?_ | refine blk_alloc ?_ _)); exact BK315.out)) : gb325 ≠ gb315)); clear BK315; clear HB; have BK315 := n0_; have HB := n1_; have BK325 := n2_; have GW325 := n3_; have GE325 := n4_; have NB315_325 := n5_; have NB325_315 := n6_; clear n0_ n1_ n2_ n3_ n4_ n5_ n6_; clear hb hbox hg; have hnb16 := NB325_315.out; have hnc16 := NB315_325.out; have hcz17_0 : w15.cell? ⟨gb325, 0, none⟩ = some (.int .i64 0) := (blk_cell BK325.out 0).trans rfl; have hcz17_1 : w15.cell? ⟨gb325, 1, none⟩ = some (.int .i64 0) := (blk_cell BK325.out 1).trans rfl; have hcz17_2 : w15.cell? ⟨gb325, 2, none⟩ = some (.int .i64 0) := (blk_cell BK325.out 2).trans rfl; have hcz17_3 : w15.cell? ⟨gb325, 3, none⟩ = some (.int .u64 0) := (blk_cell BK325.out 3).trans rfl; have hcz17_4 : w15.cell? ⟨gb325, 4, none⟩ = some (.int .u64 0) := (blk_cell BK325.out 4).trans rfl; have hcz17_5 : w15.cell? ⟨gb325, 5, none⟩ = some (.int .i64 0) := (blk_cell BK325.out 5).trans rfl; have hcz17_6 : w15.cell? ⟨gb325, 6, none⟩ = some (.int .i64 0) := (blk_cell BK325.out 6).trans rfl; have hfz17_0 := blk_frozen BK325.out 0; have hfz17_1 := blk_frozen BK325.out 1; have hfz17_2 := blk_frozen BK325.out 2; have hfz17_3 := blk_frozen BK325.out 3; have hfz17_4 := blk_frozen BK325.out 4; have hfz17_5 := blk_frozen BK325.out 5; have hfz17_6 := blk_frozen BK325.out 6; have hcz18_0 : w15.cell? ⟨gb315, 0, none⟩ = some (.int .i64 0) := (blk_cell BK315.out 0).trans rfl; have hcz18_1 : w15.cell? ⟨gb315, 1, none⟩ = some (.int .i64 0) := (blk_cell BK315.out 1).trans rfl; have hcz18_2 : w15.cell? ⟨gb315, 2, none⟩ = some (.int .i64 0) := (blk_cell BK315.out 2).trans rfl; have hcz18_3 : w15.cell? ⟨gb315, 3, none⟩ = some (.int .u64 0) := (blk_cell BK315.out 3).trans rfl; have hcz18_4 : w15.cell? ⟨gb315, 4, none⟩ = some (.int .u64 0) := (blk_cell BK315.out 4).trans rfl; have hcz18_5 : w15.cell? ⟨gb315, 5, none⟩ = some (.int .i64 0) := (blk_cell BK315.out 5).trans rfl; have hcz18_6 : w15.cell? ⟨gb315, 6, none⟩ = some (.int .i64 0) := (blk_cell BK315.out 6).trans rfl; have hfz18_0 := blk_frozen BK315.out 0; have hfz18_1 := blk_frozen BK315.out 1; have hfz18_2 := blk_frozen BK315.out 2; have hfz18_3 := blk_frozen BK315.out 3; have hfz18_4 := blk_frozen BK315.out 4; have hfz18_5 := blk_frozen BK315.out 5; have hfz18_6 := blk_frozen BK315.out 6))
   refine bodyPost_ret (results_ctt rfl _ _ gb315 82 #[.int .i64 t317, .int .i64 t318, .int .i64 t319, .int .u64 t320, .int .u64 t321, .int .i64 t322, .int .i64 t323] (0, 0) _ rfl (by (with_reducible repeat (first | refine blk_drewN ?_ _ | refine blk_drew ?_ | refine blk_alloc ?_ _)); refine blk_put (cs := #[.int .i64 t317, .int .i64 t318, .int .i64 t319, .int .u64 t320, .int .u64 t321, .int .i64 t322, .int .i64 0]) ?_ 6 _ rfl; (with_reducible repeat (first | refine blk_drewN ?_ _ | refine blk_drew ?_ | refine blk_alloc ?_ _)); refine blk_put (cs := #[.int .i64 t317, .int .i64 t318, .int .i64 t319, .int .u64 t320, .int .u64 t321, .int .i64 0, .int .i64 0]) ?_ 5 _ rfl; (with_reducible repeat (first | refine blk_drewN ?_ _ | refine blk_drew ?_ | refine blk_alloc ?_ _)); refine blk_put (cs := #[.int .i64 t317, .int .i64 t318, .int .i64 t319, .int .u64 t320, .int .u64 0, .int .i64 0, .int .i64 0]) ?_ 4 _ rfl; (with_reducible repeat (first | refine blk_drewN ?_ _ | refine blk_drew ?_ | refine blk_alloc ?_ _)); refine blk_put (cs := #[.int .i64 t317, .int .i64 t318, .int .i64 t319, .int .u64 0, .int .u64 0, .int .i64 0, .int .i64 0]) ?_ 3 _ rfl; (with_reducible repeat (first | refine blk_drewN ?_ _ | refine blk_drew ?_ | refine blk_alloc ?_ _)); refine blk_put (cs := #[.int .i64 t317, .int .i64 t318, .int .i64 0, .int .u64 0, .int .u64 0, .int .i64 0, .int .i64 0]) ?_ 2 _ rfl; (with_reducible repeat (first | refine blk_drewN ?_ _ | refine blk_drew ?_ | refine blk_alloc ?_ _)); refine blk_put (cs := #[.int .i64 t317, .int .i64 0, .int .i64 0, .int .u64 0, .int .u64 0, .int .i64 0, .int .i64 0]) ?_ 1 _ rfl; (with_reducible repeat (first | refine blk_drewN ?_ _ | refine blk_drew ?_ | refine blk_alloc ?_ _)); refine blk_put (cs := #[.int .i64 0, .int .i64 0, .int .i64 0, .int .u64 0, .int .u64 0, .int .i64 0, .int .i64 0]) ?_ 0 _ rfl; (with_reducible repeat (first | refine blk_drewN ?_ _ | refine blk_drew ?_ | refine blk_alloc ?_ _)); refine blk_far ?_ NB315_325.out _; (with_reducible repeat (first | refine blk_drewN ?_ _ | refine blk_drew ?_ | refine blk_alloc ?_ _)); refine blk_far ?_ NB315_325.out _; (with_reducible repeat (first | refine blk_drewN ?_ _ | refine blk_drew ?_ | refine blk_alloc ?_ _)); refine blk_far ?_ NB315_325.out _; (with_reducible repeat (first | refine blk_drewN ?_ _ | refine blk_drew ?_ | refine blk_alloc ?_ _)); refine blk_far ?_ NB315_325.out _; (with_reducible repeat (first | refine blk_drewN ?_ _ | refine blk_drew ?_ | refine blk_alloc ?_ _)); refine blk_far ?_ NB315_325.out _; (with_reducible repeat (first | refine blk_drewN ?_ _ | refine blk_drew ?_ | refine blk_alloc ?_ _)); refine blk_far ?_ NB315_325.out _; (with_reducible repeat (first | refine blk_drewN ?_ _ | refine blk_drew ?_ | refine blk_alloc ?_ _)); refine blk_far ?_ NB315_325.out _; (with_reducible repeat (first | refine blk_drewN ?_ _ | refine blk_drew ?_ | refine blk_alloc ?_ _)); exact BK315.out) Try.underlying82 rfl (by kernel_rfl)) rfl ?_; exact ⟨by first | rfl | (simp [errW_none, errW_some] <;> rfl) | (simp [*, errW_none, errW_some] <;> rfl), by repeat (first | (with_reducible first | exact HB.out | apply below_alloc | apply pw_below_drewN | apply below_drew1 | refine below_set ?_ GE315.out | refine below_set ?_ GE325.out) | exact HB.out)⟩
def wagtailref01_Ints.l0 : Nat → List Int → List Int → Int → Option (Bool)
 | 0, _, _, _ => none
 | k + 1, x0, x1, x5 => if x5 < (x0.length : Int) then (if 0 ≤ x5 then (if x5 < (x1.length : Int) then (if (rd x0 x5) = (rd x1 x5) then (wagtailref01_Ints.l0 k x0 x1 (wrap64 (x5 + 1))) else (some false)) else (none)) else (none)) else (some true)
def wagtailref01_Ints.f (k : Nat) (l0 : List Int) (l1 : List Int) : Option (Bool) := if (l0.length : Int) = (l1.length : Int) then (wagtailref01_Ints.l0 k l0 l1 0) else (some false)
theorem wagtailref01_Ints.mono_l : ∀ k, (∀ y0 y1 y2, LeO (wagtailref01_Ints.l0 k y0 y1 y2) (wagtailref01_Ints.l0 (k + 1) y0 y1 y2))
 | 0 => fun _ _ _ r h => by simp [wagtailref01_Ints.l0] at h
 | k + 1 => by
  have ih0 := wagtailref01_Ints.mono_l k
  ·
   intro y0 y1 y2; unfold wagtailref01_Ints.l0
   repeat' first
   | (with_reducible exact ih0 _ _ _)
   | (with_reducible exact LeO.refl _)
   | (with_reducible exact LeO.none _)
   | (with_reducible refine LeO.ite ?_ ?_)
   | (with_reducible refine LeO.bind ?_ (fun _ => ?_))
   | exact ih0 _ _ _
   | exact LeO.none _
   | refine LeO.ite ?_ ?_
   | refine LeO.bind ?_ (fun _ => ?_)
theorem wagtailref01_Ints.mono : ∀ a0 a1 k, LeO (wagtailref01_Ints.f k a0 a1) (wagtailref01_Ints.f (k + 1) a0 a1) := by
 intro a0 a1 k; have ih0 := wagtailref01_Ints.mono_l k; unfold wagtailref01_Ints.f
 repeat' first
   | (with_reducible exact ih0 _ _ _)
   | (with_reducible exact LeO.refl _)
   | (with_reducible exact LeO.none _)
   | (with_reducible refine LeO.ite ?_ ?_)
   | (with_reducible refine LeO.bind ?_ (fun _ => ?_))
   | exact ih0 _ _ _
   | exact LeO.none _
   | refine LeO.ite ?_ ?_
   | refine LeO.bind ?_ (fun _ => ?_)
set_option maxHeartbeats 8000000 in
set_option maxRecDepth 100000 in
theorem wagtailref01_Ints.calls (k : Nat) (A0 : Option Addr) (c0 : Nat) (l0 : List Int) (A1 : Option Addr) (c1 : Nat) (l1 : List Int) (r : Bool) (w : World) (hr0 : Kd.C (Kd.int .i64) w A0 l0.length l0) (hc0 : l0.length ≤ c0) (hr1 : Kd.C (Kd.int .i64) w A1 l1.length l1) (hc1 : l1.length ≤ c1) (h : wagtailref01_Ints.f k l0 l1 = some r) :
  Calls Try.prog 57 #[.slice A0 l0.length c0, .slice A1 l1.length c1] w fun e w' => e = .returned (.bool r) ∧ Drawn0 w w' := by
 have HR0 := aK hr0; have HC0 := aK hc0; clear hr0 hc0; have HR1 := aK hr1; have HC1 := aK hc1; clear hr1 hc1; have H : (if (l0.length : Int) = (l1.length : Int) then (wagtailref01_Ints.l0 k l0 l1 0) else (some false)) = some r := h; clear h; by_cases c3 : (l0.length : Int) = (l1.length : Int)
 ·
  rw [if_pos c3] at H; have c3b0 : ((l0.length : Int) == (l1.length : Int)) = true := beq_iff_eq.mpr c3; have c3b1 : ((l0.length : Int) != (l1.length : Int)) = false := bne_eq_false_iff_eq.mpr c3; have c3b2 : (l0.length == l1.length) = true := by first | simpa using c3 | (simp at c3 ⊢; omega)
  clear c3; have H' := aK H; clear H; go_enter Try.func57, Try.ntmps57
  go_wp2
  repeat (go_quiet (fail); try go_wp2)
  go_loopg [5] k (fun kq v5 w' => ∃ (x5_1 : Int), v5 = .int .i64 x5_1 ∧ Aside0 (wagtailref01_Ints.l0 kq l0 l1 x5_1 = some r) ∧ Aside0 (kq ≤ k) ∧ Drawn0 w w')
  case atStart => exact ⟨(0), (by first | rfl | (simp; done) | (simp [*]; done)), H', ⟨Nat.le_refl _⟩, by repeat (first | exact Drawn0.refl _ | apply Drawn0.step)⟩
  case round =>
   clear H'
   try clear c1
   try clear p2
   try clear c3
   try clear c3b0
   try clear c3b1
   try clear c3b2
   obtain ⟨x5_1, rfl, HA, HK1, ⟨m1, rfl⟩⟩ := hrel
   cases gk with
   | zero => exact absurd HA.out (by simp [wagtailref01_Ints.l0])
   | succ k1 =>
    have H := HA.out; clear HA; simp only [wagtailref01_Ints.l0] at H; by_cases c4 : x5_1 < (l0.length : Int)
    ·
     rw [if_pos c4] at H; have c4b0 : decide (x5_1 < (l0.length : Int)) = true := decide_eq_true c4; clear c4; by_cases c5 : 0 ≤ x5_1
     ·
      rw [if_pos c5] at H; have c5b0 : decide (0 ≤ x5_1) = true := decide_eq_true c5; clear c5; by_cases c6 : x5_1 < (l1.length : Int)
      ·
       rw [if_pos c6] at H; have c6b0 : decide (x5_1 < (l1.length : Int)) = true := decide_eq_true c6; clear c6; by_cases c7 : (rd l0 x5_1) = (rd l1 x5_1)
       ·
        rw [if_pos c7] at H; have c7b0 : ((rd l0 x5_1) == (rd l1 x5_1)) = true := beq_iff_eq.mpr c7; have c7b1 : ((rd l0 x5_1) != (rd l1 x5_1)) = false := bne_eq_false_iff_eq.mpr c7; clear c7; have H' := aK H; clear H; have p328 : 0 ≤ (x5_1 : Int) := of_decide_eq_true (by first | (with_reducible assumption) | assumption); have q328 : x5_1 < (l0.length : Int) := of_decide_eq_true (by first | (with_reducible assumption) | assumption); obtain ⟨ad328, e328, hx328_0⟩ := Kd.at_int HR0.out x5_1 p328 q328
        cases e328
        replace p328 := eq_true p328; replace q328 := eq_true q328; have p329 : 0 ≤ (x5_1 : Int) := of_decide_eq_true (by first | (with_reducible assumption) | assumption); have q329 : x5_1 < (l1.length : Int) := of_decide_eq_true (by first | (with_reducible assumption) | assumption); obtain ⟨ad329, e329, hx329_0⟩ := Kd.at_int HR1.out x5_1 p329 q329
        cases e329
        replace p329 := eq_true p329; replace q329 := eq_true q329
        go_wp2
        repeat (go_quiet (fail); try go_wp2)
        go_roundg k1
        case measure => have := HK1.out; omega
        case rel => exact ⟨(wrap64 (x5_1 + 1)), (by first | rfl | (simp; done) | (simp [*]; done)), H', ⟨by have := HK1.out; omega⟩, by repeat (first | exact Drawn0.refl _ | apply Drawn0.step)⟩
       ·
        rw [if_neg c7] at H; have c7b0 : ((rd l0 x5_1) == (rd l1 x5_1)) = false := beq_eq_false_iff_ne.mpr c7; have c7b1 : ((rd l0 x5_1) != (rd l1 x5_1)) = true := bne_iff_ne.mpr c7; obtain rfl := Option.some.inj H; have p328 : 0 ≤ (x5_1 : Int) := of_decide_eq_true (by first | (with_reducible assumption) | assumption); have q328 : x5_1 < (l0.length : Int) := of_decide_eq_true (by first | (with_reducible assumption) | assumption); obtain ⟨ad328, e328, hx328_0⟩ := Kd.at_int HR0.out x5_1 p328 q328
        cases e328
        replace p328 := eq_true p328; replace q328 := eq_true q328; have p329 : 0 ≤ (x5_1 : Int) := of_decide_eq_true (by first | (with_reducible assumption) | assumption); have q329 : x5_1 < (l1.length : Int) := of_decide_eq_true (by first | (with_reducible assumption) | assumption); obtain ⟨ad329, e329, hx329_0⟩ := Kd.at_int HR1.out x5_1 p329 q329
        cases e329
        replace p329 := eq_true p329; replace q329 := eq_true q329
        go_wp2
        repeat (go_quiet (fail); try go_wp2)
        go_ret; exact ⟨by first | rfl | (simp; done) | (simp [*]; done), by repeat (first | exact Drawn0.refl _ | apply Drawn0.step)⟩
      ·
       rw [if_neg c6] at H; exact absurd H (by simp)
     ·
      rw [if_neg c5] at H; exact absurd H (by simp)
    ·
     rw [if_neg c4] at H; have c4b0 : decide (x5_1 < (l0.length : Int)) = false := decide_eq_false c4; clear c4; obtain rfl := Option.some.inj H
     go_wp2
     repeat (go_quiet (fail); try go_wp2)
     go_ret; exact ⟨by first | rfl | (simp; done) | (simp [*]; done), by repeat (first | exact Drawn0.refl _ | apply Drawn0.step)⟩
 ·
  rw [if_neg c3] at H; have c3b0 : ((l0.length : Int) == (l1.length : Int)) = false := beq_eq_false_iff_ne.mpr c3; have c3b1 : ((l0.length : Int) != (l1.length : Int)) = true := bne_iff_ne.mpr c3; have c3b2 : (l0.length == l1.length) = false := by first | simpa using c3 | (simp at c3 ⊢; omega)
  obtain rfl := Option.some.inj H; go_enter Try.func57, Try.ntmps57
  go_wp2
  repeat (go_quiet (fail); try go_wp2)
  go_ret; exact ⟨by first | rfl | (simp; done) | (simp [*]; done), by repeat (first | exact Drawn0.refl _ | apply Drawn0.step)⟩
end Go.Proofs.Ytnchdmidaigheaa.Hp
namespace Go.Proofs.Ytnchdmidaigheaa.Hp
open Go.RowKit Go.Proofs.YtnchdmidaigheaaW.PrintWords Go.Proofs.YtnchdmidaigheaaW.PrintLast Go.Proofs.YtnchdmidaigheaaW.PrintMore
attribute [local go_sem] max2_int min2_int max_two min_two max_three min_three max_four min_four   -- for this text's walks alone
set_option linter.unusedVariables false
set_option linter.unusedSimpArgs false
def wagtailref02_Ones.l0 : Nat → Int → List Int → Int → Option (List Int)
 | 0, _, _, _ => none
 | k + 1, x0, x3, x4 => if x4 < x0 then (if x3.length < 140737488355328 then (wagtailref02_Ones.l0 k x0 (x3 ++ [255]) (wrap64 (x4 + 1))) else (none)) else (some x3)
def wagtailref02_Ones.f (k : Nat) (a0 : Int) : Option (List Int) := wagtailref02_Ones.l0 k a0 ([] : List Int) 0
theorem wagtailref02_Ones.mono_l : ∀ k, (∀ y0 y1 y2, LeO (wagtailref02_Ones.l0 k y0 y1 y2) (wagtailref02_Ones.l0 (k + 1) y0 y1 y2))
 | 0 => fun _ _ _ r h => by simp [wagtailref02_Ones.l0] at h
 | k + 1 => by
  have ih0 := wagtailref02_Ones.mono_l k
  ·
   intro y0 y1 y2; unfold wagtailref02_Ones.l0
   repeat' first
   | (with_reducible exact ih0 _ _ _)
   | (with_reducible exact LeO.refl _)
   | (with_reducible exact LeO.none _)
   | (with_reducible refine LeO.ite ?_ ?_)
   | (with_reducible refine LeO.bind ?_ (fun _ => ?_))
   | exact ih0 _ _ _
   | exact LeO.none _
   | refine LeO.ite ?_ ?_
   | refine LeO.bind ?_ (fun _ => ?_)
theorem wagtailref02_Ones.mono : ∀ a0 k, LeO (wagtailref02_Ones.f k a0) (wagtailref02_Ones.f (k + 1) a0) := by
 intro a0 k; have ih0 := wagtailref02_Ones.mono_l k; unfold wagtailref02_Ones.f
 repeat' first
   | (with_reducible exact ih0 _ _ _)
   | (with_reducible exact LeO.refl _)
   | (with_reducible exact LeO.none _)
   | (with_reducible refine LeO.ite ?_ ?_)
   | (with_reducible refine LeO.bind ?_ (fun _ => ?_))
   | exact ih0 _ _ _
   | exact LeO.none _
   | refine LeO.ite ?_ ?_
   | refine LeO.bind ?_ (fun _ => ?_)
set_option maxHeartbeats 8000000 in
set_option maxRecDepth 100000 in
theorem wagtailref02_Ones.calls (k : Nat) (a0 : Int) (r : List Int) (w : World) (h : wagtailref02_Ones.f k a0 = some r) :
  Calls Try.prog 73 #[.int .i64 a0] w fun e w' => ∃ v0_ : Value, e = .returned (v0_) ∧ Kd.R (Kd.int .u8) 5 w' w.heap.size (fun _ => True) v0_ r ∧ Below w.heap.size w w' := by
 have HB := aK (Below.refl w.heap.size w); have H : (wagtailref02_Ones.l0 k a0 ([] : List Int) 0) = some r := h; clear h; have H' := aK H; clear H; go_enter Try.func73, Try.ntmps73
 go_wp2
 go_loopg [3, 4] k (fun kq v3 v4 w' => ∃ (x3_1 : List Int) (x4_1 : Int), v4 = .int .i64 x4_1 ∧ Aside0 (wagtailref02_Ones.l0 kq a0 x3_1 x4_1 = some r) ∧ Aside0 (kq ≤ k) ∧ Aside0 (Kd.R (Kd.int .u8) 5 w' w.heap.size (fun _ => True) v3 x3_1) ∧ Aside0 (Below w.heap.size w w'))
 case atStart => exact ⟨(([] : List Int)), (0), (by first | rfl | (simp; done) | (simp [*]; done)), H', ⟨Nat.le_refl _⟩, ⟨by first | exact Kd.R_nil _ _ _ _ _ | exact Kd.N_nil _ _ _ _ _ | exact Kd.V_nil _ _ _ _ _ | exact Kd.Q_nil _ _ _ _ _ | exact Kd.S_nil _ _ _ _ _⟩, ⟨by repeat (first | (with_reducible first | exact HB.out | apply below_alloc | apply pw_below_drewN | apply below_drew1) | exact HB.out)⟩⟩
 case round =>
  clear H'; obtain ⟨x3_1, x4_1, rfl, HA, HK1, HO_3, HB⟩ := hrel
  cases gk with
  | zero => exact absurd HA.out (by simp [wagtailref02_Ones.l0])
  | succ k1 =>
   have H := HA.out; clear HA; simp only [wagtailref02_Ones.l0] at H; by_cases c2 : x4_1 < a0
   ·
    rw [if_pos c2] at H; have c2b0 : decide (x4_1 < a0) = true := decide_eq_true c2; clear c2; by_cases c3 : x3_1.length < 140737488355328
    ·
     rw [if_pos c3] at H; have LMc3 := aK c3; clear c3; obtain ⟨y134, hy134⟩ : ∃ y_ : List Int, y_ = (x3_1 ++ [255]) := ⟨_, rfl⟩; replace H : (wagtailref02_Ones.l0 k1 a0 y134 (wrap64 (x4_1 + 1))) = some r := by first | (rw [hy134]; with_reducible exact H) | (have H2_ := (Option.bind_some _ _).symm.trans H; rw [hy134]; with_reducible exact H2_) | (have H2_ := (Option.bind_some _ _).symm.trans H; with_reducible exact H2_) | with_reducible exact H | (rw [hy134]; exact H) | exact H
     have Ny134 := aK hy134; clear hy134; have H' := aK H; clear H; go_wp2_with (first | ((with_reducible refine gate_builtin (b := .append) (xs := #[.tmp 10, .tmp 11]) rfl ?_); at_builtin; refine Kd.R_append (Kd.int .u8) (w0 := w) w.heap.size rfl (.tmp 10) (.tmp 11) 38 5 (.int .u8 0) 1 rfl Try.underlying38 info5 rfl (by decide) (by omega) u3 x3_1 255 [.int .u8 255] (fun _ => True) (fun _ => False) rfl rfl ?aP (fun _ hk => hk.elim) ?aF ?aO ?aB ?aS ?aL ?_; (case aP => exact rfl); (case aB => exact (by repeat (first | (with_reducible first | exact HB.out | apply below_alloc | apply pw_below_drewN | apply below_drew1) | exact HB.out))); (case aF => exact (fun _ _ => trivial)); (case aO => exact (by (with_reducible repeat (first | apply Kd.R_alloc | apply Kd.R_drewN | apply Kd.R_drew)); exact HO_3.out)); (case aS => exact (below_size (by repeat (first | (with_reducible first | exact HB.out | apply below_alloc | apply pw_below_drewN | apply below_drew1) | exact HB.out)))); (case aL => have := LMc3.out; omega); intro v135 w4 ho hb hg hat; rw [← Ny134.out] at ho; have n0_ := aK (hb); have n1_ := aK (ho); clear HB; clear HO_3; have HB := n0_; have HO136 := n1_; clear n0_ n1_; clear ho hb hg hat)); go_roundg k1
     case measure => have := HK1.out; omega
     case rel => exact ⟨(y134), (wrap64 (x4_1 + 1)), (by first | rfl | (simp; done) | (simp [*]; done)), H', ⟨by have := HK1.out; omega⟩, ⟨by (with_reducible repeat (first | apply Kd.R_alloc | apply Kd.R_drewN | apply Kd.R_drew)); exact HO136.out⟩, ⟨by repeat (first | (with_reducible first | exact HB.out | apply below_alloc | apply pw_below_drewN | apply below_drew1) | exact HB.out)⟩⟩
    ·
     rw [if_neg c3] at H; exact absurd H (by simp)
   ·
    rw [if_neg c2] at H; have c2b0 : decide (x4_1 < a0) = false := decide_eq_false c2; clear c2; obtain rfl := Option.some.inj H
    go_wp2
    go_ret; exact ⟨_, by first | rfl | (simp [errW_none, errW_some] <;> rfl) | (simp [*, errW_none, errW_some] <;> rfl), by (with_reducible repeat (first | apply Kd.R_alloc | apply Kd.R_drewN | apply Kd.R_drew)); exact HO_3.out, by repeat (first | (with_reducible first | exact HB.out | apply below_alloc | apply pw_below_drewN | apply below_drew1) | exact HB.out)⟩
def wagtailref13_Has.l0 : Nat → List Int → Int → Int → Option (Bool)
 | 0, _, _, _ => none
 | k + 1, x0, x1, x5 => if x5 < (x0.length : Int) then (if 0 ≤ x5 then (if (rd x0 x5) = x1 then (some true) else (wagtailref13_Has.l0 k x0 x1 (wrap64 (x5 + 1)))) else (none)) else (some false)
def wagtailref13_Has.f (k : Nat) (l0 : List Int) (a1 : Int) : Option (Bool) := wagtailref13_Has.l0 k l0 a1 0
theorem wagtailref13_Has.mono_l : ∀ k, (∀ y0 y1 y2, LeO (wagtailref13_Has.l0 k y0 y1 y2) (wagtailref13_Has.l0 (k + 1) y0 y1 y2))
 | 0 => fun _ _ _ r h => by simp [wagtailref13_Has.l0] at h
 | k + 1 => by
  have ih0 := wagtailref13_Has.mono_l k
  ·
   intro y0 y1 y2; unfold wagtailref13_Has.l0
   repeat' first
   | (with_reducible exact ih0 _ _ _)
   | (with_reducible exact LeO.refl _)
   | (with_reducible exact LeO.none _)
   | (with_reducible refine LeO.ite ?_ ?_)
   | (with_reducible refine LeO.bind ?_ (fun _ => ?_))
   | exact ih0 _ _ _
   | exact LeO.none _
   | refine LeO.ite ?_ ?_
   | refine LeO.bind ?_ (fun _ => ?_)
theorem wagtailref13_Has.mono : ∀ a0 a1 k, LeO (wagtailref13_Has.f k a0 a1) (wagtailref13_Has.f (k + 1) a0 a1) := by
 intro a0 a1 k; have ih0 := wagtailref13_Has.mono_l k; unfold wagtailref13_Has.f
 repeat' first
   | (with_reducible exact ih0 _ _ _)
   | (with_reducible exact LeO.refl _)
   | (with_reducible exact LeO.none _)
   | (with_reducible refine LeO.ite ?_ ?_)
   | (with_reducible refine LeO.bind ?_ (fun _ => ?_))
   | exact ih0 _ _ _
   | exact LeO.none _
   | refine LeO.ite ?_ ?_
   | refine LeO.bind ?_ (fun _ => ?_)
set_option maxHeartbeats 8000000 in
set_option maxRecDepth 100000 in
theorem wagtailref13_Has.calls (k : Nat) (A0 : Option Addr) (c0 : Nat) (l0 : List Int) (a1 : Int) (r : Bool) (w : World) (hr0 : Kd.C (Kd.int .i64) w A0 l0.length l0) (hc0 : l0.length ≤ c0) (h : wagtailref13_Has.f k l0 a1 = some r) :
  Calls Try.prog 44 #[.slice A0 l0.length c0, .int .i64 a1] w fun e w' => e = .returned (.bool r) ∧ Drawn0 w w' := by
 have HR0 := aK hr0; have HC0 := aK hc0; clear hr0 hc0; have H : (wagtailref13_Has.l0 k l0 a1 0) = some r := h; clear h; have H' := aK H; clear H; go_enter Try.func44, Try.ntmps44
 go_wp2
 go_loopg [5] k (fun kq v5 w' => ∃ (x5_1 : Int), v5 = .int .i64 x5_1 ∧ Aside0 (wagtailref13_Has.l0 kq l0 a1 x5_1 = some r) ∧ Aside0 (kq ≤ k) ∧ Drawn0 w w')
 case atStart => exact ⟨(0), (by first | rfl | (simp; done) | (simp [*]; done)), H', ⟨Nat.le_refl _⟩, by repeat (first | exact Drawn0.refl _ | apply Drawn0.step)⟩
 case round =>
  clear H'
  try clear p2
  obtain ⟨x5_1, rfl, HA, HK1, ⟨m1, rfl⟩⟩ := hrel
  cases gk with
  | zero => exact absurd HA.out (by simp [wagtailref13_Has.l0])
  | succ k1 =>
   have H := HA.out; clear HA; simp only [wagtailref13_Has.l0] at H; by_cases c3 : x5_1 < (l0.length : Int)
   ·
    rw [if_pos c3] at H; have c3b0 : decide (x5_1 < (l0.length : Int)) = true := decide_eq_true c3; clear c3; by_cases c4 : 0 ≤ x5_1
    ·
     rw [if_pos c4] at H; have c4b0 : decide (0 ≤ x5_1) = true := decide_eq_true c4; clear c4; by_cases c5 : (rd l0 x5_1) = a1
     ·
      rw [if_pos c5] at H; have c5b0 : ((rd l0 x5_1) == a1) = true := beq_iff_eq.mpr c5; have c5b1 : ((rd l0 x5_1) != a1) = false := bne_eq_false_iff_eq.mpr c5; clear c5; obtain rfl := Option.some.inj H; have p151 : 0 ≤ (x5_1 : Int) := of_decide_eq_true (by first | (with_reducible assumption) | assumption); have q151 : x5_1 < (l0.length : Int) := of_decide_eq_true (by first | (with_reducible assumption) | assumption); obtain ⟨ad151, e151, hx151_0⟩ := Kd.at_int HR0.out x5_1 p151 q151
      cases e151
      replace p151 := eq_true p151; replace q151 := eq_true q151
      go_wp2
      go_ret; exact ⟨by first | rfl | (simp; done) | (simp [*]; done), by repeat (first | exact Drawn0.refl _ | apply Drawn0.step)⟩
     ·
      rw [if_neg c5] at H; have c5b0 : ((rd l0 x5_1) == a1) = false := beq_eq_false_iff_ne.mpr c5; have c5b1 : ((rd l0 x5_1) != a1) = true := bne_iff_ne.mpr c5; have H' := aK H; clear H; have p151 : 0 ≤ (x5_1 : Int) := of_decide_eq_true (by first | (with_reducible assumption) | assumption); have q151 : x5_1 < (l0.length : Int) := of_decide_eq_true (by first | (with_reducible assumption) | assumption); obtain ⟨ad151, e151, hx151_0⟩ := Kd.at_int HR0.out x5_1 p151 q151
      cases e151
      replace p151 := eq_true p151; replace q151 := eq_true q151
      go_wp2
      go_roundg k1
      case measure => have := HK1.out; omega
      case rel => exact ⟨(wrap64 (x5_1 + 1)), (by first | rfl | (simp; done) | (simp [*]; done)), H', ⟨by have := HK1.out; omega⟩, by repeat (first | exact Drawn0.refl _ | apply Drawn0.step)⟩
    ·
     rw [if_neg c4] at H; exact absurd H (by simp)
   ·
    rw [if_neg c3] at H; have c3b0 : decide (x5_1 < (l0.length : Int)) = false := decide_eq_false c3; clear c3; obtain rfl := Option.some.inj H
    go_wp2
    go_ret; exact ⟨by first | rfl | (simp; done) | (simp [*]; done), by repeat (first | exact Drawn0.refl _ | apply Drawn0.step)⟩
end Go.Proofs.Ytnchdmidaigheaa.Hp
namespace Go.Proofs.Ytnchdmidaigheaa.Hp
open Go.RowKit Go.Proofs.YtnchdmidaigheaaW.PrintWords Go.Proofs.YtnchdmidaigheaaW.PrintLast Go.Proofs.YtnchdmidaigheaaW.PrintMore
attribute [local go_sem] max2_int min2_int max_two min_two max_three min_three max_four min_four   -- for this text's walks alone
set_option linter.unusedVariables false
set_option linter.unusedSimpArgs false
def wagtailref01_Bytes.l0 : Nat → Int → Int → List Int → Int → Option (List Int)
 | 0, _, _, _, _ => none
 | k + 1, x0, x1, x5, x6 => if x6 < x0 then (if x6 < 8 then ((some (([(Int.tmod x1 256) % 256] : List Int) : List Int)).bind fun y333 => (if y333.length + x5.length < 140737488355328 then (wagtailref01_Bytes.l0 k x0 (IntKind.u64.wrap (Int.tdiv x1 256)) (y333 ++ x5) (wrap64 (x6 + 1))) else (none))) else (some x5)) else (some x5)
def wagtailref01_Bytes.f (k : Nat) (a0 : Int) (a1 : Int) : Option (List Int) := wagtailref01_Bytes.l0 k a0 a1 ([] : List Int) 0
theorem wagtailref01_Bytes.mono_l : ∀ k, (∀ y0 y1 y2 y3, LeO (wagtailref01_Bytes.l0 k y0 y1 y2 y3) (wagtailref01_Bytes.l0 (k + 1) y0 y1 y2 y3))
 | 0 => fun _ _ _ _ r h => by simp [wagtailref01_Bytes.l0] at h
 | k + 1 => by
  have ih0 := wagtailref01_Bytes.mono_l k
  ·
   intro y0 y1 y2 y3; unfold wagtailref01_Bytes.l0
   repeat' first
   | (with_reducible exact ih0 _ _ _ _)
   | (with_reducible exact LeO.refl _)
   | (with_reducible exact LeO.none _)
   | (with_reducible refine LeO.ite ?_ ?_)
   | (with_reducible refine LeO.bind ?_ (fun _ => ?_))
   | exact ih0 _ _ _ _
   | exact LeO.none _
   | refine LeO.ite ?_ ?_
   | refine LeO.bind ?_ (fun _ => ?_)
theorem wagtailref01_Bytes.mono : ∀ a0 a1 k, LeO (wagtailref01_Bytes.f k a0 a1) (wagtailref01_Bytes.f (k + 1) a0 a1) := by
 intro a0 a1 k; have ih0 := wagtailref01_Bytes.mono_l k; unfold wagtailref01_Bytes.f
 repeat' first
   | (with_reducible exact ih0 _ _ _ _)
   | (with_reducible exact LeO.refl _)
   | (with_reducible exact LeO.none _)
   | (with_reducible refine LeO.ite ?_ ?_)
   | (with_reducible refine LeO.bind ?_ (fun _ => ?_))
   | exact ih0 _ _ _ _
   | exact LeO.none _
   | refine LeO.ite ?_ ?_
   | refine LeO.bind ?_ (fun _ => ?_)
set_option maxHeartbeats 8000000 in
set_option maxRecDepth 100000 in
theorem wagtailref01_Bytes.calls (k : Nat) (a0 : Int) (a1 : Int) (r : List Int) (w : World) (h : wagtailref01_Bytes.f k a0 a1 = some r) :
  Calls Try.prog 114 #[.int .i64 a0, .int .u64 a1] w fun e w' => ∃ v0_ : Value, e = .returned (v0_) ∧ Kd.R (Kd.int .u8) 5 w' w.heap.size (fun _ => True) v0_ r ∧ Below w.heap.size w w' := by
 have HB := aK (Below.refl w.heap.size w); have H : (wagtailref01_Bytes.l0 k a0 a1 ([] : List Int) 0) = some r := h; clear h; have H' := aK H; clear H; go_enter Try.func114, Try.ntmps114
 go_wp2
 go_loopg [1, 5, 6] k (fun kq v1 v5 v6 w' => ∃ (x1_1 : Int) (x5_1 : List Int) (x6_1 : Int), v1 = .int .u64 x1_1 ∧ v6 = .int .i64 x6_1 ∧ Aside0 (wagtailref01_Bytes.l0 kq a0 x1_1 x5_1 x6_1 = some r) ∧ Aside0 (kq ≤ k) ∧ Aside0 (Kd.R (Kd.int .u8) 5 w' w.heap.size (fun _ => True) v5 x5_1) ∧ Aside0 (Below w.heap.size w w'))
 case atStart => exact ⟨(a1), (([] : List Int)), (0), (by first | rfl | (simp; done) | (simp [*]; done)), (by first | rfl | (simp; done) | (simp [*]; done)), H', ⟨Nat.le_refl _⟩, ⟨by first | exact Kd.R_nil _ _ _ _ _ | exact Kd.N_nil _ _ _ _ _ | exact Kd.V_nil _ _ _ _ _ | exact Kd.Q_nil _ _ _ _ _ | exact Kd.S_nil _ _ _ _ _⟩, ⟨by repeat (first | (with_reducible first | exact HB.out | apply below_alloc | apply pw_below_drewN | apply below_drew1) | exact HB.out)⟩⟩
 case round =>
  clear H'
  try clear c1
  try clear p2
  obtain ⟨x1_1, x5_1, x6_1, rfl, rfl, HA, HK1, HO_5, HB⟩ := hrel
  cases gk with
  | zero => exact absurd HA.out (by simp [wagtailref01_Bytes.l0])
  | succ k1 =>
   have H := HA.out; clear HA; simp only [wagtailref01_Bytes.l0] at H; by_cases c3 : x6_1 < a0
   ·
    rw [if_pos c3] at H; have c3b0 : decide (x6_1 < a0) = true := decide_eq_true c3; clear c3; by_cases c4 : x6_1 < 8
    ·
     rw [if_pos c4] at H; have c4b0 : decide (x6_1 < 8) = true := decide_eq_true c4; clear c4; obtain ⟨y333, hy333⟩ : ∃ y_ : List Int, y_ = (([(Int.tmod x1_1 256) % 256] : List Int)) := ⟨_, rfl⟩; replace H : (if y333.length + x5_1.length < 140737488355328 then (wagtailref01_Bytes.l0 k1 a0 (IntKind.u64.wrap (Int.tdiv x1_1 256)) (y333 ++ x5_1) (wrap64 (x6_1 + 1))) else (none)) = some r := by first | (rw [hy333]; with_reducible exact H) | (have H2_ := (Option.bind_some _ _).symm.trans H; rw [hy333]; with_reducible exact H2_) | (have H2_ := (Option.bind_some _ _).symm.trans H; with_reducible exact H2_) | with_reducible exact H | (rw [hy333]; exact H) | exact H
     have Ny333 := aK hy333; clear hy333; by_cases c5 : y333.length + x5_1.length < 140737488355328
     ·
      rw [if_pos c5] at H; have LMc5 := aK c5; clear c5; obtain ⟨y336, hy336⟩ : ∃ y_ : List Int, y_ = (y333 ++ x5_1) := ⟨_, rfl⟩; replace H : (wagtailref01_Bytes.l0 k1 a0 (IntKind.u64.wrap (Int.tdiv x1_1 256)) y336 (wrap64 (x6_1 + 1))) = some r := by first | (rw [hy336]; with_reducible exact H) | (have H2_ := (Option.bind_some _ _).symm.trans H; rw [hy336]; with_reducible exact H2_) | (have H2_ := (Option.bind_some _ _).symm.trans H; with_reducible exact H2_) | with_reducible exact H | (rw [hy336]; exact H) | exact H
      have Ny336 := aK hy336; clear hy336; have H' := aK H; clear H; go_wp2_with (first | ((with_reducible refine gate_dst (N := 19) rfl ?_); refine Kd.R_lit (Kd.int .u8) _ 5 ?hg (N := 19) ?hd (xs := ([(Int.tmod x1_1 256) % 256] : List Int)) (inner := [.int .u8 ((Int.tmod x1_1 256) % 256)]) (ok := fun _ => True) (okp := fun _ => True) ?hr ?hp (fun _ hk => hk) trivial (Below.refl _ _) (Nat.le_refl _) (by simp) ?_; (case hd => rfl); (case hg => rfl); (case hr => first | (go_simp; done) | (go_simp; rfl)); (case hp => exact (Reps.one (show Kd.M (Kd.int .u8) _ _ _ ((Int.tmod x1_1 256) % 256) [.int .u8 ((Int.tmod x1_1 256) % 256)] from rfl) (Reps.none _ _))); intro v334 w6 ho7 hb hg_ hnew_; clear hg_ hnew_; (first | rw [← Ny333.out] at ho7 | (simp only [Int.reduceToNat] at ho7; rw [← Ny333.out] at ho7)); have n0_ := aK (Kd.R_elder' (by (with_reducible repeat (first | apply Kd.R_alloc | apply Kd.R_drewN | apply Kd.R_drew)); exact HO_5.out) (Kd.R_base ho7) hb); have n1_ := aK (Kd.R_lower (Kd.R_new' ho7 (Kd.R_lt (by (with_reducible repeat (first | apply Kd.R_alloc | apply Kd.R_drewN | apply Kd.R_drew)); exact HO_5.out))) (below_size (by repeat (first | (with_reducible first | exact HB.out | apply below_alloc | apply pw_below_drewN | apply below_drew1) | exact HB.out)))); have n2_ := aK (below_step (by repeat (first | (with_reducible first | exact HB.out | apply below_alloc | apply pw_below_drewN | apply below_drew1) | exact HB.out)) hb); clear HO_5; clear HB; have HO_5 := n0_; have HO335 := n1_; have HB := n2_; clear n0_ n1_ n2_; clear hb ho7; obtain ⟨Ao9, co9, eo9⟩ := Kd.R_slice HO_5.out; subst eo9) | ((with_reducible refine gate_builtin (b := .append) (xs := #[.tmp 19, .tmp 20]) rfl ?_); at_builtin; refine Kd.R_append_rows (Kd.int .u8) (w0 := w) w.heap.size rfl (.tmp 19) (.tmp 20) 38 5 (.int .u8 0) 1 rfl Try.underlying38 info5 rfl (by decide) (by omega) v334 y333 x5_1 _ _ _ (fun k_ => some k_ ≠ (.slice Ao9 x5_1.length co9 : Value).ownBlock) (fun _ => False) rfl rfl ?aO ?aR (fun _ _ h => h) (fun _ h => h.elim) ?aF ?aB ?aS ?aL ?_; (case aR => repeat (first | exact (Kd.R_reads' HO_5.out).2.2 | (with_reducible refine Kd.C_alloc ?_ _) | (with_reducible refine Kd.C_drewN ?_ _) | (with_reducible refine Kd.C_drew ?_))); (case aB => exact (by repeat (first | (with_reducible first | exact HB.out | apply below_alloc | apply pw_below_drewN | apply below_drew1) | exact HB.out))); (case aF => exact (fun k_ hk => Kd.fresh' (Kd.R_lt (by (with_reducible repeat (first | apply Kd.R_alloc | apply Kd.R_drewN | apply Kd.R_drew)); exact HO_5.out)) k_ hk)); (case aO => exact (by (with_reducible repeat (first | apply Kd.R_alloc | apply Kd.R_drewN | apply Kd.R_drew)); exact Kd.R_mono HO335.out (fun _ hk => hk.2))); (case aS => exact (below_size (by repeat (first | (with_reducible first | exact HB.out | apply below_alloc | apply pw_below_drewN | apply below_drew1) | exact HB.out)))); (case aL => have := LMc5.out; omega); intro v337 w8 ho hb hg hat; rw [← Ny336.out] at ho; have n0_ := aK (Kd.R_after (ok := (fun _ => True)) (by (with_reducible repeat (first | apply Kd.R_alloc | apply Kd.R_drewN | apply Kd.R_drew)); exact HO_5.out) hg hat); have n1_ := aK (hb); have n2_ := aK (ho); clear HO_5; clear HB; clear HO335; have HO_5 := n0_; have HB := n1_; have HO338 := n2_; clear n0_ n1_ n2_; clear ho hb hg hat)); go_roundg k1
      case measure => have := HK1.out; omega
      case rel => exact ⟨(IntKind.u64.wrap (Int.tdiv x1_1 256)), (y336), (wrap64 (x6_1 + 1)), (by first | rfl | (simp; done) | (simp [*]; done)), (by first | rfl | (simp; done) | (simp [*]; done)), H', ⟨by have := HK1.out; omega⟩, ⟨by (with_reducible repeat (first | apply Kd.R_alloc | apply Kd.R_drewN | apply Kd.R_drew)); exact Kd.R_mono HO338.out (fun _ hk => trivial)⟩, ⟨by repeat (first | (with_reducible first | exact HB.out | apply below_alloc | apply pw_below_drewN | apply below_drew1) | exact HB.out)⟩⟩
     ·
      rw [if_neg c5] at H; exact absurd H (by simp)
    ·
     rw [if_neg c4] at H; have c4b0 : decide (x6_1 < 8) = false := decide_eq_false c4; clear c4; obtain rfl := Option.some.inj H
     go_wp2
     go_ret; exact ⟨_, by first | rfl | (simp [errW_none, errW_some] <;> rfl) | (simp [*, errW_none, errW_some] <;> rfl), by (with_reducible repeat (first | apply Kd.R_alloc | apply Kd.R_drewN | apply Kd.R_drew)); exact HO_5.out, by repeat (first | (with_reducible first | exact HB.out | apply below_alloc | apply pw_below_drewN | apply below_drew1) | exact HB.out)⟩
   ·
    rw [if_neg c3] at H; have c3b0 : decide (x6_1 < a0) = false := decide_eq_false c3; clear c3; obtain rfl := Option.some.inj H
    go_wp2
    go_ret; exact ⟨_, by first | rfl | (simp [errW_none, errW_some] <;> rfl) | (simp [*, errW_none, errW_some] <;> rfl), by (with_reducible repeat (first | apply Kd.R_alloc | apply Kd.R_drewN | apply Kd.R_drew)); exact HO_5.out, by repeat (first | (with_reducible first | exact HB.out | apply below_alloc | apply pw_below_drewN | apply below_drew1) | exact HB.out)⟩
end Go.Proofs.Ytnchdmidaigheaa.Hp
