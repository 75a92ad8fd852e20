/- Parts of the proof of the statement IndexFrames, laid together (5 of 6). -/
import Derived.Deep.DeepCutAuto
import Derived.Deep.CutBlock
import Derived.Test.YtaepbgieahedjaaZIndexFrames3
namespace Go.Proofs.Ytaepbgieahedjaa.QS
set_option linter.unusedVariables false
set_option linter.unusedSimpArgs false
open Go.RowKit Go.Proofs.Ytaepbgieahedjaa.Hp Go.Proofs.YtaepbgieahedjaaW.PrintWords Go.Proofs.YtaepbgieahedjaaW.PrintLast Go.Proofs.YtaepbgieahedjaaW.PrintMore
open Go.Proofs.Ytaepbgieahedjaa.IP
def frm4.T4 : Bool × List (List Nat × List Nat) := (true, [([], []), ([0], [0]), ([1], [1]), ([], []), ([], []), ([4], [4]), ([5], [5]), ([6], [6]), ([3, 7], [3, 7]), ([8], [8]), ([2, 0, 1, 2], [2]), ([9, 10, 0, 1, 2, 3, 4, 5, 6, 7, 8, 9, 10], [9]), ([11, 0, 1, 2, 3, 4, 5, 6, 7, 8, 9, 10, 11], [])])
def frm4.B4 : List Nat := [0, 1, 3, 0, 0, 16, 48, 112, 248, 504, 7, 2047, 4095]
theorem frm4.tab4 : rtab .any (opsOf Try.f10 4) = frm4.T4 := by kernel_rfl
theorem frm4.bits4 : waitsOk frm4.T4.2 frm4.B4 = true := by kernel_rfl
set_option maxHeartbeats 4000000 in
set_option maxRecDepth 100000 in
theorem frame_no {W : World} {base g0 : Nat} {l : List R0} (h : IX W base g0 l) (hn : l.length ≤ 1000) (hp : ∀ x ∈ l, x.f7.length ≤ 1000) (n : Int) (hf : l.filter (inB n) = []) : Calls Try.prog 10 #[.pointer (some ⟨g0, 0, none⟩), .int .u64 n] W fun e w' => e = .returned (.tuple #[zrec, .int .i64 0, .bool false]) ∧ Below W.heap.size W w' := by
  have hbx := heap_alloc_new W (.cells #[.int .u64 n] 23)
  have hz := heap_alloc_new (W.alloc (.cells #[.int .u64 n] 23)) (.cells #[.int .u64 0, .int .u64 0, .int .i64 0, .int .i64 0, .int .u64 0, .bool false, .int .i64 0, .slice none 0 0] 29)
  have hb := below_alloc (below_alloc (Below.refl W.heap.size W) (.cells #[.int .u64 n] 23)) (.cells #[.int .u64 0, .int .u64 0, .int .i64 0, .int .i64 0, .int .u64 0, .bool false, .int .i64 0, .slice none 0 0] 29)
  have hs : (W.alloc (.cells #[.int .u64 n] 23)).heap.size = W.heap.size + 1 := by simp
  have hbx := blk_below hbx (below_alloc (Below.refl _ _) (.cells #[.int .u64 0, .int .u64 0, .int .i64 0, .int .i64 0, .int .u64 0, .bool false, .int .i64 0, .slice none 0 0] 29))
  rw [hs] at hz
  obtain ⟨g, hg⟩ : ∃ g, g = W.heap.size + 1 := ⟨_, rfl⟩
  obtain ⟨gb, hgb⟩ : ∃ g, g = W.heap.size := ⟨_, rfl⟩
  have HX1 := Aside0.mk (h.below hb)
  have HN := Aside0.mk (And.intro hn hp)
  have HF := Aside0.mk hf
  clear h hn hp hf
  go_enter Try.func10, Try.ntmps10
  go_upto_region 1 with fail
  generalize (W.alloc (.cells #[.int .u64 n] 23)).alloc (.cells #[.int .u64 0, .int .u64 0, .int .i64 0, .int .i64 0, .int .u64 0, .bool false, .int .i64 0, .slice none 0 0] 29) = W1 at hz hb hbx HX1 ⊢
  clear hs
  rw [← hg] at hz ⊢
  rw [← hgb] at hbx ⊢
  have HG : Aside0 (W.heap.size ≤ g) := ⟨by omega⟩
  have HGB : Aside0 (gb + 1 = g) := ⟨by omega⟩
  have HZ := Aside0.mk hz
  have HB := Aside0.mk hb
  have HBX := Aside0.mk hbx
  have HS := Aside0.mk (isome_calls 26 _ #[.pointer (some ⟨gb, 0, none⟩)] Try.func26 rfl rfl (inB n) l base g0 W1 HN.out.1 HN.out.2 HX1.out (fun W' hW x Ap cpp => frame_fn x Ap cpp W' (blk_below HBX.out hW)))
  clear hz hb hg hgb hbx
  go_upto_region 2 with (go_at_call 25; refine HS.out.mono ?_; rintro e w2 ⟨v, rfl, hR, hb⟩; rw [HF.out] at hR; obtain ⟨Av, cv, rfl⟩ := Kd.R_slice hR; have HZ2 := Aside0.mk (blk_below HZ.out hb); have HB2 := Aside0.mk (below_then HB.out HB.out.size hb); clear hb hR)
  have d0 := blk_cell HZ2.out 0
  have f0 := blk_frozen HZ2.out 0
  have d1 := blk_cell HZ2.out 1
  have f1 := blk_frozen HZ2.out 1
  have d2 := blk_cell HZ2.out 2
  have f2 := blk_frozen HZ2.out 2
  have d3 := blk_cell HZ2.out 3
  have f3 := blk_frozen HZ2.out 3
  have d4 := blk_cell HZ2.out 4
  have f4 := blk_frozen HZ2.out 4
  have d5 := blk_cell HZ2.out 5
  have f5 := blk_frozen HZ2.out 5
  have d6 := blk_cell HZ2.out 6
  have f6 := blk_frozen HZ2.out 6
  have d7 := blk_cell HZ2.out 7
  have f7 := blk_frozen HZ2.out 7
  have HS2 := Aside0.mk (zero8 HZ2.out HG.out HB2.out)
  clear HS HF HBX
  go_wp2_with fail
  (try simp only [Exit.inBlock, Exit.then])
  refine bodyPost_ret (results_ctt rfl _ _ g 29 _ (0, 0) _ _ _ rfl rfl rfl HS2.out.2 Try.underlying29 rfl (by kernel_rfl)) rfl ?_
  exact ⟨rfl, HS2.out.1⟩
def FrameTo (W w' : World) (e : Ending) (x : R0) (n : Int) : Prop := ∃ A c, e = .returned (.tuple #[ragg x A c, .int .i64 (IntKind.i64.wrap (IntKind.u64.wrap (n - x.f1))), .bool true]) ∧ Kd.C (Kd.int .i64) w' A x.f7.length x.f7 ∧ x.f7.length ≤ c ∧ Below W.heap.size W w'
set_option maxHeartbeats 4000000 in
set_option maxRecDepth 100000 in
theorem frame_yes {W : World} {base g0 : Nat} {l : List R0} (h : IX W base g0 l) (hn : l.length ≤ 1000) (hp : ∀ x ∈ l, x.f7.length ≤ 1000) (n : Int) (x : R0) (r : List R0) (hf : l.filter (inB n) = x :: r) : Calls Try.prog 10 #[.pointer (some ⟨g0, 0, none⟩), .int .u64 n] W fun e w' => FrameTo W w' e x n := by
  have hbx := heap_alloc_new W (.cells #[.int .u64 n] 23)
  have hz := heap_alloc_new (W.alloc (.cells #[.int .u64 n] 23)) (.cells #[.int .u64 0, .int .u64 0, .int .i64 0, .int .i64 0, .int .u64 0, .bool false, .int .i64 0, .slice none 0 0] 29)
  have hb := below_alloc (below_alloc (Below.refl W.heap.size W) (.cells #[.int .u64 n] 23)) (.cells #[.int .u64 0, .int .u64 0, .int .i64 0, .int .i64 0, .int .u64 0, .bool false, .int .i64 0, .slice none 0 0] 29)
  have hs : (W.alloc (.cells #[.int .u64 n] 23)).heap.size = W.heap.size + 1 := by simp
  have hbx := blk_below hbx (below_alloc (Below.refl _ _) (.cells #[.int .u64 0, .int .u64 0, .int .i64 0, .int .i64 0, .int .u64 0, .bool false, .int .i64 0, .slice none 0 0] 29))
  rw [hs] at hz
  obtain ⟨g, hg⟩ : ∃ g, g = W.heap.size + 1 := ⟨_, rfl⟩
  obtain ⟨gb, hgb⟩ : ∃ g, g = W.heap.size := ⟨_, rfl⟩
  have HX1 := Aside0.mk (h.below hb)
  have HN := Aside0.mk (And.intro hn hp)
  have HF := Aside0.mk hf
  clear h hn hp hf
  go_enter Try.func10, Try.ntmps10
  go_upto_region 1 with fail
  generalize (W.alloc (.cells #[.int .u64 n] 23)).alloc (.cells #[.int .u64 0, .int .u64 0, .int .i64 0, .int .i64 0, .int .u64 0, .bool false, .int .i64 0, .slice none 0 0] 29) = W1 at hz hb hbx HX1 ⊢
  clear hs
  rw [← hg] at hz ⊢
  rw [← hgb] at hbx ⊢
  have HG : Aside0 (W.heap.size ≤ g) := ⟨by omega⟩
  have HGB : Aside0 (gb + 1 = g) := ⟨by omega⟩
  have HZ := Aside0.mk hz
  have HB := Aside0.mk hb
  have HBX := Aside0.mk hbx
  have HS := Aside0.mk (isome_calls 26 _ #[.pointer (some ⟨gb, 0, none⟩)] Try.func26 rfl rfl (inB n) l base g0 W1 HN.out.1 HN.out.2 HX1.out (fun W' hW x Ap cpp => frame_fn x Ap cpp W' (blk_below HBX.out hW)))
  clear hz hb hg hgb hbx
  go_upto_region 4 with (go_at_call 25; refine HS.out.mono ?_; rintro e w2 ⟨v, rfl, hR, hb⟩; rw [HF.out] at hR; obtain ⟨Av, cv, rfl⟩ := Kd.R_slice hR; have HR := Aside0.mk hR; have HZ2 := Aside0.mk (blk_below HZ.out hb); have HBX2 := Aside0.mk (blk_below HBX.out hb); have HB2 := Aside0.mk (below_then HB.out HB.out.size hb); clear hb hR)
  have hR3 : k29.R 29 w2 W1.heap.size (fun k => g < k) (.slice Av (x :: r).length cv) (x :: r) := Kd.R_mono HR.out (fun k hk => Nat.lt_of_lt_of_le (blk_lt HZ.out) hk)
  obtain ⟨gq, Ax, cx, cur, rfl, hgq, hzq, hcur, hRx⟩ := IX.at (i := 0) hR3 rfl
  have HCUR : Aside0 (∀ k u, (encR x Ax cx)[k]? = some u → cur[k]? = some u) := ⟨fun k u h => by have := hcur k u h; rwa [Nat.zero_mul, Nat.zero_add] at this⟩
  have B0 := Aside0.mk (below_then HB2.out HB2.out.size (below_drew1 (Below.refl w2.heap.size w2)))
  have ZQ := Aside0.mk (show w2.drew.heap[gq]? = some (.cells cur 29 (0, 0)) from hzq)
  have ZN := Aside0.mk (show w2.drew.heap[gb]? = some (.cells #[.int .u64 n] 23 (0, 0)) from HBX2.out)
  have ZZ := Aside0.mk (show w2.drew.heap[g]? = some (.cells #[.int .u64 0, .int .u64 0, .int .i64 0, .int .i64 0, .int .u64 0, .bool false, .int .i64 0, .slice none 0 0] 29 (0, 0)) from HZ2.out)
  have RX := Aside0.mk (Kd.R_below hRx (below_drew1 (Below.refl w2.heap.size w2)))
  have HNE : Aside0 (gq ≠ g ∧ gb ≠ g) := ⟨by omega, by have := HGB.out; omega⟩
  have q0 := eq_true (show (0 : Int) < (r.length : Int) + 1 by omega)
  have FIN := True.intro
  clear hR3 hgq hzq hcur hRx HR HS HF HBX HZ2 HBX2 HB2
  refine start_ (n := 13) (S := fun w' => True) (ds := []) #[false, false, false, false, false, false, false, false, false, false, false, false, false] (by kernel_rfl) rfl rfl trivial (fun hHeld => ?_)
  refine with_tabW frm4.tab4 frm4.bits4 (fun HT_ HW_ => ?_)
  generalize w2.drew = wz at B0 ZQ ZN ZZ RX hHeld ⊢
  refine inv_at [0, 1, 2, 3, 4, 5, 6, 7, 8, 9, 10, 11, 12] (fun a0_ b a w' => a = putSel a0_ b [(0, 15, .slice (some ⟨gq, 0, none⟩) (r.length + 1) cv), (1, 16, .pointer (some ⟨gq, 0, none⟩)), (2, 17, .agg #[.int .u64 x.f0, .int .u64 x.f1, .int .i64 x.f2, .int .i64 x.f3, .int .u64 x.f4, .bool x.f5, .int .i64 x.f6, .slice Ax x.f7.length cx]), (3, 18, .int .u64 n), (4, 19, .slice (some ⟨gq, 0, none⟩) (r.length + 1) cv), (5, 20, .pointer (some ⟨gq, 0, none⟩)), (6, 21, .pointer (some ⟨gq, 1, none⟩)), (7, 22, .int .u64 x.f1), (8, 23, .int .u64 (IntKind.u64.wrap (n - x.f1))), (9, 24, .int .i64 (IntKind.i64.wrap (IntKind.u64.wrap (n - x.f1)))), (11, 5, .int .i64 (IntKind.i64.wrap (IntKind.u64.wrap (n - x.f1)))), (12, 6, .bool true)] ∧ (Below W.heap.size W w') ∧ (w'.heap[gq]? = some (.cells cur 29 (0, 0))) ∧ (w'.heap[gb]? = some (.cells #[.int .u64 n] 23 (0, 0))) ∧ (b 10 = false → w'.heap[g]? = some (.cells #[.int .u64 0, .int .u64 0, .int .i64 0, .int .i64 0, .int .u64 0, .bool false, .int .i64 0, .slice none 0 0] 29 (0, 0))) ∧ ((Kd.int .i64).R 3 w' W1.heap.size (fun k => g < k ∧ k ≠ gq) (.slice Ax x.f7.length cx) x.f7) ∧ (b 10 = true → w'.heap[g]? = some (.cells #[.int .u64 x.f0, .int .u64 x.f1, .int .i64 x.f2, .int .i64 x.f3, .int .u64 x.f4, .bool x.f5, .int .i64 x.f6, .slice Ax x.f7.length cx] 29 (0, 0)))) HT_.out HW_.out (by kernel_rfl) (by kernel_rfl) ?_ ?_ ?_
  · exact ⟨by simp only [putSel, Bool.false_eq_true, if_false], B0.out, ZQ.out, ZN.out, fun _ => ZZ.out, RX.out, fun h_ => absurd h_ (by decide)⟩
  · skip
    clear B0 RX ZN ZQ ZZ
    refine steps_cons ?_ ?_
    · rintro b a w' ⟨ha, Q_B0, Q_ZQ, Q_ZN, Q_ZZ, Q_RX, Q_FIN⟩ hb_ hon hoff
      refine ⟨_, rfl, fun K hK => ?_⟩
      have e7 : a.tmps[7]? = some (.slice (some ⟨gq, 0, none⟩) (r.length + 1) cv) := by rw [ha]; exact (putSel_off rfl).trans rfl
      replace ha := Aside0.mk ha
      have B0 := Aside0.mk Q_B0
      have ZQ := Aside0.mk Q_ZQ
      have ZN := Aside0.mk Q_ZN
      have ZZ := Aside0.mk (Q_ZZ (hoff 10 (by kernel_rfl)))
      have RX := Aside0.mk Q_RX
      refine value_ (w1 := w') (v := .slice (some ⟨gq, 0, none⟩) (r.length + 1) cv) (by rfl) rfl ?_ ?_
      · go_simp
        (try simp only [i64_w])
        try rfl
      refine hK.out _ _ ⟨(by rw [ha.out]; exact putSel_upk 0 hb_ rfl rfl rfl), Q_B0, Q_ZQ, Q_ZN, Q_ZZ, Q_RX, fun h0_ => absurd ((hoff 10 (by kernel_rfl)).symm.trans h0_) (by decide)⟩
    refine steps_cons ?_ ?_
    · rintro b a w' ⟨ha, Q_B0, Q_ZQ, Q_ZN, Q_ZZ, Q_RX, Q_FIN⟩ hb_ hon hoff
      refine ⟨_, rfl, fun K hK => ?_⟩
      have e15 : a.tmps[15]? = some (.slice (some ⟨gq, 0, none⟩) (r.length + 1) cv) := by rw [ha]; exact putSel_on (e := (0, 15, .slice (some ⟨gq, 0, none⟩) (r.length + 1) cv)) 0 rfl rfl (hon 0 (by kernel_rfl)) rfl
      replace ha := Aside0.mk ha
      have B0 := Aside0.mk Q_B0
      have ZQ := Aside0.mk Q_ZQ
      have ZN := Aside0.mk Q_ZN
      have ZZ := Aside0.mk (Q_ZZ (hoff 10 (by kernel_rfl)))
      have RX := Aside0.mk Q_RX
      refine value_ (w1 := w') (v := .pointer (some ⟨gq, 0, none⟩)) (by rfl) rfl ?_ ?_
      · go_simp
        (try simp only [i64_w])
        try rfl
      refine hK.out _ _ ⟨(by rw [ha.out]; exact putSel_upk 1 hb_ rfl rfl rfl), Q_B0, Q_ZQ, Q_ZN, Q_ZZ, Q_RX, fun h0_ => absurd ((hoff 10 (by kernel_rfl)).symm.trans h0_) (by decide)⟩
    refine steps_cons ?_ ?_
    · rintro b a w' ⟨ha, Q_B0, Q_ZQ, Q_ZN, Q_ZZ, Q_RX, Q_FIN⟩ hb_ hon hoff
      refine ⟨_, rfl, fun K hK => ?_⟩
      have e16 : a.tmps[16]? = some (.pointer (some ⟨gq, 0, none⟩)) := by rw [ha]; exact putSel_on (e := (1, 16, .pointer (some ⟨gq, 0, none⟩))) 1 rfl rfl (hon 1 (by kernel_rfl)) rfl
      replace ha := Aside0.mk ha
      have B0 := Aside0.mk Q_B0
      have ZQ := Aside0.mk Q_ZQ
      have ZN := Aside0.mk Q_ZN
      have ZZ := Aside0.mk (Q_ZZ (hoff 10 (by kernel_rfl)))
      have RX := Aside0.mk Q_RX
      have r0_ := (blk_cell ZQ.out 0).trans (HCUR.out 0 _ rfl)
      have r1_ := (blk_cell ZQ.out 1).trans (HCUR.out 1 _ rfl)
      have r2_ := (blk_cell ZQ.out 2).trans (HCUR.out 2 _ rfl)
      have r3_ := (blk_cell ZQ.out 3).trans (HCUR.out 3 _ rfl)
      have r4_ := (blk_cell ZQ.out 4).trans (HCUR.out 4 _ rfl)
      have r5_ := (blk_cell ZQ.out 5).trans (HCUR.out 5 _ rfl)
      have r6_ := (blk_cell ZQ.out 6).trans (HCUR.out 6 _ rfl)
      have r7_ := (blk_cell ZQ.out 7).trans (HCUR.out 7 _ rfl)
      refine value_ (w1 := w') (v := .agg #[.int .u64 x.f0, .int .u64 x.f1, .int .i64 x.f2, .int .i64 x.f3, .int .u64 x.f4, .bool x.f5, .int .i64 x.f6, .slice Ax x.f7.length cx]) (by rfl) rfl ?_ ?_
      · go_simp
        (try simp only [i64_w])
        try rfl
      refine hK.out _ _ ⟨(by rw [ha.out]; exact putSel_upk 2 hb_ rfl rfl rfl), Q_B0, Q_ZQ, Q_ZN, Q_ZZ, Q_RX, fun h0_ => absurd ((hoff 10 (by kernel_rfl)).symm.trans h0_) (by decide)⟩
    refine steps_cons ?_ ?_
    · rintro b a w' ⟨ha, Q_B0, Q_ZQ, Q_ZN, Q_ZZ, Q_RX, Q_FIN⟩ hb_ hon hoff
      refine ⟨_, rfl, fun K hK => ?_⟩
      have e3 : a.tmps[3]? = some (.pointer (some ⟨gb, 0, none⟩)) := by rw [ha]; exact (putSel_off rfl).trans rfl
      replace ha := Aside0.mk ha
      have B0 := Aside0.mk Q_B0
      have ZQ := Aside0.mk Q_ZQ
      have ZN := Aside0.mk Q_ZN
      have RX := Aside0.mk Q_RX
      have c0_ := blk_cell (ZN.out) 0
      refine value_ (w1 := w') (v := .int .u64 n) (by rfl) rfl ?_ ?_
      · go_simp
        (try simp only [i64_w])
        try rfl
      refine hK.out _ _ ⟨(by rw [ha.out]; exact putSel_upk 3 hb_ rfl rfl rfl), Q_B0, Q_ZQ, Q_ZN, Q_ZZ, Q_RX, Q_FIN⟩
    refine steps_cons ?_ ?_
    · rintro b a w' ⟨ha, Q_B0, Q_ZQ, Q_ZN, Q_ZZ, Q_RX, Q_FIN⟩ hb_ hon hoff
      refine ⟨_, rfl, fun K hK => ?_⟩
      have e7 : a.tmps[7]? = some (.slice (some ⟨gq, 0, none⟩) (r.length + 1) cv) := by rw [ha]; exact (putSel_off rfl).trans rfl
      replace ha := Aside0.mk ha
      have B0 := Aside0.mk Q_B0
      have ZQ := Aside0.mk Q_ZQ
      have ZN := Aside0.mk Q_ZN
      have RX := Aside0.mk Q_RX
      refine value_ (w1 := w') (v := .slice (some ⟨gq, 0, none⟩) (r.length + 1) cv) (by rfl) rfl ?_ ?_
      · go_simp
        (try simp only [i64_w])
        try rfl
      refine hK.out _ _ ⟨(by rw [ha.out]; exact putSel_upk 4 hb_ rfl rfl rfl), Q_B0, Q_ZQ, Q_ZN, Q_ZZ, Q_RX, Q_FIN⟩
    refine steps_cons ?_ ?_
    · rintro b a w' ⟨ha, Q_B0, Q_ZQ, Q_ZN, Q_ZZ, Q_RX, Q_FIN⟩ hb_ hon hoff
      refine ⟨_, rfl, fun K hK => ?_⟩
      have e19 : a.tmps[19]? = some (.slice (some ⟨gq, 0, none⟩) (r.length + 1) cv) := by rw [ha]; exact putSel_on (e := (4, 19, .slice (some ⟨gq, 0, none⟩) (r.length + 1) cv)) 4 rfl rfl (hon 4 (by kernel_rfl)) rfl
      replace ha := Aside0.mk ha
      have B0 := Aside0.mk Q_B0
      have ZQ := Aside0.mk Q_ZQ
      have ZN := Aside0.mk Q_ZN
      have RX := Aside0.mk Q_RX
      refine value_ (w1 := w') (v := .pointer (some ⟨gq, 0, none⟩)) (by rfl) rfl ?_ ?_
      · go_simp
        (try simp only [i64_w])
        try rfl
      refine hK.out _ _ ⟨(by rw [ha.out]; exact putSel_upk 5 hb_ rfl rfl rfl), Q_B0, Q_ZQ, Q_ZN, Q_ZZ, Q_RX, Q_FIN⟩
    refine steps_cons ?_ ?_
    · rintro b a w' ⟨ha, Q_B0, Q_ZQ, Q_ZN, Q_ZZ, Q_RX, Q_FIN⟩ hb_ hon hoff
      refine ⟨_, rfl, fun K hK => ?_⟩
      have e20 : a.tmps[20]? = some (.pointer (some ⟨gq, 0, none⟩)) := by rw [ha]; exact putSel_on (e := (5, 20, .pointer (some ⟨gq, 0, none⟩))) 5 rfl rfl (hon 5 (by kernel_rfl)) rfl
      replace ha := Aside0.mk ha
      have B0 := Aside0.mk Q_B0
      have ZQ := Aside0.mk Q_ZQ
      have ZN := Aside0.mk Q_ZN
      have RX := Aside0.mk Q_RX
      refine value_ (w1 := w') (v := .pointer (some ⟨gq, 1, none⟩)) (by rfl) rfl ?_ ?_
      · go_simp
        (try simp only [i64_w])
        try rfl
      refine hK.out _ _ ⟨(by rw [ha.out]; exact putSel_upk 6 hb_ rfl rfl rfl), Q_B0, Q_ZQ, Q_ZN, Q_ZZ, Q_RX, Q_FIN⟩
    refine steps_cons ?_ ?_
    · rintro b a w' ⟨ha, Q_B0, Q_ZQ, Q_ZN, Q_ZZ, Q_RX, Q_FIN⟩ hb_ hon hoff
      refine ⟨_, rfl, fun K hK => ?_⟩
      have e21 : a.tmps[21]? = some (.pointer (some ⟨gq, 1, none⟩)) := by rw [ha]; exact putSel_on (e := (6, 21, .pointer (some ⟨gq, 1, none⟩))) 6 rfl rfl (hon 6 (by kernel_rfl)) rfl
      replace ha := Aside0.mk ha
      have B0 := Aside0.mk Q_B0
      have ZQ := Aside0.mk Q_ZQ
      have ZN := Aside0.mk Q_ZN
      have RX := Aside0.mk Q_RX
      have r1_ := (blk_cell ZQ.out 1).trans (HCUR.out 1 _ rfl)
      refine value_ (w1 := w') (v := .int .u64 x.f1) (by rfl) rfl ?_ ?_
      · go_simp
        (try simp only [i64_w])
        try rfl
      refine hK.out _ _ ⟨(by rw [ha.out]; exact putSel_upk 7 hb_ rfl rfl rfl), Q_B0, Q_ZQ, Q_ZN, Q_ZZ, Q_RX, Q_FIN⟩
    refine steps_cons ?_ ?_
    · rintro b a w' ⟨ha, Q_B0, Q_ZQ, Q_ZN, Q_ZZ, Q_RX, Q_FIN⟩ hb_ hon hoff
      refine ⟨_, rfl, fun K hK => ?_⟩
      have e18 : a.tmps[18]? = some (.int .u64 n) := by rw [ha]; exact putSel_on (e := (3, 18, .int .u64 n)) 3 rfl rfl (hon 3 (by kernel_rfl)) rfl
      have e22 : a.tmps[22]? = some (.int .u64 x.f1) := by rw [ha]; exact putSel_on (e := (7, 22, .int .u64 x.f1)) 7 rfl rfl (hon 7 (by kernel_rfl)) rfl
      replace ha := Aside0.mk ha
      have B0 := Aside0.mk Q_B0
      have ZQ := Aside0.mk Q_ZQ
      have ZN := Aside0.mk Q_ZN
      have RX := Aside0.mk Q_RX
      refine value_ (w1 := w') (v := .int .u64 (IntKind.u64.wrap (n - x.f1))) (by rfl) rfl ?_ ?_
      · go_simp
        (try simp only [i64_w])
        try rfl
      refine hK.out _ _ ⟨(by rw [ha.out]; exact putSel_upk 8 hb_ rfl rfl rfl), Q_B0, Q_ZQ, Q_ZN, Q_ZZ, Q_RX, Q_FIN⟩
    refine steps_cons ?_ ?_
    · rintro b a w' ⟨ha, Q_B0, Q_ZQ, Q_ZN, Q_ZZ, Q_RX, Q_FIN⟩ hb_ hon hoff
      refine ⟨_, rfl, fun K hK => ?_⟩
      have e23 : a.tmps[23]? = some (.int .u64 (IntKind.u64.wrap (n - x.f1))) := by rw [ha]; exact putSel_on (e := (8, 23, .int .u64 (IntKind.u64.wrap (n - x.f1)))) 8 rfl rfl (hon 8 (by kernel_rfl)) rfl
      replace ha := Aside0.mk ha
      have B0 := Aside0.mk Q_B0
      have ZQ := Aside0.mk Q_ZQ
      have ZN := Aside0.mk Q_ZN
      have RX := Aside0.mk Q_RX
      refine value_ (w1 := w') (v := .int .i64 (IntKind.i64.wrap (IntKind.u64.wrap (n - x.f1)))) (by rfl) rfl ?_ ?_
      · go_simp
        (try simp only [i64_w])
        try rfl
      refine hK.out _ _ ⟨(by rw [ha.out]; exact putSel_upk 9 hb_ rfl rfl rfl), Q_B0, Q_ZQ, Q_ZN, Q_ZZ, Q_RX, Q_FIN⟩
    refine steps_cons ?_ ?_
    · rintro b a w' ⟨ha, Q_B0, Q_ZQ, Q_ZN, Q_ZZ, Q_RX, Q_FIN⟩ hb_ hon hoff
      refine ⟨_, rfl, fun K hK => ?_⟩
      have e4 : a.tmps[4]? = some (.pointer (some ⟨g, 0, none⟩)) := by rw [ha]; exact (putSel_off rfl).trans rfl
      have e17 : a.tmps[17]? = some (.agg #[.int .u64 x.f0, .int .u64 x.f1, .int .i64 x.f2, .int .i64 x.f3, .int .u64 x.f4, .bool x.f5, .int .i64 x.f6, .slice Ax x.f7.length cx]) := by rw [ha]; exact putSel_on (e := (2, 17, .agg #[.int .u64 x.f0, .int .u64 x.f1, .int .i64 x.f2, .int .i64 x.f3, .int .u64 x.f4, .bool x.f5, .int .i64 x.f6, .slice Ax x.f7.length cx])) 2 rfl rfl (hon 2 (by kernel_rfl)) rfl
      replace ha := Aside0.mk ha
      have B0 := Aside0.mk Q_B0
      have ZQ := Aside0.mk Q_ZQ
      have ZN := Aside0.mk Q_ZN
      have ZZ := Aside0.mk (Q_ZZ hb_)
      have RX := Aside0.mk Q_RX
      have c0_ := blk_cell ZZ.out 0
      have c1_ := blk_cell ZZ.out 1
      have c2_ := blk_cell ZZ.out 2
      have c3_ := blk_cell ZZ.out 3
      have c4_ := blk_cell ZZ.out 4
      have c5_ := blk_cell ZZ.out 5
      have c6_ := blk_cell ZZ.out 6
      have c7_ := blk_cell ZZ.out 7
      have fr0_ := blk_frozen ZZ.out 0
      have fr1_ := blk_frozen ZZ.out 1
      have fr2_ := blk_frozen ZZ.out 2
      have fr3_ := blk_frozen ZZ.out 3
      have fr4_ := blk_frozen ZZ.out 4
      have fr5_ := blk_frozen ZZ.out 5
      have fr6_ := blk_frozen ZZ.out 6
      have fr7_ := blk_frozen ZZ.out 7
      refine skip_ (w1 := ?_) (by rfl) rfl ?_ ?_
      rotate_left
      · go_simp
        rfl
      refine hK.out _ _ ⟨(by rw [ha.out]; exact putSel_none (v := undef) rfl), (fill8 x Ax cx ZZ.out HG.out B0.out).1, ((fill8 x Ax cx ZZ.out HG.out B0.out).2.2 gq HNE.out.1).trans ZQ.out, ((fill8 x Ax cx ZZ.out HG.out B0.out).2.2 gb HNE.out.2).trans ZN.out, fun h0_ => absurd ((up_self b 10).symm.trans h0_) (by decide), Kd.R_step RX.out (fun k hk _ => (fill8 x Ax cx ZZ.out HG.out B0.out).2.2 k (Nat.ne_of_gt hk.1)), fun _ => (fill8 x Ax cx ZZ.out HG.out B0.out).2.1⟩
    refine steps_cons ?_ ?_
    · rintro b a w' ⟨ha, Q_B0, Q_ZQ, Q_ZN, Q_ZZ, Q_RX, Q_FIN⟩ hb_ hon hoff
      refine ⟨_, rfl, fun K hK => ?_⟩
      have e24 : a.tmps[24]? = some (.int .i64 (IntKind.i64.wrap (IntKind.u64.wrap (n - x.f1)))) := by rw [ha]; exact putSel_on (e := (9, 24, .int .i64 (IntKind.i64.wrap (IntKind.u64.wrap (n - x.f1))))) 9 rfl rfl (hon 9 (by kernel_rfl)) rfl
      replace ha := Aside0.mk ha
      have B0 := Aside0.mk Q_B0
      have ZQ := Aside0.mk Q_ZQ
      have ZN := Aside0.mk Q_ZN
      have RX := Aside0.mk Q_RX
      have FIN := Aside0.mk (Q_FIN (hon 10 (by kernel_rfl)))
      refine value_ (w1 := w') (v := .int .i64 (IntKind.i64.wrap (IntKind.u64.wrap (n - x.f1)))) (by rfl) rfl ?_ ?_
      · go_simp
        (try simp only [i64_w])
        try rfl
      refine hK.out _ _ ⟨(by rw [ha.out]; exact putSel_upk 10 hb_ rfl rfl rfl), Q_B0, Q_ZQ, Q_ZN, fun h0_ => absurd ((hon 10 (by kernel_rfl)).symm.trans h0_) (by decide), Q_RX, Q_FIN⟩
    refine steps_cons ?_ ?_
    · rintro b a w' ⟨ha, Q_B0, Q_ZQ, Q_ZN, Q_ZZ, Q_RX, Q_FIN⟩ hb_ hon hoff
      refine ⟨_, rfl, fun K hK => ?_⟩
      replace ha := Aside0.mk ha
      have B0 := Aside0.mk Q_B0
      have ZQ := Aside0.mk Q_ZQ
      have ZN := Aside0.mk Q_ZN
      have RX := Aside0.mk Q_RX
      have FIN := Aside0.mk (Q_FIN (hon 10 (by kernel_rfl)))
      refine value_ (w1 := w') (v := .bool true) (by rfl) rfl ?_ ?_
      · go_simp
        (try simp only [i64_w])
        try rfl
      refine hK.out _ _ ⟨(by rw [ha.out]; exact putSel_upk 11 hb_ rfl rfl rfl), Q_B0, Q_ZQ, Q_ZN, fun h0_ => absurd ((hon 10 (by kernel_rfl)).symm.trans h0_) (by decide), Q_RX, Q_FIN⟩
    exact steps_nil
  rintro b a w9 hall ⟨ha, Q_B0, Q_ZQ, Q_ZN, Q_ZZ, Q_RX, Q_FIN⟩
  clear B0 RX ZN ZQ ZZ
  have hb0_ := hall 0 (by kernel_rfl)
  have hb1_ := hall 1 (by kernel_rfl)
  have hb2_ := hall 2 (by kernel_rfl)
  have hb3_ := hall 3 (by kernel_rfl)
  have hb4_ := hall 4 (by kernel_rfl)
  have hb5_ := hall 5 (by kernel_rfl)
  have hb6_ := hall 6 (by kernel_rfl)
  have hb7_ := hall 7 (by kernel_rfl)
  have hb8_ := hall 8 (by kernel_rfl)
  have hb9_ := hall 9 (by kernel_rfl)
  have hb10_ := hall 10 (by kernel_rfl)
  have hb11_ := hall 11 (by kernel_rfl)
  have hb12_ := hall 12 (by kernel_rfl)
  subst ha
  simp only [putSel, hb0_, hb1_, hb2_, hb3_, hb4_, hb5_, hb6_, hb7_, hb8_, hb9_, hb10_, hb11_, hb12_, if_true, Act.put, List.setIfInBounds_toArray, List.set_cons_zero, List.set_cons_succ]
  have B0 := Aside0.mk Q_B0
  clear Q_B0
  have ZQ := Aside0.mk Q_ZQ
  clear Q_ZQ
  have ZN := Aside0.mk Q_ZN
  clear Q_ZN
  clear Q_ZZ
  have RX := Aside0.mk Q_RX
  clear Q_RX
  have FIN := Aside0.mk (Q_FIN hb10_)
  clear Q_FIN
  clear hall hb0_ hb1_ hb2_ hb3_ hb4_ hb5_ hb6_ hb7_ hb8_ hb9_ hb10_ hb11_ hb12_
  go_wp2_with fail
  (try simp only [Exit.inBlock, Exit.then])
  refine bodyPost_ret (results_ctt rfl _ _ g 29 _ (0, 0) _ _ _ rfl rfl rfl FIN.out Try.underlying29 rfl (by kernel_rfl)) rfl ?_
  obtain ⟨A8, c8, e, hl, hc⟩ := Kd.R_reads RX.out
  injection e with e1 _ e3
  subst e1 e3
  exact ⟨Ax, cx, rfl, hc, hl, B0.out⟩
end Go.Proofs.Ytaepbgieahedjaa.QS
namespace Go.Proofs.Ytaepbgieahedjaa.QS
set_option linter.unusedVariables false
set_option linter.unusedSimpArgs false
open Go.RowKit Go.Proofs.Ytaepbgieahedjaa.Hp Go.Proofs.YtaepbgieahedjaaW.PrintWords Go.Proofs.YtaepbgieahedjaaW.PrintLast Go.Proofs.YtaepbgieahedjaaW.PrintMore
open Go.Proofs.Ytaepbgieahedjaa.IP
section
variable {P : Program} {ops : Array Oper} {Q : Exit → Act → World → Prop}
theorem app_step {oi : Oper} {N : Option Tmp} {a : Act} {w : World} {K : Act → World → Prop} (hw : Region.wanted oi (yielded ops a.tmps) = true) (hN : oi.dst = N) {ts tx : Tmp} {t : TypeId} (ho : oi.op = .call { callee := .builtin .append, args := #[.tmp ts, .tmp tx], argTypes := #[t, t] })
    {v xv : Value} (hs : a.tmps[ts]? = some v) (hx : a.tmps[tx]? = some xv) {v' : Value} {w' : World} (hr : (Builtin.append_ #[t, t] oi.type #[v, xv]).run P w = .ok v' w') (h : K (a.put N v') w') :
    if Region.wanted oi (yielded ops a.tmps) = true then Oper.wp P oi a w K Q else K (a.put N undef) w := by
  rw [if_pos hw]
  subst hN
  have e1 : a.eval (.tmp ts) = v := by simp [Act.eval, Array.getD_eq_getD_getElem?, hs]
  have e2 : a.eval (.tmp tx) = xv := by simp [Act.eval, Array.getD_eq_getD_getElem?, hx]
  unfold Oper.wp execOp
  simp only [ho, resolve, invoke, builtin, Sem.run_bind, Sem.run_pure, Result.andThen_ok, List.map_toArray, List.map_cons, List.map_nil, e1, e2, hr]
  exact h
end
theorem int_app {W : World} {base : Nat} {v : Value} {xs : List Int} (ho : W.ownsRow base 3 1 v xs.length (nums .i64 xs)) (ad : Addr) (m c : Nat) (ys : List Int) (hm : ys.length = m) (h0 : 0 < m) (hc : ∀ (j : Nat) (u : Value), (nums .i64 ys)[j]? = some u → W.cell? (ad.add j) = some u) (hn : xs.length + m ≤ 100000) (hb : base ≤ W.heap.size) (ty : TypeId) (n : Nat) (hN : xs.length + m = n) :
    ∃ A' c' w', (Builtin.append_ #[27, 27] ty #[v, .slice (some ad) m c]).run Try.prog W = .ok (.slice A' n c') w' ∧ w'.ownsRow base 3 1 (.slice A' n c') (xs ++ ys).length (nums .i64 (xs ++ ys)) ∧ W.grownBy w' v.ownBlock ∧ ∀ k, (Value.slice A' n c').ownBlock = some k → v.ownBlock = some k ∨ W.heap.size ≤ k := by
  subst hN
  obtain ⟨v', w', h1, h2, h3, h4⟩ := app_any base ty 27 3 Try.underlying27 inf_int rfl (by decide) (by decide) (by decide) v xs.length (nums .i64 xs) ho ad m c (nums .i64 ys) (by rw [nums_length, hm, Nat.mul_one]) hc (by intro u hu; obtain ⟨x, _, rfl⟩ := List.mem_map.1 hu; rfl) hn hb
  obtain ⟨g, cap, rfl, _, _⟩ := h2.form (by omega)
  refine ⟨_, _, w', h1, ?_, h3, fun k hk => ?_⟩
  · rw [List.length_append, hm]
    have e : nums .i64 (xs ++ ys) = nums .i64 xs ++ nums .i64 ys := by unfold nums; rw [List.map_append]
    rw [e]
    exact h2
  · rcases h4 with h4 | h4
    · exact .inl (h4.symm.trans hk)
    · rw [h4] at hk
      exact .inr (Nat.le_of_eq (Option.some.inj hk))
theorem one_src {W : World} {gx : Nat} {y : Int} (h : W.heap[gx]? = some (.cells #[.int .i64 y] 3 (0, 0))) : ∀ (j : Nat) (u : Value), (nums .i64 [y])[j]? = some u → W.cell? ((⟨gx, 0, none⟩ : Addr).add j) = some u := by
  intro j u hu
  cases j with
  | zero => rw [add_at, blk_cell h]; exact hu
  | succ j => cases hu
def pagesOf (l : List R0) : List Int := l.flatMap fun x => x.f6 :: x.f7
theorem pages_succ {l : List R0} {i : Nat} {x : R0} (h : l[i]? = some x) : pagesOf (l.take (i + 1)) = pagesOf (l.take i) ++ [x.f6] ++ x.f7 := by
  unfold pagesOf
  rw [List.take_add_one, h, List.flatMap_append]
  simp
theorem pages_len (l : List R0) (h : ∀ x ∈ l, x.f7.length ≤ 14) : (pagesOf l).length ≤ l.length * 15 := by
  unfold pagesOf
  induction l with
  | nil => simp
  | cons a r ih =>
    rw [List.flatMap_cons, List.length_append, List.length_cons, List.length_cons, Nat.add_mul]
    have := h a (List.mem_cons_self ..)
    have := ih (fun x hx => h x (List.mem_cons_of_mem _ hx))
    omega
def PagesTo (W w' : World) (e : Ending) (l : List Int) : Prop := ∃ v, e = .returned v ∧ (Kd.int .i64).R 3 w' W.heap.size (fun k => W.heap.size ≤ k) v l ∧ Below W.heap.size W w'
def ipg5.T5 : Bool × List (List Nat × List Nat) := (true, [([], []), ([], []), ([1], [1]), ([2], [2]), ([0, 3], [0, 3]), ([], []), ([5], [5]), ([4, 6, 4], [4, 6]), ([7, 7, 0, 1, 2, 3, 4, 5, 6, 7], [0, 7])])
def ipg5.B5 : List Nat := [0, 0, 2, 6, 15, 0, 32, 127, 255]
theorem ipg5.tab5 : rtab .any (opsOf Try.f13 5) = ipg5.T5 := by kernel_rfl
theorem ipg5.bits5 : waitsOk ipg5.T5.2 ipg5.B5 = true := by kernel_rfl
set_option maxHeartbeats 4000000 in
set_option maxRecDepth 100000 in
theorem pages_calls {W : World} {base g0 : Nat} {l : List R0} (h : IX W base g0 l) (hn : l.length ≤ 1000) (hp : ∀ x ∈ l, 1 ≤ x.f7.length ∧ x.f7.length ≤ 14) : Calls Try.prog 13 #[.pointer (some ⟨g0, 0, none⟩)] W fun e w' => PagesTo W w' e (pagesOf l) := by
  have HS := Aside0.mk (all_calls h hn (fun x hx => by have := hp x hx; omega))
  have HN := Aside0.mk (And.intro hn hp)
  clear h hn hp
  go_enter Try.func13, Try.ntmps13
  go_upto_block 0 with (go_at_call 21; refine HS.out.mono ?_; rintro e w2 ⟨v, rfl, hR, hb⟩; obtain ⟨A, cp, e1, hcl, hC⟩ := Kd.R_reads hR; subst e1; have HC := Aside0.mk hC; have HB := Aside0.mk hb; clear hb hR hC hcl)
  clear HS
  go_wp2_with fail
  go_loopg [3, 9] (l.length + 1) (fun kq v3 v9 w' => ∃ i : Nat, v9 = .int .i64 (i : Int) ∧ Aside0 (i ≤ l.length ∧ kq + i = l.length + 1) ∧ Aside0 (w'.ownsRow w2.heap.size 3 1 v3 (pagesOf (l.take i)).length (nums .i64 (pagesOf (l.take i)))) ∧ Aside0 (Below w2.heap.size w2 w'))
  case atStart => exact ⟨0, rfl, ⟨Nat.zero_le _, rfl⟩, ⟨World.ownsRow_nil _ _ _ _⟩, ⟨Below.refl _ _⟩⟩
  case round =>
    obtain ⟨i, rfl, HI, HO, BB⟩ := hrel
    by_cases hi : i < l.length
    case neg =>
      have hie : i = l.length := by have := HI.out; omega
      subst hie
      have t1 : decide ((l.length : Int) < (l.length : Int)) = false := decide_eq_false (by omega)
      have ho := HO.out
      rw [List.take_length] at ho
      replace ho := Aside0.mk ho
      clear HO hi
      go_wp2_with fail
      go_ret
      have hsz : W.heap.size ≤ w2.heap.size := HB.out.size
      exact ⟨_, rfl, Kd.R_lower (Kd.R_of_own (enc := Value.int .i64) ho.out (fun k hk => Nat.le_trans hsz (ho.out.lt k hk).1)) hsz, below_then HB.out HB.out.size BB.out⟩
    case pos =>
      have t1 : decide ((i : Int) < (l.length : Int)) = true := decide_eq_true (by omega)
      have t2 : decide (i < l.length) = true := decide_eq_true hi
      obtain ⟨ad, Ap, cpp, rfl, hx0, hx1, hx2, hx3, hx4, hx5, hx6, hx7, hlp, hCp⟩ := at_T29 HC.out (i : Int) (by omega) (by omega)
      obtain ⟨x, hxe⟩ : ∃ x, x = l[i] := ⟨_, rfl⟩
      have hrd : rd_T29 l (i : Int) = x := by
        unfold rd_T29
        rw [hxe, Int.toNat_natCast, List.getD_eq_getElem?_getD, List.getElem?_eq_getElem hi]
        rfl
      rw [hrd] at hx0 hx1 hx2 hx3 hx4 hx5 hx6 hx7 hlp hCp
      rw [Int.toNat_natCast] at hx0 hx1 hx2 hx3 hx4 hx5 hx6 hx7
      replace hx0 := pw_cell_below BB.out hx0
      replace hx1 := pw_cell_below BB.out hx1
      replace hx2 := pw_cell_below BB.out hx2
      replace hx3 := pw_cell_below BB.out hx3
      replace hx4 := pw_cell_below BB.out hx4
      replace hx5 := pw_cell_below BB.out hx5
      replace hx6 := pw_cell_below BB.out hx6
      replace hx7 := pw_cell_below BB.out hx7
      have hxp := HN.out.2 x (by rw [hxe]; exact List.getElem_mem hi)
      have HXI : Aside0 (l[i]? = some x) := ⟨by rw [List.getElem?_eq_getElem hi, hxe]⟩
      have p1 := eq_true (show (0 : Int) ≤ (i : Int) by omega)
      have q1 := eq_true (show (i : Int) < (l.length : Int) by omega)
      obtain ⟨acc, hacc⟩ : ∃ acc, acc = pagesOf (l.take i) := ⟨_, rfl⟩
      rw [← hacc] at HO
      have HAL : Aside0 (acc.length ≤ 15000) := ⟨by
        rw [hacc]
        have h1 := pages_len (l.take i) (fun y hy => (HN.out.2 y (List.mem_of_mem_take hy)).2)
        have h2 := List.length_take_le i l
        have h3 := HN.out.1
        have h4 : (l.take i).length ≤ 1000 := by rw [List.length_take]; omega
        omega⟩
      have HAS : Aside0 (pagesOf (l.take (i + 1)) = acc ++ [x.f6] ++ x.f7) := ⟨by rw [hacc]; exact pages_succ HXI.out⟩
      obtain ⟨adp, hadp⟩ : ∃ ad, Ap = some ad := by
        obtain ⟨ad, e, _⟩ := (Kd.reads_of_C (d := (0 : Int)) hCp).2.2 (by omega)
        exact ⟨ad, e⟩
      subst hadp
      obtain ⟨g5, hg5⟩ : ∃ g, g = wr.heap.size := ⟨_, rfl⟩
      have hbx := heap_alloc_new wr (.cells #[.int .u64 x.f0, .int .u64 x.f1, .int .i64 x.f2, .int .i64 x.f3, .int .u64 x.f4, .bool x.f5, .int .i64 x.f6, .slice (some adp) x.f7.length cpp] 29)
      have hbb := below_alloc (Below.refl wr.heap.size wr) (.cells #[.int .u64 x.f0, .int .u64 x.f1, .int .i64 x.f2, .int .i64 x.f3, .int .u64 x.f4, .bool x.f5, .int .i64 x.f6, .slice (some adp) x.f7.length cpp] 29)
      have HI2 := Aside0.mk hi
      have HU : Aside0 (∀ k, u3.ownBlock = some k → k ≠ g5) := ⟨fun k hk => by have := (HO.out.lt k hk).2; omega⟩
      have HC2 := Aside0.mk hCp
      have HO1 := Aside0.mk (HO.out.alloc (.cells #[.int .u64 x.f0, .int .u64 x.f1, .int .i64 x.f2, .int .i64 x.f3, .int .u64 x.f4, .bool x.f5, .int .i64 x.f6, .slice (some adp) x.f7.length cpp] 29))
      have HXP := Aside0.mk hxp
      have HLP := Aside0.mk hlp
      clear hlp hCp hrd hxp hi hxe
      go_upto_region 5 with fail
      generalize wr.alloc (.cells #[.int .u64 x.f0, .int .u64 x.f1, .int .i64 x.f2, .int .i64 x.f3, .int .u64 x.f4, .bool x.f5, .int .i64 x.f6, .slice (some adp) x.f7.length cpp] 29) = W1 at hbx hbb HO1 ⊢
      rw [← hg5] at hbx ⊢
      clear hx0 hx1 hx2 hx3 hx4 hx5 hx6 hx7 p1 q1 t1 t2 HO
      have HSZ : Aside0 (w2.heap.size ≤ W1.heap.size) := ⟨Nat.le_trans BB.out.size hbb.size⟩
      have BX := Aside0.mk (below_then (below_then BB.out BB.out.size hbb) (Nat.le_trans BB.out.size hbb.size) (below_drew1 (Below.refl W1.heap.size W1)))
      have OR := Aside0.mk (HO1.out.kept (grown_of_below (below_drew1 (Below.refl W1.heap.size W1)) none) (by cases h : u3.ownBlock with | none => exact .inl rfl | some k => exact .inr (by simp)))
      have ZR := Aside0.mk (show W1.drew.heap[g5]? = some (.cells #[.int .u64 x.f0, .int .u64 x.f1, .int .i64 x.f2, .int .i64 x.f3, .int .u64 x.f4, .bool x.f5, .int .i64 x.f6, .slice (some adp) x.f7.length cpp] 29 (0, 0)) from hbx)
      obtain ⟨n1, hn1⟩ : ∃ n, acc.length + 1 = n := ⟨_, rfl⟩
      obtain ⟨n2, hn2⟩ : ∃ n, (acc ++ [x.f6]).length + x.f7.length = n := ⟨_, rfl⟩
      have HN1 := Aside0.mk hn1
      have HN2 := Aside0.mk hn2
      have SZ := Aside0.mk (show W1.heap.size ≤ W1.drew.heap.size from Nat.le_refl _)
      have HCW := Aside0.mk (And.intro (blk_lt hbx) hbb)
      have HCC : Aside0 (∀ w' : World, Below w2.heap.size w2 w' → ∀ (j : Nat) (u : Value), (nums .i64 x.f7)[j]? = some u → w'.cell? (adp.add j) = some u) := ⟨fun w' hb j u hu => by
        unfold nums at hu
        rw [List.getElem?_map] at hu
        obtain ⟨y, hy, rfl⟩ := Option.map_eq_some_iff.1 hu
        have hj := (List.getElem?_eq_some_iff.1 hy).1
        obtain ⟨ad', he, hc⟩ := (Kd.reads_of_C (d := (0 : Int)) (Kd.C_below HC2.out hb)).2.2 (by omega)
        obtain rfl := Option.some.inj he
        rw [hc j hj, List.getD_eq_getElem?_getD, hy]
        rfl⟩
      have GX := True.intro
      have ON := True.intro
      have FIN := True.intro
      have HLL : Aside0 ((acc ++ [x.f6]).length + x.f7.length ≤ 100000 ∧ acc.length + 1 ≤ 100000 ∧ 0 < x.f7.length) := ⟨by have := HAL.out; have := HXP.out; rw [List.length_append, List.length_singleton]; omega⟩
      clear hbx hbb hn1 hn2 hg5 hacc
      refine start_ (n := 9) (S := fun w' => True) (ds := []) #[false, false, false, false, false, false, false, false, false] (by kernel_rfl) rfl rfl trivial (fun hHeld => ?_)
      refine with_tabW ipg5.tab5 ipg5.bits5 (fun HT_ HW_ => ?_)
      generalize W1.drew = wz at BX SZ OR ZR hHeld ⊢
      refine inv_at [0, 1, 2, 3, 4, 5, 6, 7, 8] (fun a0_ b a w' => ∃ (gx : Nat) (A17 : Option Addr) (c17 : Nat) (A20 : Option Addr) (c20 : Nat) (m3_ : Value) (m4_ : Value) (m7_ : Value) (m8_ : Value), a = putSel a0_ b [(0, 13, u3), (1, 14, .pointer (some ⟨g5, 6, none⟩)), (2, 15, .int .i64 x.f6), (3, 16, m3_), (4, 17, m4_), (5, 18, .pointer (some ⟨g5, 7, none⟩)), (6, 19, .slice (some adp) x.f7.length cpp), (7, 20, m7_), (8, 3, m8_)] ∧ (Below w2.heap.size w2 w') ∧ (W1.heap.size ≤ w'.heap.size) ∧ (b 4 = false → w'.ownsRow w2.heap.size 3 1 u3 acc.length (nums .i64 acc)) ∧ (w'.heap[g5]? = some (.cells #[.int .u64 x.f0, .int .u64 x.f1, .int .i64 x.f2, .int .i64 x.f3, .int .u64 x.f4, .bool x.f5, .int .i64 x.f6, .slice (some adp) x.f7.length cpp] 29 (0, 0))) ∧ (b 3 = true → b 4 = false → w'.heap[gx]? = some (.cells #[.int .i64 x.f6] 3 (0, 0))) ∧ (b 4 = true → b 7 = false → (w'.ownsRow w2.heap.size 3 1 (.slice A17 n1 c17) (acc ++ [x.f6]).length (nums .i64 (acc ++ [x.f6])) ∧ ∀ k, (Value.slice A17 n1 c17).ownBlock = some k → k ≠ g5)) ∧ (b 7 = true → w'.ownsRow w2.heap.size 3 1 (.slice A20 n2 c20) (acc ++ [x.f6] ++ x.f7).length (nums .i64 (acc ++ [x.f6] ++ x.f7))) ∧ (b 3 = true → (m3_ : Value) = .slice (some ⟨gx, 0, none⟩) 1 1) ∧ (b 4 = true → (m4_ : Value) = .slice A17 n1 c17) ∧ (b 7 = true → (m7_ : Value) = .slice A20 n2 c20) ∧ (b 8 = true → (m8_ : Value) = .slice A20 n2 c20)) HT_.out HW_.out (by kernel_rfl) (by kernel_rfl) ?_ ?_ ?_
      · exact ⟨0, none, 0, none, 0, .bool false, .bool false, .bool false, .bool false, by simp only [putSel, Bool.false_eq_true, if_false], BX.out, SZ.out, fun _ => OR.out, ZR.out, fun h_ => absurd h_ (by decide), fun h_ => absurd h_ (by decide), fun h_ => absurd h_ (by decide), fun h_ => absurd h_ (by decide), fun h_ => absurd h_ (by decide), fun h_ => absurd h_ (by decide), fun h_ => absurd h_ (by decide)⟩
      · skip
        clear BX OR SZ ZR
        refine steps_cons ?_ ?_
        · rintro b a w' ⟨gx, A17, c17, A20, c20, m3_, m4_, m7_, m8_, ha, Q_BX, Q_SZ, Q_OR, Q_ZR, Q_GX, Q_ON, Q_FIN, Q_X3_, Q_X4_, Q_X7_, Q_X8_⟩ hb_ hon hoff
          refine ⟨_, rfl, fun K hK => ?_⟩
          have e3 : a.tmps[3]? = some (u3) := by rw [ha]; exact (putSel_not (hoff 8 (by kernel_rfl)) rfl).trans rfl
          replace ha := Aside0.mk ha
          have BX := Aside0.mk Q_BX
          have SZ := Aside0.mk Q_SZ
          have OR := Aside0.mk (Q_OR (hoff 4 (by kernel_rfl)))
          have ZR := Aside0.mk Q_ZR
          refine value_ (w1 := w') (v := u3) (by rfl) rfl ?_ ?_
          · go_simp
            (try simp only [i64_w])
            try rfl
          refine hK.out _ _ ⟨gx, A17, c17, A20, c20, m3_, m4_, m7_, m8_, (by rw [ha.out]; exact putSel_upk 0 hb_ rfl rfl rfl), Q_BX, Q_SZ, Q_OR, Q_ZR, Q_GX, fun h0_ _ => absurd ((hoff 4 (by kernel_rfl)).symm.trans h0_) (by decide), fun h0_ => absurd ((hoff 7 (by kernel_rfl)).symm.trans h0_) (by decide), Q_X3_, fun h0_ => absurd ((hoff 4 (by kernel_rfl)).symm.trans h0_) (by decide), fun h0_ => absurd ((hoff 7 (by kernel_rfl)).symm.trans h0_) (by decide), fun h0_ => absurd ((hoff 8 (by kernel_rfl)).symm.trans h0_) (by decide)⟩
        refine steps_cons ?_ ?_
        · rintro b a w' ⟨gx, A17, c17, A20, c20, m3_, m4_, m7_, m8_, ha, Q_BX, Q_SZ, Q_OR, Q_ZR, Q_GX, Q_ON, Q_FIN, Q_X3_, Q_X4_, Q_X7_, Q_X8_⟩ hb_ hon hoff
          refine ⟨_, rfl, fun K hK => ?_⟩
          have e5 : a.tmps[5]? = some (.pointer (some ⟨g5, 0, none⟩)) := by rw [ha]; exact (putSel_off rfl).trans rfl
          replace ha := Aside0.mk ha
          have BX := Aside0.mk Q_BX
          have SZ := Aside0.mk Q_SZ
          have OR := Aside0.mk (Q_OR (hoff 4 (by kernel_rfl)))
          have ZR := Aside0.mk Q_ZR
          refine value_ (w1 := w') (v := .pointer (some ⟨g5, 6, none⟩)) (by rfl) rfl ?_ ?_
          · go_simp
            (try simp only [i64_w])
            try rfl
          refine hK.out _ _ ⟨gx, A17, c17, A20, c20, m3_, m4_, m7_, m8_, (by rw [ha.out]; exact putSel_upk 1 hb_ rfl rfl rfl), Q_BX, Q_SZ, Q_OR, Q_ZR, fun h0_ _ => absurd ((hoff 3 (by kernel_rfl)).symm.trans h0_) (by decide), fun h0_ _ => absurd ((hoff 4 (by kernel_rfl)).symm.trans h0_) (by decide), fun h0_ => absurd ((hoff 7 (by kernel_rfl)).symm.trans h0_) (by decide), fun h0_ => absurd ((hoff 3 (by kernel_rfl)).symm.trans h0_) (by decide), fun h0_ => absurd ((hoff 4 (by kernel_rfl)).symm.trans h0_) (by decide), fun h0_ => absurd ((hoff 7 (by kernel_rfl)).symm.trans h0_) (by decide), fun h0_ => absurd ((hoff 8 (by kernel_rfl)).symm.trans h0_) (by decide)⟩
        refine steps_cons ?_ ?_
        · rintro b a w' ⟨gx, A17, c17, A20, c20, m3_, m4_, m7_, m8_, ha, Q_BX, Q_SZ, Q_OR, Q_ZR, Q_GX, Q_ON, Q_FIN, Q_X3_, Q_X4_, Q_X7_, Q_X8_⟩ hb_ hon hoff
          refine ⟨_, rfl, fun K hK => ?_⟩
          have e14 : a.tmps[14]? = some (.pointer (some ⟨g5, 6, none⟩)) := by rw [ha]; exact putSel_on (e := (1, 14, .pointer (some ⟨g5, 6, none⟩))) 1 rfl rfl (hon 1 (by kernel_rfl)) rfl
          replace ha := Aside0.mk ha
          have BX := Aside0.mk Q_BX
          have SZ := Aside0.mk Q_SZ
          have OR := Aside0.mk (Q_OR (hoff 4 (by kernel_rfl)))
          have ZR := Aside0.mk Q_ZR
          have c0_ := blk_cell (ZR.out) 6
          refine value_ (w1 := w') (v := .int .i64 x.f6) (by rfl) rfl ?_ ?_
          · go_simp
            (try simp only [i64_w])
            try rfl
          refine hK.out _ _ ⟨gx, A17, c17, A20, c20, m3_, m4_, m7_, m8_, (by rw [ha.out]; exact putSel_upk 2 hb_ rfl rfl rfl), Q_BX, Q_SZ, Q_OR, Q_ZR, fun h0_ _ => absurd ((hoff 3 (by kernel_rfl)).symm.trans h0_) (by decide), fun h0_ _ => absurd ((hoff 4 (by kernel_rfl)).symm.trans h0_) (by decide), fun h0_ => absurd ((hoff 7 (by kernel_rfl)).symm.trans h0_) (by decide), fun h0_ => absurd ((hoff 3 (by kernel_rfl)).symm.trans h0_) (by decide), fun h0_ => absurd ((hoff 4 (by kernel_rfl)).symm.trans h0_) (by decide), fun h0_ => absurd ((hoff 7 (by kernel_rfl)).symm.trans h0_) (by decide), fun h0_ => absurd ((hoff 8 (by kernel_rfl)).symm.trans h0_) (by decide)⟩
        refine steps_cons ?_ ?_
        · rintro b a w' ⟨gx, A17, c17, A20, c20, m3_, m4_, m7_, m8_, ha, Q_BX, Q_SZ, Q_OR, Q_ZR, Q_GX, Q_ON, Q_FIN, Q_X3_, Q_X4_, Q_X7_, Q_X8_⟩ hb_ hon hoff
          refine ⟨_, rfl, fun K hK => ?_⟩
          have e15 : a.tmps[15]? = some (.int .i64 x.f6) := by rw [ha]; exact putSel_on (e := (2, 15, .int .i64 x.f6)) 2 rfl rfl (hon 2 (by kernel_rfl)) rfl
          replace ha := Aside0.mk ha
          have BX := Aside0.mk Q_BX
          have SZ := Aside0.mk Q_SZ
          have OR := Aside0.mk (Q_OR (hoff 4 (by kernel_rfl)))
          have ZR := Aside0.mk Q_ZR
          refine value_ (w1 := w'.alloc (Obj.cells #[.int .i64 x.f6] 3)) (v := .slice (some ⟨w'.heap.size, 0, none⟩) 1 1) (by rfl) rfl (by first | (go_simp; done) | (go_simp; rfl)) ?_
          have hb := below_alloc (Below.refl w'.heap.size w') (Obj.cells #[.int .i64 x.f6] 3)
          refine hK.out _ _ ⟨w'.heap.size, A17, c17, A20, c20, (.slice (some ⟨w'.heap.size, 0, none⟩) 1 1), m4_, m7_, m8_, (by rw [ha.out]; exact putSel_upk 3 hb_ rfl rfl rfl), below_then BX.out BX.out.size hb, Nat.le_trans SZ.out hb.size, fun _ => OR.out.alloc _, blk_below ZR.out hb, fun _ _ => heap_alloc_new w' _, fun h0_ _ => absurd ((hoff 4 (by kernel_rfl)).symm.trans h0_) (by decide), fun h0_ => absurd ((hoff 7 (by kernel_rfl)).symm.trans h0_) (by decide), fun _ => rfl, fun h0_ => absurd ((hoff 4 (by kernel_rfl)).symm.trans h0_) (by decide), fun h0_ => absurd ((hoff 7 (by kernel_rfl)).symm.trans h0_) (by decide), fun h0_ => absurd ((hoff 8 (by kernel_rfl)).symm.trans h0_) (by decide)⟩
        refine steps_cons ?_ ?_
        · rintro b a w' ⟨gx, A17, c17, A20, c20, m3_, m4_, m7_, m8_, ha, Q_BX, Q_SZ, Q_OR, Q_ZR, Q_GX, Q_ON, Q_FIN, Q_X3_, Q_X4_, Q_X7_, Q_X8_⟩ hb_ hon hoff
          refine ⟨_, rfl, fun K hK => ?_⟩
          have e13 : a.tmps[13]? = some (u3) := by rw [ha]; exact putSel_on (e := (0, 13, u3)) 0 rfl rfl (hon 0 (by kernel_rfl)) rfl
          have e16 : a.tmps[16]? = some (m3_) := by rw [ha]; exact putSel_on (e := (3, 16, m3_)) 3 rfl rfl (hon 3 (by kernel_rfl)) rfl
          rw [Q_X3_ (hon 3 (by kernel_rfl))] at e16
          replace ha := Aside0.mk ha
          have BX := Aside0.mk Q_BX
          have SZ := Aside0.mk Q_SZ
          have OR := Aside0.mk (Q_OR hb_)
          have ZR := Aside0.mk Q_ZR
          have GX := Aside0.mk (Q_GX (hon 3 (by kernel_rfl)) hb_)
          obtain ⟨A_, c_, w2_, hr_, ho_, hg_, hk_⟩ := int_app OR.out ⟨gx, 0, none⟩ 1 1 [x.f6] rfl (by decide) (one_src GX.out) HLL.out.2.1 BX.out.size 27 n1 HN1.out
          refine app_step (by rfl) rfl rfl e13 e16 hr_ ?_
          refine hK.out _ _ ⟨gx, A_, c_, A20, c20, m3_, (.slice A_ n1 c_), m7_, m8_, (by rw [ha.out]; exact putSel_upk 4 hb_ rfl rfl rfl), pw_below_grown BX.out _ BX.out.size hg_ (fun k hk => (OR.out.lt k hk).1), Nat.le_trans SZ.out hg_.size, fun h0_ => absurd ((up_self b 4).symm.trans h0_) (by decide), blk_grown ZR.out hg_ (fun e_ => HU.out g5 e_.symm rfl), fun _ h1_ => absurd ((up_self b 4).symm.trans h1_) (by decide), fun _ _ => ⟨ho_, fun k hk => (hk_ k hk).elim (HU.out k) (fun h => Nat.ne_of_gt (Nat.lt_of_lt_of_le HCW.out.1 (Nat.le_trans SZ.out h)))⟩, fun h0_ => absurd ((hoff 7 (by kernel_rfl)).symm.trans h0_) (by decide), Q_X3_, fun _ => rfl, fun h0_ => absurd ((hoff 7 (by kernel_rfl)).symm.trans h0_) (by decide), fun h0_ => absurd ((hoff 8 (by kernel_rfl)).symm.trans h0_) (by decide)⟩
        refine steps_cons ?_ ?_
        · rintro b a w' ⟨gx, A17, c17, A20, c20, m3_, m4_, m7_, m8_, ha, Q_BX, Q_SZ, Q_OR, Q_ZR, Q_GX, Q_ON, Q_FIN, Q_X3_, Q_X4_, Q_X7_, Q_X8_⟩ hb_ hon hoff
          refine ⟨_, rfl, fun K hK => ?_⟩
          have e5 : a.tmps[5]? = some (.pointer (some ⟨g5, 0, none⟩)) := by rw [ha]; exact (putSel_off rfl).trans rfl
          replace ha := Aside0.mk ha
          have BX := Aside0.mk Q_BX
          have SZ := Aside0.mk Q_SZ
          have ZR := Aside0.mk Q_ZR
          refine value_ (w1 := w') (v := .pointer (some ⟨g5, 7, none⟩)) (by rfl) rfl ?_ ?_
          · go_simp
            (try simp only [i64_w])
            try rfl
          refine hK.out _ _ ⟨gx, A17, c17, A20, c20, m3_, m4_, m7_, m8_, (by rw [ha.out]; exact putSel_upk 5 hb_ rfl rfl rfl), Q_BX, Q_SZ, Q_OR, Q_ZR, Q_GX, Q_ON, fun h0_ => absurd ((hoff 7 (by kernel_rfl)).symm.trans h0_) (by decide), Q_X3_, Q_X4_, fun h0_ => absurd ((hoff 7 (by kernel_rfl)).symm.trans h0_) (by decide), fun h0_ => absurd ((hoff 8 (by kernel_rfl)).symm.trans h0_) (by decide)⟩
        refine steps_cons ?_ ?_
        · rintro b a w' ⟨gx, A17, c17, A20, c20, m3_, m4_, m7_, m8_, ha, Q_BX, Q_SZ, Q_OR, Q_ZR, Q_GX, Q_ON, Q_FIN, Q_X3_, Q_X4_, Q_X7_, Q_X8_⟩ hb_ hon hoff
          refine ⟨_, rfl, fun K hK => ?_⟩
          have e18 : a.tmps[18]? = some (.pointer (some ⟨g5, 7, none⟩)) := by rw [ha]; exact putSel_on (e := (5, 18, .pointer (some ⟨g5, 7, none⟩))) 5 rfl rfl (hon 5 (by kernel_rfl)) rfl
          replace ha := Aside0.mk ha
          have BX := Aside0.mk Q_BX
          have SZ := Aside0.mk Q_SZ
          have ZR := Aside0.mk Q_ZR
          have c0_ := blk_cell (ZR.out) 7
          refine value_ (w1 := w') (v := .slice (some adp) x.f7.length cpp) (by rfl) rfl ?_ ?_
          · go_simp
            (try simp only [i64_w])
            try rfl
          refine hK.out _ _ ⟨gx, A17, c17, A20, c20, m3_, m4_, m7_, m8_, (by rw [ha.out]; exact putSel_upk 6 hb_ rfl rfl rfl), Q_BX, Q_SZ, Q_OR, Q_ZR, Q_GX, Q_ON, fun h0_ => absurd ((hoff 7 (by kernel_rfl)).symm.trans h0_) (by decide), Q_X3_, Q_X4_, fun h0_ => absurd ((hoff 7 (by kernel_rfl)).symm.trans h0_) (by decide), fun h0_ => absurd ((hoff 8 (by kernel_rfl)).symm.trans h0_) (by decide)⟩
        refine steps_cons ?_ ?_
        · rintro b a w' ⟨gx, A17, c17, A20, c20, m3_, m4_, m7_, m8_, ha, Q_BX, Q_SZ, Q_OR, Q_ZR, Q_GX, Q_ON, Q_FIN, Q_X3_, Q_X4_, Q_X7_, Q_X8_⟩ hb_ hon hoff
          refine ⟨_, rfl, fun K hK => ?_⟩
          have e17 : a.tmps[17]? = some (m4_) := by rw [ha]; exact putSel_on (e := (4, 17, m4_)) 4 rfl rfl (hon 4 (by kernel_rfl)) rfl
          rw [Q_X4_ (hon 4 (by kernel_rfl))] at e17
          have e19 : a.tmps[19]? = some (.slice (some adp) x.f7.length cpp) := by rw [ha]; exact putSel_on (e := (6, 19, .slice (some adp) x.f7.length cpp)) 6 rfl rfl (hon 6 (by kernel_rfl)) rfl
          replace ha := Aside0.mk ha
          have BX := Aside0.mk Q_BX
          have SZ := Aside0.mk Q_SZ
          have ZR := Aside0.mk Q_ZR
          have ON := Aside0.mk (Q_ON (hon 4 (by kernel_rfl)) hb_)
          obtain ⟨A_, c_, w2_, hr_, ho_, hg_, hk_⟩ := int_app ON.out.1 adp x.f7.length cpp x.f7 rfl HLL.out.2.2 (HCC.out w' BX.out) HLL.out.1 BX.out.size 27 n2 HN2.out
          refine app_step (by rfl) rfl rfl e17 e19 hr_ ?_
          refine hK.out _ _ ⟨gx, A17, c17, A_, c_, m3_, m4_, (.slice A_ n2 c_), m8_, (by rw [ha.out]; exact putSel_upk 7 hb_ rfl rfl rfl), pw_below_grown BX.out _ BX.out.size hg_ (fun k hk => (ON.out.1.lt k hk).1), Nat.le_trans SZ.out hg_.size, fun h0_ => absurd ((hon 4 (by kernel_rfl)).symm.trans h0_) (by decide), blk_grown ZR.out hg_ (fun e_ => ON.out.2 g5 e_.symm rfl), fun _ h1_ => absurd ((hon 4 (by kernel_rfl)).symm.trans h1_) (by decide), fun _ h1_ => absurd ((up_self b 7).symm.trans h1_) (by decide), fun _ => ho_, Q_X3_, Q_X4_, fun _ => rfl, fun h0_ => absurd ((hoff 8 (by kernel_rfl)).symm.trans h0_) (by decide)⟩
        refine steps_cons ?_ ?_
        · rintro b a w' ⟨gx, A17, c17, A20, c20, m3_, m4_, m7_, m8_, ha, Q_BX, Q_SZ, Q_OR, Q_ZR, Q_GX, Q_ON, Q_FIN, Q_X3_, Q_X4_, Q_X7_, Q_X8_⟩ hb_ hon hoff
          refine ⟨_, rfl, fun K hK => ?_⟩
          have e20 : a.tmps[20]? = some (m7_) := by rw [ha]; exact putSel_on (e := (7, 20, m7_)) 7 rfl rfl (hon 7 (by kernel_rfl)) rfl
          rw [Q_X7_ (hon 7 (by kernel_rfl))] at e20
          replace ha := Aside0.mk ha
          have BX := Aside0.mk Q_BX
          have SZ := Aside0.mk Q_SZ
          have ZR := Aside0.mk Q_ZR
          have FIN := Aside0.mk (Q_FIN (hon 7 (by kernel_rfl)))
          refine value_ (w1 := w') (v := .slice A20 n2 c20) (by rfl) rfl ?_ ?_
          · go_simp
            (try simp only [i64_w])
            try rfl
          refine hK.out _ _ ⟨gx, A17, c17, A20, c20, m3_, m4_, m7_, (.slice A20 n2 c20), (by rw [ha.out]; exact putSel_upk 8 hb_ rfl rfl rfl), Q_BX, Q_SZ, fun h0_ => absurd ((hon 4 (by kernel_rfl)).symm.trans h0_) (by decide), Q_ZR, fun _ h1_ => absurd ((hon 4 (by kernel_rfl)).symm.trans h1_) (by decide), fun _ h1_ => absurd ((hon 7 (by kernel_rfl)).symm.trans h1_) (by decide), Q_FIN, Q_X3_, Q_X4_, Q_X7_, fun _ => rfl⟩
        exact steps_nil
      rintro b a w9 hall ⟨gx, A17, c17, A20, c20, m3_, m4_, m7_, m8_, ha, Q_BX, Q_SZ, Q_OR, Q_ZR, Q_GX, Q_ON, Q_FIN, Q_X3_, Q_X4_, Q_X7_, Q_X8_⟩
      clear BX OR SZ ZR
      have hb0_ := hall 0 (by kernel_rfl)
      have hb1_ := hall 1 (by kernel_rfl)
      have hb2_ := hall 2 (by kernel_rfl)
      have hb3_ := hall 3 (by kernel_rfl)
      have hb4_ := hall 4 (by kernel_rfl)
      have hb5_ := hall 5 (by kernel_rfl)
      have hb6_ := hall 6 (by kernel_rfl)
      have hb7_ := hall 7 (by kernel_rfl)
      have hb8_ := hall 8 (by kernel_rfl)
      subst ha
      obtain rfl := Q_X3_ hb3_
      obtain rfl := Q_X4_ hb4_
      obtain rfl := Q_X7_ hb7_
      obtain rfl := Q_X8_ hb8_
      simp only [putSel, hb0_, hb1_, hb2_, hb3_, hb4_, hb5_, hb6_, hb7_, hb8_, if_true, Act.put, List.setIfInBounds_toArray, List.set_cons_zero, List.set_cons_succ]
      have BX := Aside0.mk Q_BX
      clear Q_BX
      have SZ := Aside0.mk Q_SZ
      clear Q_SZ
      clear Q_OR
      have ZR := Aside0.mk Q_ZR
      clear Q_ZR
      clear Q_GX
      clear Q_ON
      have FIN := Aside0.mk (Q_FIN hb7_)
      clear Q_FIN
      clear hall hb0_ hb1_ hb2_ hb3_ hb4_ hb5_ hb6_ hb7_ hb8_
      have t3 : IntKind.i64.wrap ((i : Int) + 1) = ((i + 1 : Nat) : Int) := by have := HI2.out; have := HN.out.1; rw [i64_w]; unfold wrap64; omega
      go_wp2_with fail
      go_roundg (l.length - i)
      case measure => have := HI.out; have := HI2.out; omega
      case rel => exact ⟨i + 1, by first | rfl | (rw [← i64_w, t3]) | (simp; unfold wrap64; have := HI2.out; have := HN.out.1; omega), ⟨by have := HI2.out; omega, by have := HI.out; have := HI2.out; omega⟩, ⟨by rw [HAS.out]; exact FIN.out⟩, BX⟩
end Go.Proofs.Ytaepbgieahedjaa.QS
namespace Go.Proofs.Ytaepbgieahedjaa.QS
set_option linter.unusedVariables false
set_option linter.unusedSimpArgs false
open Go.RowKit Go.Proofs.Ytaepbgieahedjaa.Hp Go.Proofs.YtaepbgieahedjaaW.PrintWords Go.Proofs.YtaepbgieahedjaaW.PrintLast Go.Proofs.YtaepbgieahedjaaW.PrintMore
open Go.Proofs.Ytaepbgieahedjaa.IP
set_option maxHeartbeats 4000000 in
set_option maxRecDepth 100000 in
theorem new_one (x : R0) (A : Option Addr) (c : Nat) (w : World) (hC : Kd.C k29 w A 1 [x]) (hp : x.f7.length ≤ 1000) (hm : mayB x = true) : Calls Try.prog 7 #[.slice A 1 c] w fun e w' => ∃ g, e = .returned (.pointer (some ⟨g, 0, none⟩)) ∧ IX w' w.heap.size g [x] ∧ Below w.heap.size w w' := by
  have hz := heap_alloc_new w (.cells #[.slice none 0 0] 57)
  have hb := below_alloc (Below.refl w.heap.size w) (.cells #[.slice none 0 0] 57)
  obtain ⟨g, hg⟩ : ∃ g, g = w.heap.size := ⟨_, rfl⟩
  have kb : ∀ W : World, (Instr.build 57 #[]).run Try.prog W = .ok (.agg #[.slice none 0 0]) W := fun W => by kernel_rfl
  have HC := Aside0.mk hC
  have HXM := Aside0.mk (And.intro hp hm)
  clear hC hp hm
  go_enter Try.func7, Try.ntmps7
  go_upto_region 2 with fail
  generalize w.alloc (.cells #[.slice none 0 0] 57) = W1 at hz hb ⊢
  rw [← hg] at hz ⊢
  have HB := Aside0.mk hb
  have HX : Aside0 (IX W1 w.heap.size g ([x].take 0)) := ⟨none, 0, hz, Kd.R_nil _ _ _ _ _, Nat.le_of_eq hg.symm⟩
  clear hz hb hg kb
  go_wp2_with fail
  go_loopg [10] 2 (fun kq v10 w' => ∃ i : Nat, v10 = .int .i64 (i : Int) ∧ Aside0 (i ≤ 1 ∧ kq + i = 2) ∧ Aside0 (IX w' w.heap.size g ([x].take i)) ∧ Aside0 (Below w.heap.size w w'))
  case atStart => exact ⟨0, by first | rfl | go_num, ⟨by decide, rfl⟩, HX, HB⟩
  case round =>
    obtain ⟨i, rfl, HI, HX2, HB2⟩ := hrel
    rcases Nat.eq_zero_or_pos i with hi | hi
    · subst hi
      obtain ⟨ad, Ap, cpp, rfl, x0, x1, x2, x3, x4, x5, x6, x7, hlp, hCp⟩ := at_T29 (Kd.C_below HC.out HB2.out) (0 : Int) (by decide) (by decide)
      have hrd : rd_T29 [x] (0 : Int) = x := rfl
      rw [hrd] at x0 x1 x2 x3 x4 x5 x6 x7 hlp hCp
      have h0 : ad.add ((0 : Int).toNat * 8) = ad := by simp [Addr.add]
      rw [h0] at x0 x1 x2 x3 x4 x5 x6 x7
      clear h0
      have hz5 := heap_alloc_new wr (.cells #[.int .u64 x.f0, .int .u64 x.f1, .int .i64 x.f2, .int .i64 x.f3, .int .u64 x.f4, .bool x.f5, .int .i64 x.f6, .slice Ap x.f7.length cpp] 29)
      have hb5 := below_alloc (Below.refl wr.heap.size wr) (.cells #[.int .u64 x.f0, .int .u64 x.f1, .int .i64 x.f2, .int .i64 x.f3, .int .u64 x.f4, .bool x.f5, .int .i64 x.f6, .slice Ap x.f7.length cpp] 29)
      obtain ⟨g5, hg5⟩ : ∃ g, g = wr.heap.size := ⟨_, rfl⟩
      have HCP := Aside0.mk (Kd.C_below hCp hb5)
      have HX5 := Aside0.mk (HX2.out.below hb5)
      clear hlp hCp hrd
      go_upto_region 5 with fail
      generalize wr.alloc (.cells #[.int .u64 x.f0, .int .u64 x.f1, .int .i64 x.f2, .int .i64 x.f3, .int .u64 x.f4, .bool x.f5, .int .i64 x.f6, .slice Ap x.f7.length cpp] 29) = W5 at hz5 hb5 HCP HX5 ⊢
      rw [← hg5] at hz5 ⊢
      have HB5 := Aside0.mk (below_then HB2.out HB2.out.size hb5)
      have c0 := blk_cell hz5 0
      have c1 := blk_cell hz5 1
      have c2 := blk_cell hz5 2
      have c3 := blk_cell hz5 3
      have c4 := blk_cell hz5 4
      have c5 := blk_cell hz5 5
      have c6 := blk_cell hz5 6
      have c7 := blk_cell hz5 7
      have hput := put_end (base := w.heap.size) (l := []) HX5.out x Ap cpp HCP.out HXM.out.1 HXM.out.2 (fun i j a b _ ha _ => by simp at ha) (by decide) rfl rfl
      unfold ragg at hput
      have HPUT := Aside0.mk hput
      clear hz5 hb5 hg5 hput x0 x1 x2 x3 x4 x5 x6 x7
      go_wp2_with (go_at_call 17; refine HPUT.out.mono ?_; rintro e w6 ⟨rfl, hX, hb⟩; have HX6 := Aside0.mk hX; have HB6 := Aside0.mk (HB5.out.trans hb); clear hX hb c0 c1 c2 c3 c4 c5 c6 c7)
      go_roundg 1
      case measure => have := HI.out; omega
      case rel => exact ⟨1, by first | rfl | go_num, ⟨by decide, rfl⟩, HX6, HB6⟩
    · have h1 : i = 1 := by have := HI.out; omega
      subst h1
      clear hi
      go_wp2_with fail
      go_ret
      exact ⟨g, rfl, HX2.out, HB2.out⟩
end Go.Proofs.Ytaepbgieahedjaa.QS
namespace Go.Proofs.Ytaepbgieahedjaa.QS
set_option linter.unusedVariables false
set_option linter.unusedSimpArgs false
open Go.RowKit Go.Proofs.Ytaepbgieahedjaa.Hp Go.Proofs.YtaepbgieahedjaaW.PrintWords Go.Proofs.YtaepbgieahedjaaW.PrintLast Go.Proofs.YtaepbgieahedjaaW.PrintMore
open Go.Proofs.Ytaepbgieahedjaa.IP
theorem C_one {W : World} {g gp c : Nat} {x : R0} {cx : Nat} {cp : Array Value} (hg : W.heap[g]? = some (.cells #[.int .u64 x.f0, .int .u64 x.f1, .int .i64 x.f2, .int .i64 x.f3, .int .u64 x.f4, .bool x.f5, .int .i64 x.f6, .slice (some ⟨gp, 0, none⟩) x.f7.length x.f7.length] 29 (0, 0))) (hp : W.heap[gp]? = some (.cells (nums .i64 x.f7).toArray 3 (0, 0))) (hne : gp ≠ g) (hl : x.f7.length ≤ 1000) :
    Kd.C k29 W (some ⟨g, 0, none⟩) 1 [x] := by
  have hR := R_of_rows (W := W) (base := 0) (ok := fun _ => True) (v := .slice (some ⟨g, 0, none⟩) 1 1) (ps := [(x, (some ⟨gp, 0, none⟩, x.f7.length))]) (fun _ _ => trivial) ?_ ?_
  · obtain ⟨A, c, e, _, hC⟩ := Kd.R_reads hR
    injection e with e1 _ _
    rw [e1]
    exact hC
  · exact ⟨rfl, .inr ⟨g, 1, _, rfl, Nat.zero_le _, hg, Nat.le_refl _, by decide, rfl, rfl⟩⟩
  · intro p hpm
    obtain rfl := List.mem_singleton.1 hpm
    have ho : W.ownsRow 0 3 1 (.slice (some ⟨gp, 0, none⟩) x.f7.length x.f7.length) x.f7.length (nums .i64 x.f7) := ⟨by rw [nums_length, Nat.mul_one], .inr ⟨gp, x.f7.length, _, rfl, Nat.zero_le _, hp, Nat.le_refl _, by unfold maxLen; omega, by rw [List.size_toArray, nums_length, Nat.mul_one], by rw [Nat.mul_one, ← nums_length .i64 x.f7]; exact List.take_length⟩⟩
    exact Kd.R_of_own (enc := Value.int .i64) ho (fun k hk => ⟨trivial, fun e => by have h1 : gp = k := Option.some.inj hk; have h2 : k = g := Option.some.inj e; omega⟩)
abbrev xa : R0 := ⟨4, 5, 0, 250, 9, false, 1, [2, 3]⟩
theorem xa_in : [xa].filter (inB 7) = [xa] := by
  have h : inB 7 xa = true := by kernel_rfl
  rw [List.filter_cons, h, if_pos rfl]
  rfl
theorem ints123 (A A' : Option Addr) (c c' : Nat) (w : World) (h1 : Kd.C (Kd.int .i64) w A 3 [1, 2, 3]) (h2 : 3 ≤ c) (h3 : Kd.C (Kd.int .i64) w A' 3 [1, 2, 3]) (h4 : 3 ≤ c') : Calls Try.prog 12 #[.slice A 3 c, .slice A' 3 c'] w fun e w' => e = .returned (.bool true) ∧ Below w.heap.size w w' := by
  refine (wagtailref01_Ints.calls 9 A c [1, 2, 3] A' c' [1, 2, 3] true w h1 h2 h3 h4 (by kernel_rfl)).mono ?_
  rintro e w' ⟨he, hb⟩
  exact ⟨he, by first | exact hb | exact hb.below⟩
theorem C_lit {W : World} {g : Nat} {xs : List Int} (h : W.heap[g]? = some (.cells (nums .i64 xs).toArray 3 (0, 0))) (hl : xs.length ≤ 1000) : Kd.C (Kd.int .i64) W (some ⟨g, 0, none⟩) xs.length xs := by
  have ho : W.ownsRow 0 3 1 (.slice (some ⟨g, 0, none⟩) xs.length xs.length) xs.length (nums .i64 xs) := ⟨by rw [nums_length, Nat.mul_one], .inr ⟨g, xs.length, _, rfl, Nat.zero_le _, h, Nat.le_refl _, by unfold maxLen; omega, by rw [List.size_toArray, nums_length, Nat.mul_one], by rw [Nat.mul_one, ← nums_length .i64 xs]; exact List.take_length⟩⟩
  obtain ⟨A, c, e, _, hC⟩ := Kd.R_reads (Kd.R_of_own (enc := Value.int .i64) (ok := fun _ => True) ho (fun _ _ => trivial))
  injection e with e1 _ _
  rw [e1]
  exact hC
theorem xa_over : ([xa].filter fun x => decide (x.f4 ≤ 9)) = [xa] := rfl
theorem xa_alive : ([xa].filter fun x => decide (8 < x.f4)) = [xa] := rfl
theorem xa_pages : pagesOf [xa] = [1, 2, 3] := rfl
theorem fr250 : frI 250 = 3 := by kernel_rfl
set_option maxHeartbeats 4000000 in
set_option maxRecDepth 100000 in
theorem awake27_calls (w : World) : Calls Try.prog 6 #[] w fun e w' => e = .returned (.bool true) ∧ Below w.heap.size w w' := by
  have hzp := heap_alloc_new w (.cells #[.int .i64 2, .int .i64 3] 3)
  have hbp := below_alloc (Below.refl w.heap.size w) (.cells #[.int .i64 2, .int .i64 3] 3)
  obtain ⟨gp, hgp⟩ : ∃ g, g = w.heap.size := ⟨_, rfl⟩
  have hs1 : (w.alloc (.cells #[.int .i64 2, .int .i64 3] 3)).heap.size = w.heap.size + 1 := by simp
  rw [← hgp] at hzp hs1
  have HN : Aside0 (∀ wq : World, wq = (w.alloc (.cells #[.int .i64 2, .int .i64 3] 3)).alloc (.cells #[.int .u64 4, .int .u64 5, .int .i64 0, .int .i64 250, .int .u64 9, .bool false, .int .i64 1, .slice (some ⟨gp, 0, none⟩) 2 2] 29) → Below w.heap.size w wq ∧ Calls Try.prog 7 #[.slice (some ⟨gp + 1, 0, none⟩) 1 1] wq fun e w' => ∃ g, e = .returned (.pointer (some ⟨g, 0, none⟩)) ∧ IX w' wq.heap.size g [xa] ∧ Below wq.heap.size wq w') := ⟨fun wq e => by
    subst e
    have hb2 := below_alloc hbp (.cells #[.int .u64 4, .int .u64 5, .int .i64 0, .int .i64 250, .int .u64 9, .bool false, .int .i64 1, .slice (some ⟨gp, 0, none⟩) 2 2] 29)
    have hz2 := heap_alloc_new (w.alloc (.cells #[.int .i64 2, .int .i64 3] 3)) (.cells #[.int .u64 4, .int .u64 5, .int .i64 0, .int .i64 250, .int .u64 9, .bool false, .int .i64 1, .slice (some ⟨gp, 0, none⟩) 2 2] 29)
    rw [hs1] at hz2
    exact ⟨hb2, new_one xa (some ⟨gp + 1, 0, none⟩) 1 _ (C_one (c := 0) (cx := 0) (cp := #[]) (gp := gp) hz2 (blk_below hzp (below_alloc (Below.refl _ _) _)) (by omega) (by decide)) (by decide) (by decide)⟩⟩
  clear hzp hbp hs1
  have HG := Aside0.mk hgp
  go_enter Try.func6, Try.ntmps6
  rw [hgp] at HN
  clear hgp
  go_upto_region 2 with ((go_at_call 7); obtain ⟨hb0, hnew⟩ := HN.out _ rfl; refine hnew.mono ?_; rintro e w3 ⟨g, rfl, hX, hb⟩; have HX := Aside0.mk hX; have HB := Aside0.mk (below_then hb0 hb0.size hb); clear hb0 hnew hX hb)
  clear HN
  have HP : Aside0 (∀ x ∈ [xa], x.f7.length ≤ 1000) := ⟨fun x hx => by rw [List.mem_singleton.1 hx]; decide⟩
  have HP2 : Aside0 (∀ x ∈ [xa], 1 ≤ x.f7.length ∧ x.f7.length ≤ 14) := ⟨fun x hx => by rw [List.mem_singleton.1 hx]; decide⟩
  have HFR := Aside0.mk (frame_yes HX.out (by decide) HP.out 7 xa [] xa_in)
  go_upto_region 3 with ((go_at_call 10); refine HFR.out.mono ?_; rintro e w4 ⟨A4, c4, rfl, _, _, hb⟩; rw [show IntKind.i64.wrap (IntKind.u64.wrap (7 - xa.f1)) = 2 from by decide]; have HX4 := Aside0.mk (HX.out.below hb); have HB4 := Aside0.mk (below_then HB.out HB.out.size hb); clear hb)
  have hz5 := heap_alloc_new w4 (.cells #[.int .u64 4, .int .u64 5, .int .i64 0, .int .i64 250, .int .u64 9, .bool false, .int .i64 1, .slice A4 2 c4] 29)
  have hb5 := below_alloc (Below.refl w4.heap.size w4) (.cells #[.int .u64 4, .int .u64 5, .int .i64 0, .int .i64 250, .int .u64 9, .bool false, .int .i64 1, .slice A4 2 c4] 29)
  obtain ⟨g5, hg5⟩ : ∃ g, g = w4.heap.size := ⟨_, rfl⟩
  clear HX HB HFR
  generalize w4.alloc (.cells #[.int .u64 4, .int .u64 5, .int .i64 0, .int .i64 250, .int .u64 9, .bool false, .int .i64 1, .slice A4 2 c4] 29) = W5 at hz5 hb5 ⊢
  rw [← hg5] at hz5 ⊢
  obtain ⟨bs, HX5⟩ : ∃ bs, Aside0 (IX W5 bs g [xa]) := ⟨_, ⟨HX4.out.below hb5⟩⟩
  have HB5 := Aside0.mk (below_then HB4.out HB4.out.size hb5)
  have c0 := blk_cell hz5 0
  clear hz5 hb5 hg5 HX4 HB4 HG
  go_wp2_with (first
    | (go_at_call 14; refine (frames_calls 250 _).mono ?_; rintro e w6 ⟨rfl, hb⟩; rw [fr250]; have HX6 := Aside0.mk (HX5.out.below hb); have HB6 := Aside0.mk (below_then HB5.out HB5.out.size hb); clear hb c0)
    | (go_at_call 22; refine (over_calls HX6.out (by decide) HP.out 9).mono ?_; rintro e w7 ⟨v, rfl, hR, hb⟩; rw [xa_over] at hR; obtain ⟨A7, c7, rfl⟩ := Kd.R_slice hR; have HX7 := Aside0.mk (HX6.out.below hb); have HB7 := Aside0.mk (below_then HB6.out HB6.out.size hb); clear hb hR)
    | (go_at_call 24; refine (alive_calls HX7.out (by decide) HP.out 8).mono ?_; rintro e w8 ⟨v, rfl, hR, hb⟩; rw [xa_alive] at hR; obtain ⟨A8, c8, rfl⟩ := Kd.R_slice hR; have HX8 := Aside0.mk (HX7.out.below hb); have HB8 := Aside0.mk (below_then HB7.out HB7.out.size hb); clear hb hR)
    | (go_at_call 13; refine (pages_calls HX8.out (by decide) HP2.out).mono ?_; rintro e w9 ⟨v, rfl, hR, hb⟩; rw [xa_pages] at hR; obtain ⟨A9, c9, rfl, hl9, hC9⟩ := Kd.R_reads hR; have HC9 := Aside0.mk (And.intro hC9 hl9); have HB9 := Aside0.mk (below_then HB8.out HB8.out.size hb); clear hb hR hC9 hl9)
    | (go_at_call 12; refine (ints123 _ _ _ _ _ (Kd.C_below HC9.out.1 (below_alloc (Below.refl _ _) _)) HC9.out.2 (C_lit (xs := [1, 2, 3]) (heap_alloc_new _ _) (by decide)) (by decide)).mono ?_; rintro e w10 ⟨rfl, hb⟩; have HB10 := Aside0.mk (below_then (below_alloc HB9.out _) (by have := HB9.out.size; simp; omega) hb); clear hb))
  go_ret
  exact ⟨rfl, HB10.out⟩
end Go.Proofs.Ytaepbgieahedjaa.QS
namespace Go.Proofs.Ytaepbgieahedjaa.QS
set_option linter.unusedVariables false
set_option linter.unusedSimpArgs false
open Go.RowKit Go.Proofs.Ytaepbgieahedjaa.Hp Go.Proofs.YtaepbgieahedjaaW.PrintWords Go.Proofs.YtaepbgieahedjaaW.PrintLast Go.Proofs.YtaepbgieahedjaaW.PrintMore
open Go.Proofs.Ytaepbgieahedjaa.IP
theorem IXr.lt {W : World} {base g : Nat} {l : List R0} {r : Option Nat} (h : IXr W base g l r) : base ≤ g ∧ g < W.heap.size ∧ ∀ k, r = some k → g < k ∧ k < W.heap.size := by
  obtain ⟨A, c, hz, hR, hg, hr⟩ := h
  exact ⟨hg, blk_lt hz, fun k hk => by rw [hr] at hk; exact ⟨hR.1 k hk, Kd.R_lt hR k hk⟩⟩
def Off (g : Nat) (r : Option Nat) (k : Nat) : Prop := k ≠ g ∧ some k ≠ r
def Want (W : World) (g : Nat) (r : Option Nat) (A : Option Addr) (c : Nat) (l : List R0) : Prop := l.length ≤ c ∧ Kd.F k29 W (Off g r) A l.length l
theorem Want.below {W W' : World} {g : Nat} {r : Option Nat} {A : Option Addr} {c : Nat} {l : List R0} (h : Want W g r A c l) (hb : Below W.heap.size W W') : Want W' g r A c l := ⟨h.1, Kd.F_below h.2 hb⟩
theorem Want.now {W : World} {g : Nat} {r : Option Nat} {A : Option Addr} {c : Nat} {l : List R0} (h : Want W g r A c l) : Kd.C k29 W A l.length l := Kd.F_now h.2
theorem Want.nil (W : World) (g : Nat) (r : Option Nat) : Want W g r none 0 [] := ⟨Nat.le_refl _, Kd.F_nil _ _ _⟩
theorem args_F {w W : World} {A : Option Addr} {n : Nat} {xs : List Int} (h : Kd.C (Kd.int .i64) w A n xs) (hb : Below w.heap.size w W) : Kd.F (Kd.int .i64) W (fun k => k < w.heap.size) A n xs :=
  Kd.F_below (fun W' hW => (Kd.heap_int _).C (fun k hk => hW k hk hk) h) hb
theorem Want.put {w W W' : World} {g n : Nat} {r : Option Nat} {A : Option Addr} {c : Nat} {l : List R0} (h : Kd.V k29 29 W' n (fun k => ((Off g r k ∨ k < w.heap.size) ∨ W.heap.size ≤ k)) (.slice A l.length c) l) (h1 : w.heap.size ≤ g) (h2 : g < W.heap.size) (h3 : ∀ k, r = some k → g < k ∧ k < W.heap.size) : Want W' g r A c l := by
  have k := Kd.V_at h
  refine ⟨k.2.1, Kd.F_mono k.2.2 (fun q hq => ?_)⟩
  rcases hq with (hq | hq) | hq
  · exact hq
  · exact ⟨by omega, fun e => by have := h3 q e.symm; omega⟩
  · exact ⟨by omega, fun e => by have := h3 q e.symm; omega⟩
def GoodL (l : List R0) (n : Nat) : Prop := Rising keyR l ∧ l.length ≤ n ∧ n ≤ 41 ∧ ∀ x ∈ l, x.f7.length ≤ 60
theorem GoodL.put {l : List R0} {n : Nat} (h : GoodL l n) (hn : n ≤ 40) {x : R0} (hx : x.f7.length ≤ 60) (hk : hasKey keyR l x.f0 = false) : GoodL (putAt l (low keyR l x.f0) x) (n + 1) := by
  refine ⟨rising_put h.1 hk, ?_, by omega, fun y hy => ?_⟩
  · rw [putAt_length low_le]; have := h.2.1; omega
  · rcases mem_putAt hy with rfl | hy
    · exact hx
    · exact h.2.2.2 y hy
theorem GoodL.drop {l : List R0} {n i : Nat} (h : GoodL l n) (hn : n ≤ 40) (hi : i < l.length) : GoodL (dropAt l i) (n + 1) := by
  refine ⟨rising_drop h.1 hi, ?_, by omega, fun y hy => h.2.2.2 y (mem_dropAt hy)⟩
  rw [dropAt_length hi]; have := h.2.1; omega
theorem C_at {W : World} {A : Option Addr} {l : List R0} (h : Kd.C k29 W A l.length l) {i : Nat} {x : R0} (hx : l[i]? = some x) : ∃ ad Ap cp, A = some ad ∧ W.cell? (ad.add (i * 8)) = some (.int .u64 x.f0) ∧ W.cell? ⟨(ad.add (i * 8)).block, (ad.add (i * 8)).off + 1, none⟩ = some (.int .u64 x.f1) ∧ W.cell? ⟨(ad.add (i * 8)).block, (ad.add (i * 8)).off + 2, none⟩ = some (.int .i64 x.f2) ∧ W.cell? ⟨(ad.add (i * 8)).block, (ad.add (i * 8)).off + 3, none⟩ = some (.int .i64 x.f3) ∧ W.cell? ⟨(ad.add (i * 8)).block, (ad.add (i * 8)).off + 4, none⟩ = some (.int .u64 x.f4) ∧ W.cell? ⟨(ad.add (i * 8)).block, (ad.add (i * 8)).off + 5, none⟩ = some (.bool x.f5) ∧ W.cell? ⟨(ad.add (i * 8)).block, (ad.add (i * 8)).off + 6, none⟩ = some (.int .i64 x.f6) ∧ W.cell? ⟨(ad.add (i * 8)).block, (ad.add (i * 8)).off + 7, none⟩ = some (.slice Ap x.f7.length cp) ∧ x.f7.length ≤ cp ∧ Kd.C (Kd.int .i64) W Ap x.f7.length x.f7 := by
  have hi := (List.getElem?_eq_some_iff.1 hx).1
  obtain ⟨ad, Ap, cpp, hA, x0, x1, x2, x3, x4, x5, x6, x7, hlp, hCp⟩ := at_T29 h (i : Int) (by omega) (by omega)
  have hrd : rd_T29 l (i : Int) = x := by
    rw [rd_nat l i hi]
    rw [List.getElem?_eq_getElem hi] at hx
    exact Option.some.inj hx
  rw [hrd] at x0 x1 x2 x3 x4 x5 x6 x7 hlp hCp
  rw [Int.toNat_natCast] at x0 x1 x2 x3 x4 x5 x6 x7
  exact ⟨ad, Ap, cpp, hA, x0, x1, x2, x3, x4, x5, x6, x7, hlp, hCp⟩
end Go.Proofs.Ytaepbgieahedjaa.QS
namespace Go.Proofs.Ytaepbgieahedjaa.QS
set_option linter.unusedVariables false
set_option linter.unusedSimpArgs false
open Go.RowKit Go.Proofs.Ytaepbgieahedjaa.Hp Go.Proofs.YtaepbgieahedjaaW.PrintWords Go.Proofs.YtaepbgieahedjaaW.PrintLast Go.Proofs.YtaepbgieahedjaaW.PrintMore
open Go.Proofs.Ytaepbgieahedjaa.IP
def idxOf (l : List R0) : List R0 := l.foldl (fun acc x => (putP acc x).1) []
theorem idx_succ {l : List R0} {i : Nat} {x : R0} (h : l[i]? = some x) : idxOf (l.take (i + 1)) = (putP (idxOf (l.take i)) x).1 := by
  unfold idxOf
  rw [List.take_add_one, h, List.foldl_append]
  rfl
def GoodF (l : List R0) (n : Nat) : Prop := Rising keyR l ∧ l.length ≤ n ∧ ∀ y ∈ l, mayB y = true
theorem GoodF.put {l : List R0} {n : Nat} (h : GoodF l n) (x : R0) : GoodF (putP l x).1 (n + 1) := by
  unfold putP
  by_cases hm : mayB x = true
  · rw [if_pos hm]
    by_cases hk : hasKey keyR l x.f0 = true
    · rw [if_pos hk]
      exact ⟨h.1, by have := h.2.1; show l.length ≤ n + 1; omega, h.2.2⟩
    · rw [if_neg hk]
      refine ⟨rising_put h.1 (by simpa using hk), ?_, fun y hy => ?_⟩
      · show (putAt l (low keyR l x.f0) x).length ≤ n + 1
        rw [putAt_length low_le]; have := h.2.1; omega
      · rcases mem_putAt hy with rfl | hy
        · exact hm
        · exact h.2.2 y hy
  · rw [if_neg hm]
    exact ⟨h.1, by have := h.2.1; show l.length ≤ n + 1; omega, h.2.2⟩
theorem idx_good (l : List R0) : ∀ i, i ≤ l.length → GoodF (idxOf (l.take i)) i
  | 0, _ => ⟨rising_nil, Nat.le_refl _, fun y hy => by cases hy⟩
  | i + 1, hi => by
    rw [idx_succ (List.getElem?_eq_getElem (show i < l.length by omega))]
    exact (idx_good l i (by omega)).put _
theorem may_facts {x : R0} (h : mayB x = true) : x.f1 < 2147483648 ∧ 1 ≤ x.f3 ∧ x.f3 ≤ 3192 ∧ 1 ≤ x.f7.length ∧ x.f7.length ≤ 14 := by
  unfold mayB headB at h
  simp only [Bool.and_eq_true, decide_eq_true_eq] at h
  obtain ⟨⟨_, h1, _, _, h3, h4, _, h5, h6⟩, _⟩ := h
  exact ⟨h1, h3, h4, by omega, by omega⟩
theorem GoodF.may {l : List R0} {n : Nat} (h : GoodF l n) : ∀ x ∈ l, x.f7.length ≤ 1000 := fun x hx => by have := may_facts (h.2.2 x hx); omega
set_option maxHeartbeats 4000000 in
set_option maxRecDepth 100000 in
theorem new_calls (l : List R0) (A : Option Addr) (c : Nat) (w : World) (hC : Kd.C k29 w A l.length l) (hl : l.length ≤ 30) (hp : ∀ x ∈ l, x.f7.length ≤ 9223372036854775807) : Calls Try.prog 7 #[.slice A l.length c] w fun e w' => ∃ g, e = .returned (.pointer (some ⟨g, 0, none⟩)) ∧ IX w' w.heap.size g (idxOf l) ∧ Below w.heap.size w w' := by
  have hz := heap_alloc_new w (.cells #[.slice none 0 0] 57)
  have hb := below_alloc (Below.refl w.heap.size w) (.cells #[.slice none 0 0] 57)
  obtain ⟨g, hg⟩ : ∃ g, g = w.heap.size := ⟨_, rfl⟩
  have kb : ∀ W : World, (Instr.build 57 #[]).run Try.prog W = .ok (.agg #[.slice none 0 0]) W := fun W => by kernel_rfl
  have HC := Aside0.mk hC
  have HL := Aside0.mk (And.intro hl hp)
  clear hC hl hp
  go_enter Try.func7, Try.ntmps7
  go_upto_region 2 with fail
  generalize w.alloc (.cells #[.slice none 0 0] 57) = W1 at hz hb ⊢
  rw [← hg] at hz ⊢
  have HB := Aside0.mk hb
  have HX : Aside0 (IX W1 w.heap.size g (idxOf (l.take 0))) := ⟨none, 0, hz, Kd.R_nil _ _ _ _ _, Nat.le_of_eq hg.symm⟩
  clear hz hb hg kb
  go_wp2_with fail
  go_loopg [10] (l.length + 1) (fun kq v10 w' => ∃ i : Nat, v10 = .int .i64 (i : Int) ∧ Aside0 (i ≤ l.length ∧ kq + i = l.length + 1) ∧ Aside0 (IX w' w.heap.size g (idxOf (l.take i))) ∧ Aside0 (Below w.heap.size w w'))
  case atStart => exact ⟨0, by first | rfl | go_num, ⟨Nat.zero_le _, rfl⟩, HX, HB⟩
  case round =>
    obtain ⟨i, rfl, HI, HX2, HB2⟩ := hrel
    by_cases hi : i < l.length
    case neg =>
      have hie : i = l.length := by have := HI.out; omega
      subst hie
      have t1 : decide ((l.length : Int) < (l.length : Int)) = false := decide_eq_false (by omega)
      have hx := HX2.out
      rw [List.take_length] at hx
      have HX3 := Aside0.mk hx
      clear hi hx HX2
      go_wp2_with fail
      go_ret
      exact ⟨g, rfl, HX3.out, HB2.out⟩
    case pos =>
      have t1 : decide ((i : Int) < (l.length : Int)) = true := decide_eq_true (by omega)
      have t2 : decide (i < l.length) = true := decide_eq_true hi
      obtain ⟨ad, Ap, cpp, rfl, x0, x1, x2, x3, x4, x5, x6, x7, hlp, hCp⟩ := C_at (Kd.C_below HC.out HB2.out) (List.getElem?_eq_getElem hi)
      obtain ⟨x, hxe⟩ : ∃ x, x = l[i] := ⟨_, rfl⟩
      rw [← hxe] at x0 x1 x2 x3 x4 x5 x6 x7 hlp hCp
      have HXI : Aside0 (l[i]? = some x) := ⟨by rw [List.getElem?_eq_getElem hi, hxe]⟩
      have HXP : Aside0 (x.f7.length ≤ 9223372036854775807) := ⟨HL.out.2 x (by rw [hxe]; exact List.getElem_mem hi)⟩
      have p1 := eq_true (show (0 : Int) ≤ (i : Int) by omega)
      have q1 := eq_true (show (i : Int) < (l.length : Int) by omega)
      have HIL := Aside0.mk hi
      have HWI : Aside0 (IntKind.i64.wrap ((i : Int) + 1) = ((i + 1 : Nat) : Int)) := ⟨by have := HL.out.1; rw [i64_w]; unfold wrap64; omega⟩
      have hz5 := heap_alloc_new wr (.cells #[.int .u64 x.f0, .int .u64 x.f1, .int .i64 x.f2, .int .i64 x.f3, .int .u64 x.f4, .bool x.f5, .int .i64 x.f6, .slice Ap x.f7.length cpp] 29)
      have hb5 := below_alloc (Below.refl wr.heap.size wr) (.cells #[.int .u64 x.f0, .int .u64 x.f1, .int .i64 x.f2, .int .i64 x.f3, .int .u64 x.f4, .bool x.f5, .int .i64 x.f6, .slice Ap x.f7.length cpp] 29)
      obtain ⟨g5, hg5⟩ : ∃ g, g = wr.heap.size := ⟨_, rfl⟩
      have HCP := Aside0.mk (Kd.C_below hCp hb5)
      have HX5 := Aside0.mk (HX2.out.below hb5)
      clear hlp hCp hxe hi
      go_upto_region 5 with fail
      generalize wr.alloc (.cells #[.int .u64 x.f0, .int .u64 x.f1, .int .i64 x.f2, .int .i64 x.f3, .int .u64 x.f4, .bool x.f5, .int .i64 x.f6, .slice Ap x.f7.length cpp] 29) = W5 at hz5 hb5 HCP HX5 ⊢
      rw [← hg5] at hz5 ⊢
      have HB5 := Aside0.mk (below_then HB2.out HB2.out.size hb5)
      have c0 := blk_cell hz5 0
      have c1 := blk_cell hz5 1
      have c2 := blk_cell hz5 2
      have c3 := blk_cell hz5 3
      have c4 := blk_cell hz5 4
      have c5 := blk_cell hz5 5
      have c6 := blk_cell hz5 6
      have c7 := blk_cell hz5 7
      have HGF := Aside0.mk (idx_good l i HI.out.1)
      obtain ⟨cur, hcur⟩ : ∃ cur, cur = idxOf (l.take i) := ⟨_, rfl⟩
      have HSU : Aside0 (idxOf (l.take (i + 1)) = (putP cur x).1) := ⟨by rw [hcur]; exact idx_succ HXI.out⟩
      rw [← hcur] at HX5 HGF
      have HCN : Aside0 (cur.length ≤ 30) := ⟨by have := HGF.out.2.1; have := HI.out.1; have := HL.out.1; omega⟩
      clear hz5 hb5 hg5 hcur x0 x1 x2 x3 x4 x5 x6 x7 p1 q1 t1 t2
      have HPUT : Aside0 (Calls Try.prog 17 #[.pointer (some ⟨g, 0, none⟩), ragg x Ap cpp] W5 fun e w' => ∃ n : Int, e = .returned (.int .i64 n) ∧ IX w' w.heap.size g (putP cur x).1 ∧ Below w.heap.size W5 w') := ⟨by
        by_cases hm : mayB x = true
        · by_cases hh : hasKey keyR cur x.f0 = true
          · have e : (putP cur x).1 = cur := by unfold putP; rw [if_pos hm, if_pos hh]
            rw [e]
            exact (put_no HX5.out x Ap cpp HCP.out HXP.out HGF.out.1 (by have := HCN.out; omega) (fun _ => hh)).mono (fun e w' ⟨h1, h2⟩ => ⟨_, h1, HX5.out.below h2, h2.mono HB5.out.size⟩)
          · have e : (putP cur x).1 = putAt cur (low keyR cur x.f0) x := by unfold putP; rw [if_pos hm, if_neg hh]
            rw [e]
            obtain ⟨r, hr⟩ := HX5.out.r
            exact (put_any hr x Ap cpp HCP.out (by have := may_facts hm; omega) hm HGF.out.1 (by have := HCN.out; omega) rfl (by simpa using hh)).mono (fun e w' ⟨h1, ⟨⟨r', h2, _⟩, _⟩, h3⟩ => ⟨_, h1, h2.ix, h3⟩)
        · have e : (putP cur x).1 = cur := by unfold putP; rw [if_neg hm]
          rw [e]
          exact (put_no HX5.out x Ap cpp HCP.out HXP.out HGF.out.1 (by have := HCN.out; omega) (fun h => absurd h hm)).mono (fun e w' ⟨h1, h2⟩ => ⟨_, h1, HX5.out.below h2, h2.mono HB5.out.size⟩)⟩
      unfold ragg at HPUT
      go_wp2_with (go_at_call 17; refine HPUT.out.mono ?_; rintro e w6 ⟨n, rfl, hX, hb⟩; have HX6 := Aside0.mk hX; have HB6 := Aside0.mk (HB5.out.trans hb); clear hX hb c0 c1 c2 c3 c4 c5 c6 c7)
      go_roundg (l.length - i)
      case measure => have := HI.out; have := HIL.out; omega
      case rel => exact ⟨i + 1, by first | rfl | (rw [← i64_w, HWI.out]) | (simp; unfold wrap64; have := HIL.out; have := HL.out.1; omega), ⟨by have := HIL.out; omega, by have := HI.out; have := HIL.out; omega⟩, ⟨by rw [HSU.out]; exact HX6.out⟩, HB6⟩
end Go.Proofs.Ytaepbgieahedjaa.QS
namespace Go.Proofs.Ytaepbgieahedjaa.QS
set_option linter.unusedVariables false
set_option linter.unusedSimpArgs false
open Go.RowKit Go.Proofs.Ytaepbgieahedjaa.Hp Go.Proofs.YtaepbgieahedjaaW.PrintWords Go.Proofs.YtaepbgieahedjaaW.PrintLast Go.Proofs.YtaepbgieahedjaaW.PrintMore
open Go.Proofs.Ytaepbgieahedjaa.IP
section
variable {P : Program} {ops : Array Oper} {o og : Oper} {a : Act} {g : Nat} {u : Bool} {t : Tmp}
theorem wanted_und (hg : o.guard = some (g, u)) (ho : ops[g]? = some og) (hd : og.dst = some t) (hv : a.tmps[t]? = some undef) : Region.wanted o (yielded ops a.tmps) = false := by
  cases u <;> simp_all [Region.wanted, yielded] <;> exact fun h => by cases h
end
theorem frI_eq (n : Int) (h1 : 1 ≤ n) (h2 : n ≤ 1000000) : frI n = (((n.toNat - 1) / 100 + 1 : Nat) : Int) := by
  unfold frI
  rw [if_neg (by omega)]
  have e1 : wrap64 (n - 1) = n - 1 := by unfold wrap64; omega
  have e2 : Int.tdiv (n - 1) 100 = (n - 1) / 100 := Int.tdiv_eq_ediv_of_nonneg (by omega)
  rw [e1, e2]
  unfold wrap64
  omega
theorem ev_frames0 (n : Int) (F : Nat) (h1 : 1 ≤ n) (h2 : n ≤ 1000000) (hF : F = (n.toNat - 1) / 100 + 1) : ∀ (d j : Nat), j + d = F → Ev (fun k => wagtailref27_Frames.l0 k n (j : Int)) (F : Int)
  | 0, j, hd => by
    refine Ev.step (f := fun k => some (F : Int)) (fun k => ?_) (Ev.now _)
    simp only [wagtailref27_Frames.l0]
    rw [if_neg (by unfold wrap64; omega)]
    congr 1
    omega
  | d + 1, j, hd => by
    refine Ev.step (f := fun k => wagtailref27_Frames.l0 k n ((j + 1 : Nat) : Int)) (fun k => ?_) (ev_frames0 n F h1 h2 hF d (j + 1) (by omega))
    simp only [wagtailref27_Frames.l0]
    rw [if_pos (by unfold wrap64; omega), if_pos (by omega), w_succ j (by omega)]
theorem ev_frames (n : Int) (h2 : n ≤ 1000000) : Ev (fun k => wagtailref27_Frames.f k n) (frI n) := by
  unfold wagtailref27_Frames.f
  by_cases h1 : 1 ≤ n
  · rw [frI_eq n h1 h2]
    exact ev_frames0 n _ h1 h2 rfl _ 0 (Nat.zero_add _)
  · have e : frI n = 0 := by unfold frI; rw [if_pos (by omega)]
    rw [e]
    refine Ev.step (f := fun k => some 0) (fun k => ?_) (Ev.now _)
    simp only [wagtailref27_Frames.l0]
    rw [if_neg (by unfold wrap64; omega)]
theorem rframes_calls (n : Int) (h : n ≤ 1000000) (W : World) : Calls Try.prog 9 #[.int .i64 n] W fun e w' => e = .returned (.int .i64 (frI n)) ∧ Below W.heap.size W w' := by
  obtain ⟨K, hK⟩ := ev_frames n h
  exact (wagtailref27_Frames.calls K n _ W (hK K (Nat.le_refl _))).mono (fun e w' ⟨h1, h2⟩ => ⟨h1, h2.below⟩)
def AtOk (l : List R0) (n : Int) (m : Nat) (v : Int) : Prop := (v = -1 ∧ ∀ (j : Nat) (y : R0), m ≤ j → l[j]? = some y → inB n y = false) ∨ ∃ (q : Nat) (x : R0), v = (q : Int) ∧ m ≤ q ∧ l[q]? = some x ∧ inB n x = true ∧ ∀ (j : Nat) (y : R0), m ≤ j → j < q → l[j]? = some y → inB n y = false
theorem AtOk.start (l : List R0) (n : Int) : AtOk l n l.length (-1) := .inl ⟨rfl, fun j y hj hy => by have := (List.getElem?_eq_some_iff.1 hy).1; omega⟩
theorem AtOk.yes {l : List R0} {n : Int} {m : Nat} {v : Int} {x : R0} (h : AtOk l n (m + 1) v) (hx : l[m]? = some x) (hb : inB n x = true) : AtOk l n m (m : Int) := .inr ⟨m, x, rfl, Nat.le_refl _, hx, hb, fun j y h1 h2 => by omega⟩
theorem AtOk.no {l : List R0} {n : Int} {m : Nat} {v : Int} {x : R0} (h : AtOk l n (m + 1) v) (hx : l[m]? = some x) (hb : inB n x = false) : AtOk l n m v := by
  have h0 : ∀ (j : Nat) (y : R0), j = m → l[j]? = some y → inB n y = false := fun j y hj hy => by
    subst hj
    rw [hx] at hy
    rw [← Option.some.inj hy]
    exact hb
  rcases h with ⟨h1, h2⟩ | ⟨q, z, h1, h2, h3, h4, h5⟩
  · refine .inl ⟨h1, fun j y hj hy => ?_⟩
    rcases Nat.lt_or_ge m j with h | h
    · exact h2 j y h hy
    · exact h0 j y (by omega) hy
  · refine .inr ⟨q, z, h1, by omega, h3, h4, fun j y hj hq hy => ?_⟩
    rcases Nat.lt_or_ge m j with h | h
    · exact h5 j y h hq hy
    · exact h0 j y (by omega) hy
theorem AtOk.filter {l : List R0} {n : Int} {v : Int} (h : AtOk l n 0 v) : (v = -1 ∧ l.filter (inB n) = []) ∨ ∃ (q : Nat) (x : R0) (r : List R0), v = (q : Int) ∧ l[q]? = some x ∧ l.filter (inB n) = x :: r := by
  rcases h with ⟨h1, h2⟩ | ⟨q, x, h1, _, h3, h4, h5⟩
  · refine .inl ⟨h1, List.filter_eq_nil_iff.2 fun y hy => ?_⟩
    obtain ⟨j, hj⟩ := List.getElem?_of_mem hy
    rw [h2 j y (Nat.zero_le _) hj]
    simp
  · refine .inr ⟨q, x, (l.drop (q + 1)).filter (inB n), h1, h3, ?_⟩
    have hq := (List.getElem?_eq_some_iff.1 h3).1
    have hxe : l[q] = x := (List.getElem?_eq_some_iff.1 h3).2
    have e : l = l.take q ++ x :: l.drop (q + 1) := by
      rw [← hxe, ← List.drop_eq_getElem_cons hq, List.take_append_drop]
    have e2 : (l.take q).filter (inB n) = [] := List.filter_eq_nil_iff.2 fun y hy => by
      obtain ⟨j, hj⟩ := List.getElem?_of_mem hy
      rw [List.getElem?_take] at hj
      split at hj
      · rename_i hjq
        rw [h5 j y (Nat.zero_le _) hjq hj]
        simp
      · cases hj
    conv => lhs; rw [e]
    rw [List.filter_append, e2, List.nil_append, List.filter_cons, if_pos h4]
theorem idx_goodF (l : List R0) : GoodF (idxOf l) l.length := by
  have h := idx_good l l.length (Nat.le_refl _)
  rwa [List.take_length] at h
def Lst (W : World) (A : Option Addr) (c : Nat) (l : List R0) : Prop := l.length ≤ c ∧ Kd.F k29 W (fun _ => True) A l.length l
theorem Lst.below {W W' : World} {A : Option Addr} {c : Nat} {l : List R0} (h : Lst W A c l) (hb : Below W.heap.size W W') : Lst W' A c l := ⟨h.1, Kd.F_below h.2 hb⟩
theorem Lst.now {W : World} {A : Option Addr} {c : Nat} {l : List R0} (h : Lst W A c l) : Kd.C k29 W A l.length l := Kd.F_now h.2
theorem Lst.nil (W : World) : Lst W none 0 [] := ⟨Nat.le_refl _, Kd.F_nil _ _ _⟩
theorem lput_calls {w W : World} {A : Option Addr} {c : Nat} {l : List R0} (h : Lst W A c l) (hl : l.length ≤ 1000) (x : R0) (hx : x.f7.length ≤ 60) (Ax : Option Addr) (cx : Nat) (hC : Kd.C (Kd.int .i64) w Ax x.f7.length x.f7) (hcx : x.f7.length ≤ cx) (hb : Below w.heap.size w W) :
    Calls Try.prog 8 #[.slice A l.length c, .agg #[.int .u64 x.f0, .int .u64 x.f1, .int .i64 x.f2, .int .i64 x.f3, .int .u64 x.f4, .bool x.f5, .int .i64 x.f6, .slice Ax x.f7.length cx]] W fun e w' => ∃ A' c', e = .returned (.tuple #[.slice A' (putP l x).1.length c', .bool (putP l x).2]) ∧ Lst w' A' c' (putP l x).1 ∧ Below W.heap.size W w' := by
  refine (rput_calls l x (by omega) (by omega) A c Ax cx W (fun _ => True) (fun k => k < w.heap.size) (Kd.V_mk h.1 h.2) (Kd.V_mk hcx (args_F hC hb))).mono ?_
  rintro e w' ⟨v, rfl, hV, hb2⟩
  obtain ⟨A', c', rfl⟩ := Kd.V_slice hV
  have k := Kd.V_at hV
  exact ⟨A', c', rfl, ⟨k.2.1, Kd.F_mono k.2.2 (fun _ _ => trivial)⟩, hb2⟩
end Go.Proofs.Ytaepbgieahedjaa.QS
namespace Go.Proofs.Ytaepbgieahedjaa.QS
set_option linter.unusedVariables false
set_option linter.unusedSimpArgs false
open Go.RowKit Go.Proofs.Ytaepbgieahedjaa.Hp Go.Proofs.YtaepbgieahedjaaW.PrintWords Go.Proofs.YtaepbgieahedjaaW.PrintLast Go.Proofs.YtaepbgieahedjaaW.PrintMore
open Go.Proofs.Ytaepbgieahedjaa.IP
def ifr16f.T16 : Bool × List (List Nat × List Nat) := (true, [([], []), ([], []), ([], []), ([1, 2], [1, 2]), ([3], [3]), ([4], [4]), ([0, 5], [0, 5]), ([6], [6]), ([7], [7]), ([7], [7]), ([7], [7]), ([9, 10, 7], [7, 9, 10]), ([11, 7], [7, 11]), ([12, 7], [7, 12]), ([8, 13, 7], [7, 8, 13]), ([7], [7]), ([7], [7]), ([15, 16, 7], [7, 15, 16]), ([17, 7], [7, 17]), ([18, 7], [7, 18]), ([19, 7, 7], [7, 19]), ([20, 7], [7, 20]), ([14, 21, 7], [7, 14, 21]), ([7, 22], [7, 22])])
def ifr16f.B16 : List Nat := [0, 0, 0, 6, 14, 30, 63, 127, 255, 255, 255, 1791, 3839, 7935, 16383, 255, 255, 98559, 229631, 491775, 1016063, 2064639, 4194303, 8388607]
theorem ifr16f.tab16 : rtab .any (opsOf Try.f3 16) = ifr16f.T16 := by kernel_rfl
theorem ifr16f.bits16 : waitsOk ifr16f.T16.2 ifr16f.B16 = true := by kernel_rfl
def ifr16t.T16 : Bool × List (List Nat × List Nat) := (true, [([], []), ([], []), ([], []), ([1, 2], [1, 2]), ([3], [3]), ([4], [4]), ([0, 5], [0, 5]), ([6], [6]), ([7], [7]), ([7], [7]), ([7], [7]), ([9, 10, 7], [7, 9, 10]), ([11, 7], [7, 11]), ([12, 7], [7, 12]), ([8, 13, 7], [7, 8, 13]), ([7], [7]), ([7], [7]), ([15, 16, 7], [7, 15, 16]), ([17, 7], [7, 17]), ([18, 7], [7, 18]), ([19, 7, 7], [7, 19]), ([20, 7], [7, 20]), ([14, 21, 7], [7, 14, 21]), ([7, 22], [7, 22])])
def ifr16t.B16 : List Nat := [0, 0, 0, 6, 14, 30, 63, 127, 255, 255, 255, 1791, 3839, 7935, 16383, 255, 255, 98559, 229631, 491775, 1016063, 2064639, 4194303, 8388607]
theorem ifr16t.tab16 : rtab .any (opsOf Try.f3 16) = ifr16t.T16 := by kernel_rfl
theorem ifr16t.bits16 : waitsOk ifr16t.T16.2 ifr16t.B16 = true := by kernel_rfl
def ifr24n.T24 : Bool × List (List Nat × List Nat) := (true, [([], []), ([], []), ([1], [1]), ([0, 2], [0, 2]), ([3], [3]), ([4], [4]), ([5, 4, 4], [4, 5]), ([6], [6]), ([6], [6]), ([6], [6]), ([8, 9, 6], [6, 8, 9]), ([10, 6], [6, 10]), ([7, 11, 6, 6], [6, 7, 11]), ([12, 6], [6, 12]), ([13, 12, 6], [6, 13]), ([14], [14]), ([14], [14]), ([14], [14]), ([14], [14]), ([17, 18, 14], [14, 17, 18]), ([19, 14], [14, 19]), ([20, 14], [14, 20]), ([16, 21, 14], [14, 16, 21]), ([22, 14], [14, 22]), ([15, 23, 14], [14, 15, 23]), ([14, 24, 6], [6, 14, 24]), ([6, 25, 4], [4, 6, 25]), ([4, 26], [4, 26]), ([27, 14], [27]), ([28], [28]), ([29, 28], [28, 29]), ([30, 28, 28], [28, 30]), ([31], [31]), ([32, 31], [31, 32]), ([31, 33, 28], [28, 31, 33]), ([28, 34], [28, 34])])
def ifr24n.B24 : List Nat := [0, 0, 2, 7, 15, 31, 63, 127, 127, 127, 895, 1919, 4095, 8191, 16383, 32767, 32767, 32767, 32767, 425983, 950271, 1998847, 4161535, 8355839, 16777215, 33554431, 67108863, 134217727, 268435455, 536870911, 1073741823, 2147483647, 4294967295, 8589934591, 17179869183, 34359738367]
theorem ifr24n.tab24 : rtab .any (opsOf Try.f3 24) = ifr24n.T24 := by kernel_rfl
theorem ifr24n.bits24 : waitsOk ifr24n.T24.2 ifr24n.B24 = true := by kernel_rfl
def ifr24y.T24 : Bool × List (List Nat × List Nat) := (true, [([], []), ([], []), ([1], [1]), ([0, 2], [0, 2]), ([3], [3]), ([4], [4]), ([5, 4, 4], [4, 5]), ([6], [6]), ([6], [6]), ([6], [6]), ([8, 9, 6], [6, 8, 9]), ([10, 6], [6, 10]), ([7, 11, 6, 6], [6, 7, 11]), ([12, 6], [6, 12]), ([13, 12, 6], [6, 13]), ([14], [14]), ([14], [14]), ([14], [14]), ([14], [14]), ([17, 18, 14], [14, 17, 18]), ([19, 14], [14, 19]), ([20, 14], [14, 20]), ([16, 21, 14], [14, 16, 21]), ([22, 14], [14, 22]), ([15, 23, 14], [14, 15, 23]), ([14, 24, 6], [6, 14, 24]), ([6, 25, 4], [4, 6, 25]), ([4, 26], [4, 26]), ([27, 14], [27]), ([28], [28]), ([29, 28], [28, 29]), ([30, 28, 28], [28, 30]), ([31], [31]), ([32, 31], [31, 32]), ([31, 33, 28], [28, 31, 33]), ([28, 34], [28, 34])])
def ifr24y.B24 : List Nat := [0, 0, 2, 7, 15, 31, 63, 127, 127, 127, 895, 1919, 4095, 8191, 16383, 32767, 32767, 32767, 32767, 425983, 950271, 1998847, 4161535, 8355839, 16777215, 33554431, 67108863, 134217727, 268435455, 536870911, 1073741823, 2147483647, 4294967295, 8589934591, 17179869183, 34359738367]
theorem ifr24y.tab24 : rtab .any (opsOf Try.f3 24) = ifr24y.T24 := by kernel_rfl
theorem ifr24y.bits24 : waitsOk ifr24y.T24.2 ifr24y.B24 = true := by kernel_rfl
set_option maxHeartbeats 16000000 in
set_option maxRecDepth 100000 in
theorem frames27_calls (l : List R0) (A : Option Addr) (cp : Nat) (n size : Int) (w : World) (hC : Kd.C k29 w A l.length l) (hp : ∀ x ∈ l, x.f7.length ≤ 9223372036854775807) : Calls Try.prog 3 #[.slice A l.length cp, .int .u64 n, .int .i64 size] w fun e w' => e = .returned (.bool true) ∧ Below w.heap.size w w' := by
  have HC := Aside0.mk hC
  have HP := Aside0.mk hp
  clear hC hp
  by_cases h30 : 30 < l.length
  · have t1 : decide ((30 : Int) < (l.length : Int)) = true := decide_eq_true (by omega)
    have t2 : decide (30 < l.length) = true := decide_eq_true h30
    clear h30
    go_enter Try.func3, Try.ntmps3
    go_wp2_with (go_at_call 6; refine (awake27_calls _).mono ?_; rintro e w4 ⟨rfl, hb⟩; have HB4 := Aside0.mk hb; clear hb)
    go_ret
    exact ⟨rfl, HB4.out⟩
  have t1 : decide ((30 : Int) < (l.length : Int)) = false := decide_eq_false (by omega)
  have t2 : decide (30 < l.length) = false := decide_eq_false h30
  by_cases hsz : 1000000 < size
  · have t3 : decide ((1000000 : Int) < size) = true := decide_eq_true hsz
    clear h30 hsz
    go_enter Try.func3, Try.ntmps3
    go_wp2_with (go_at_call 6; refine (awake27_calls _).mono ?_; rintro e w4 ⟨rfl, hb⟩; have HB4 := Aside0.mk hb; clear hb)
    go_ret
    exact ⟨rfl, HB4.out⟩
  have t3 : decide ((1000000 : Int) < size) = false := decide_eq_false hsz
  have HL : Aside0 (l.length ≤ 30 ∧ size ≤ 1000000) := ⟨by omega, by omega⟩
  have HNW := Aside0.mk (new_calls l A cp w HC.out HL.out.1 HP.out)
  clear h30 hsz
  go_enter Try.func3, Try.ntmps3
  go_upto_block 0 with (go_at_call 7; refine HNW.out.mono ?_; rintro e w3 ⟨g0, rfl, hX, hb⟩; have HX := Aside0.mk hX; have HB3 := Aside0.mk hb; clear hX hb)
  clear HNW t1 t2 t3
  go_cut [8] (fun v8 wx => ∃ (Aw : Option Addr) (cw : Nat), v8 = .slice Aw (idxOf l).length cw ∧ Aside0 (Lst wx Aw cw (idxOf l)) ∧ Aside0 (IX wx w.heap.size g0 (idxOf l)) ∧ Aside0 (Below w.heap.size w wx) ∧ Aside0 (∀ x ∈ l, x.f7.length ≤ 60))
  case first =>
    go_wp2_with fail
    go_loopg [8, 10] (l.length + 1) (fun kq v8 v10 w' => ∃ (i : Nat) (Aw : Option Addr) (cw : Nat), v8 = .slice Aw (idxOf (l.take i)).length cw ∧ v10 = .int .i64 (i : Int) ∧ Aside0 (i ≤ l.length ∧ kq + i = l.length + 1) ∧ Aside0 (Lst w' Aw cw (idxOf (l.take i))) ∧ Aside0 (IX w' w.heap.size g0 (idxOf l)) ∧ Aside0 (Below w.heap.size w w') ∧ Aside0 (∀ j x, j < i → l[j]? = some x → x.f7.length ≤ 60))
    case atStart => exact ⟨0, none, 0, rfl, rfl, ⟨Nat.zero_le _, rfl⟩, ⟨Lst.nil _⟩, HX, HB3, ⟨fun j x hj => by omega⟩⟩
    case round =>
      obtain ⟨i, Aw, cw, rfl, rfl, HI, HW, HX2, BB, HPI⟩ := hrel
      clear HX HB3
      by_cases hi : i < l.length
      case neg =>
        have hie : i = l.length := by have := HI.out; omega
        subst hie
        have t1 : decide ((l.length : Int) < (l.length : Int)) = false := decide_eq_false (by omega)
        have hw := HW.out
        rw [List.take_length] at hw
        have HW2 := Aside0.mk hw
        rw [List.take_length]
        have HPA : Aside0 (∀ x ∈ l, x.f7.length ≤ 60) := ⟨fun x hx => by obtain ⟨j, hj⟩ := List.getElem?_of_mem hx; exact HPI.out j x (List.getElem?_eq_some_iff.1 hj).1 hj⟩
        clear hw HW hi HPI
        go_wp2_with fail
        go_meet
        exact ⟨Aw, cw, rfl, HW2, HX2, BB, HPA⟩
      case pos =>
        have t1 : decide ((i : Int) < (l.length : Int)) = true := decide_eq_true (by omega)
        have t2 : decide (i < l.length) = true := decide_eq_true hi
        obtain ⟨ad, Ap, cpp, rfl, x0, x1, x2, x3, x4, x5, x6, x7, hlp, hCp⟩ := C_at HC.out (List.getElem?_eq_getElem hi)
        obtain ⟨x, hxe⟩ : ∃ x, x = l[i] := ⟨_, rfl⟩
        rw [← hxe] at x0 x1 x2 x3 x4 x5 x6 x7 hlp hCp
        have HXI : Aside0 (l[i]? = some x) := ⟨by rw [List.getElem?_eq_getElem hi, hxe]⟩
        replace x0 := pw_cell_below BB.out x0
        replace x1 := pw_cell_below BB.out x1
        replace x2 := pw_cell_below BB.out x2
        replace x3 := pw_cell_below BB.out x3
        replace x4 := pw_cell_below BB.out x4
        replace x5 := pw_cell_below BB.out x5
        replace x6 := pw_cell_below BB.out x6
        replace x7 := pw_cell_below BB.out x7
        have p1 := eq_true (show (0 : Int) ≤ (i : Int) by omega)
        have q1 := eq_true (show (i : Int) < (l.length : Int) by omega)
        have HIL := Aside0.mk hi
        have HWI : Aside0 (IntKind.i64.wrap ((i : Int) + 1) = ((i + 1 : Nat) : Int)) := ⟨by have := HL.out.1; rw [i64_w]; unfold wrap64; omega⟩
        by_cases hpl : 60 < x.f7.length
        case pos =>
          have t5 : decide ((60 : Int) < ((x.f7.length : Nat) : Int)) = true := decide_eq_true (by omega)
          have t6 : decide (60 < x.f7.length) = true := decide_eq_true hpl
          clear hpl hxe hi hCp hlp
          go_wp2_with (go_at_call 6; refine (awake27_calls _).mono ?_; rintro e w4 ⟨rfl, hb⟩; have HB4 := Aside0.mk (below_then BB.out BB.out.size hb); clear hb)
          go_ret
          exact ⟨rfl, HB4.out⟩
        case neg =>
          have t5 : decide ((60 : Int) < ((x.f7.length : Nat) : Int)) = false := decide_eq_false (by omega)
          have t6 : decide (60 < x.f7.length) = false := decide_eq_false hpl
          have HPL : Aside0 (x.f7.length ≤ 60) := ⟨by omega⟩
          have HSU : Aside0 (idxOf (l.take (i + 1)) = (putP (idxOf (l.take i)) x).1) := ⟨idx_succ HXI.out⟩
          have HLN : Aside0 ((idxOf (l.take i)).length ≤ 1000) := ⟨by have := (idx_good l i HI.out.1).2.1; have := HL.out.1; have := HI.out.1; omega⟩
          obtain ⟨cur, hcur⟩ : ∃ cur, cur = idxOf (l.take i) := ⟨_, rfl⟩
          rw [← hcur] at HW HSU HLN ⊢
          have HRP := Aside0.mk (lput_calls HW.out HLN.out x HPL.out Ap cpp hCp hlp BB.out)
          rw [← HSU.out] at HRP
          clear hpl hxe hi hCp hlp hcur HSU
          go_wp2_with (go_at_call 8; refine HRP.out.mono ?_; rintro e w4 ⟨A4, c4, rfl, hW, hb⟩; have HW4 := Aside0.mk hW; have HX4 := Aside0.mk (HX2.out.below hb); have HB4 := Aside0.mk (below_then BB.out BB.out.size hb); clear hW hb x0 x1 x2 x3 x4 x5 x6 x7)
          go_roundg (l.length - i)
          case measure => have := HI.out; have := HIL.out; omega
          case rel => exact ⟨i + 1, A4, c4, rfl, by first | rfl | (rw [← i64_w, HWI.out]) | (simp; unfold wrap64; have := HIL.out; have := HL.out.1; omega), ⟨by have := HIL.out; omega, by have := HI.out; have := HIL.out; omega⟩, HW4, HX4, HB4, ⟨fun j y hj hy => by
            rcases Nat.lt_or_ge j i with h | h
            · exact HPI.out j y h hy
            · have hji : j = i := by omega
              subst hji
              have := HXI.out.symm.trans hy
              rw [← Option.some.inj this]
              exact HPL.out⟩⟩
  case rest =>
    obtain ⟨Aw, cw, rfl, HW, HX2, BB, HPA⟩ := hcut
    obtain ⟨w4, hw4⟩ : ∃ w4 : World, w4 = wc := ⟨_, rfl⟩
    subst hw4
    clear HX HB3
    have HGF := Aside0.mk (idx_goodF l)
    obtain ⟨cur, hcur⟩ : ∃ cur, cur = idxOf l := ⟨_, rfl⟩
    rw [← hcur] at HW HX2 HGF ⊢
    have HCN : Aside0 (cur.length ≤ 30) := ⟨by have := HGF.out.2.1; have := HL.out.1; omega⟩
    clear hcur
    have e0 : IntKind.i64.wrap ((cur.length : Int) - 1) = (cur.length : Int) - 1 := by have := HCN.out; rw [IntKind.wrap_i64]; omega
    go_upto_block 2 with fail
    clear e0
    go_cut [11] (fun v11 wx => ∃ v : Int, v11 = .int .i64 v ∧ Aside0 (AtOk cur n 0 v) ∧ Aside0 (Lst wx Aw cw cur) ∧ Aside0 (IX wx w.heap.size g0 cur) ∧ Aside0 (Below w.heap.size w wx))
    case first =>
      go_wp2_with fail
      go_loopg [11, 12] (cur.length + 1) (fun kq v11 v12 w' => ∃ (z v : Int), v11 = .int .i64 v ∧ v12 = .int .i64 z ∧ Aside0 (-1 ≤ z ∧ z + 1 ≤ (cur.length : Int) ∧ kq = (z + 1).toNat + 1) ∧ Aside0 (AtOk cur n (z + 1).toNat v) ∧ Aside0 (Lst w' Aw cw cur) ∧ Aside0 (IX w' w.heap.size g0 cur) ∧ Aside0 (Below w.heap.size w w'))
      case atStart => exact ⟨(cur.length : Int) - 1, -1, rfl, by first | rfl | (unfold wrap64; have := HCN.out; congr 1; omega), ⟨by omega, by omega, by omega⟩, ⟨by rw [show ((cur.length : Int) - 1 + 1).toNat = cur.length by omega]; exact AtOk.start cur n⟩, HW, HX2, BB⟩
      case round =>
        obtain ⟨z, v, rfl, rfl, HI, HA, HWr, HXr, HBr⟩ := hrel
        clear HW HX2 BB
        by_cases hz : 0 ≤ z
        case neg =>
          have hze : z = -1 := by have := HI.out; omega
          subst hze
          have ha := HA.out
          have HA2 : Aside0 (AtOk cur n 0 v) := ⟨ha⟩
          clear ha HA hz
          go_wp2_with fail
          go_meet
          exact ⟨v, rfl, HA2, HWr, HXr, HBr⟩
        case pos =>
          obtain ⟨k, rfl⟩ : ∃ k : Nat, z = (k : Int) := ⟨z.toNat, by omega⟩
          have hkl : k < cur.length := by have := HI.out; omega
          obtain ⟨x, hx⟩ : ∃ x, cur[k]? = some x := ⟨_, List.getElem?_eq_getElem hkl⟩
          have hA2 : AtOk cur n (k + 1) v := by have h := HA.out; rwa [show ((k : Int) + 1).toNat = k + 1 by omega] at h
          have HA2 := Aside0.mk hA2
          have HXK := Aside0.mk (And.intro hx (may_facts (HGF.out.2.2 x (List.mem_of_getElem? hx))))
          have hz1 : (0 : Int) ≤ (k : Int) := hz
          have t1 : decide ((k : Int) ≥ 0) = true := decide_eq_true hz
          have p1 := eq_true hz1
          have q1 := eq_true (show (k : Int) < (cur.length : Int) by omega)
          have HW8 : Aside0 (IntKind.i64.wrap ((k : Int) - 1) = (k : Int) - 1) := ⟨by have := HCN.out; rw [IntKind.wrap_i64]; omega⟩
          have HKL := Aside0.mk hkl
          obtain ⟨ad, Ap, cpp, hAw, x0, x1, x2, x3, x4, x5, x6, x7, hlp, hCp⟩ := C_at HWr.out.now hx
          subst hAw
          have HXC := Aside0.mk (And.intro x0 (And.intro x1 (And.intro x2 (And.intro x3 (And.intro x4 (And.intro x5 (And.intro x6 x7)))))))
          clear x0 x1 x2 x3 x4 x5 x6 x7 hlp hCp hA2 HA hkl hx hz
          obtain ⟨F, hF⟩ : ∃ F, F = frI x.f3 := ⟨_, rfl⟩
          have HFC : Aside0 (∀ W, Calls Try.prog 9 #[.int .i64 x.f3] W fun e w' => e = .returned (.int .i64 F) ∧ Below W.heap.size W w') := ⟨fun W => by rw [hF]; exact rframes_calls x.f3 (by have := HXK.out; omega) W⟩
          have HFE := Aside0.mk hF
          clear hF
          go_upto_region 16 with fail
          have B0 := Aside0.mk (below_drew1 (Below.refl wr.heap.size wr))
          clear t1 hz1
          cases h1 : decide (x.f1 ≤ n) with
          | false =>
            have HE : Aside0 (inB n x = false) := ⟨by unfold inB; rw [h1, Bool.false_and]⟩
            refine start_ (n := 24) (S := fun w' => True) (ds := []) #[false, false, false, false, false, false, false, false, false, false, false, false, false, false, false, false, false, false, false, false, false, false, false, false] (by kernel_rfl) rfl rfl trivial (fun hHeld => ?_)
            refine with_tabW ifr16f.tab16 ifr16f.bits16 (fun HT_ HW_ => ?_)
            generalize wr.drew = wq at B0 hHeld ⊢
            refine inv_at [0, 1, 2, 3, 4, 5, 6, 7, 8, 9, 10, 11, 12, 13, 14, 15, 16, 17, 18, 19, 20, 21, 22, 23] (fun a0_ b a w' => a = putSel a0_ b [(0, 57, .int .u64 n), (1, 58, .slice (some ad) cur.length cw), (2, 59, .int .i64 (k : Int)), (3, 60, .pointer (some (ad.add (k * 8)))), (4, 61, .pointer (some ⟨(ad.add (k * 8)).block, (ad.add (k * 8)).off + 1, none⟩)), (5, 62, .int .u64 x.f1), (6, 63, .bool false), (7, 64, .bool false), (8, 65, undef), (9, 66, undef), (10, 67, undef), (11, 68, undef), (12, 69, undef), (13, 70, undef), (14, 71, undef), (15, 72, undef), (16, 73, undef), (17, 74, undef), (18, 75, undef), (19, 76, undef), (20, 77, undef), (21, 78, undef), (22, 79, undef), (23, 80, .bool false)] ∧ (Below wr.heap.size wr w')) HT_.out HW_.out (by kernel_rfl) (by kernel_rfl) ?_ ?_ ?_
            · exact ⟨by simp only [putSel, Bool.false_eq_true, if_false], B0.out⟩
            · skip
              clear B0
              refine steps_cons ?_ ?_
              · rintro b a w' ⟨ha, Q_B0⟩ hb_ hon hoff
                refine ⟨_, rfl, fun K hK => ?_⟩
                have e1 : a.tmps[1]? = some (.int .u64 n) := by rw [ha]; exact (putSel_off rfl).trans rfl
                replace ha := Aside0.mk ha
                have B0 := Aside0.mk Q_B0
                refine value_ (w1 := w') (v := .int .u64 n) (by rfl) rfl ?_ ?_
                · go_simp
                  (try simp only [i64_w])
                  try rfl
                refine hK.out _ _ ⟨(by rw [ha.out]; exact putSel_upk 0 hb_ rfl rfl rfl), Q_B0⟩
              refine steps_cons ?_ ?_
              · rintro b a w' ⟨ha, Q_B0⟩ hb_ hon hoff
                refine ⟨_, rfl, fun K hK => ?_⟩
                have e8 : a.tmps[8]? = some (.slice (some ad) cur.length cw) := by rw [ha]; exact (putSel_off rfl).trans rfl
                replace ha := Aside0.mk ha
                have B0 := Aside0.mk Q_B0
                refine value_ (w1 := w') (v := .slice (some ad) cur.length cw) (by rfl) rfl ?_ ?_
                · go_simp
                  (try simp only [i64_w])
                  try rfl
                refine hK.out _ _ ⟨(by rw [ha.out]; exact putSel_upk 1 hb_ rfl rfl rfl), Q_B0⟩
              refine steps_cons ?_ ?_
              · rintro b a w' ⟨ha, Q_B0⟩ hb_ hon hoff
                refine ⟨_, rfl, fun K hK => ?_⟩
                have e12 : a.tmps[12]? = some (.int .i64 (k : Int)) := by rw [ha]; exact (putSel_off rfl).trans rfl
                replace ha := Aside0.mk ha
                have B0 := Aside0.mk Q_B0
                refine value_ (w1 := w') (v := .int .i64 (k : Int)) (by rfl) rfl ?_ ?_
                · go_simp
                  (try simp only [i64_w])
                  try rfl
                refine hK.out _ _ ⟨(by rw [ha.out]; exact putSel_upk 2 hb_ rfl rfl rfl), Q_B0⟩
              refine steps_cons ?_ ?_
              · rintro b a w' ⟨ha, Q_B0⟩ hb_ hon hoff
                refine ⟨_, rfl, fun K hK => ?_⟩
                have e58 : a.tmps[58]? = some (.slice (some ad) cur.length cw) := by rw [ha]; exact putSel_on (e := (1, 58, .slice (some ad) cur.length cw)) 1 rfl rfl (hon 1 (by kernel_rfl)) rfl
                have e59 : a.tmps[59]? = some (.int .i64 (k : Int)) := by rw [ha]; exact putSel_on (e := (2, 59, .int .i64 (k : Int))) 2 rfl rfl (hon 2 (by kernel_rfl)) rfl
                replace ha := Aside0.mk ha
                have B0 := Aside0.mk Q_B0
                refine value_ (w1 := w') (v := .pointer (some (ad.add (k * 8)))) (by rfl) rfl ?_ ?_
                · go_simp
                  (try simp only [i64_w])
                  try rfl
                refine hK.out _ _ ⟨(by rw [ha.out]; exact putSel_upk 3 hb_ rfl rfl rfl), Q_B0⟩
              refine steps_cons ?_ ?_
              · rintro b a w' ⟨ha, Q_B0⟩ hb_ hon hoff
                refine ⟨_, rfl, fun K hK => ?_⟩
                have e60 : a.tmps[60]? = some (.pointer (some (ad.add (k * 8)))) := by rw [ha]; exact putSel_on (e := (3, 60, .pointer (some (ad.add (k * 8))))) 3 rfl rfl (hon 3 (by kernel_rfl)) rfl
                replace ha := Aside0.mk ha
                have B0 := Aside0.mk Q_B0
                refine value_ (w1 := w') (v := .pointer (some ⟨(ad.add (k * 8)).block, (ad.add (k * 8)).off + 1, none⟩)) (by rfl) rfl ?_ ?_
                · go_simp
                  (try simp only [i64_w])
                  try rfl
                refine hK.out _ _ ⟨(by rw [ha.out]; exact putSel_upk 4 hb_ rfl rfl rfl), Q_B0⟩
              refine steps_cons ?_ ?_
              · rintro b a w' ⟨ha, Q_B0⟩ hb_ hon hoff
                refine ⟨_, rfl, fun K hK => ?_⟩
                have e61 : a.tmps[61]? = some (.pointer (some ⟨(ad.add (k * 8)).block, (ad.add (k * 8)).off + 1, none⟩)) := by rw [ha]; exact putSel_on (e := (4, 61, .pointer (some ⟨(ad.add (k * 8)).block, (ad.add (k * 8)).off + 1, none⟩))) 4 rfl rfl (hon 4 (by kernel_rfl)) rfl
                replace ha := Aside0.mk ha
                have B0 := Aside0.mk Q_B0
                have x1_ := pw_cell_below B0.out HXC.out.2.1
                refine value_ (w1 := w') (v := .int .u64 x.f1) (by rfl) rfl ?_ ?_
                · go_simp
                  (try simp only [i64_w])
                  try rfl
                refine hK.out _ _ ⟨(by rw [ha.out]; exact putSel_upk 5 hb_ rfl rfl rfl), Q_B0⟩
              refine steps_cons ?_ ?_
              · rintro b a w' ⟨ha, Q_B0⟩ hb_ hon hoff
                refine ⟨_, rfl, fun K hK => ?_⟩
                have e57 : a.tmps[57]? = some (.int .u64 n) := by rw [ha]; exact putSel_on (e := (0, 57, .int .u64 n)) 0 rfl rfl (hon 0 (by kernel_rfl)) rfl
                have e62 : a.tmps[62]? = some (.int .u64 x.f1) := by rw [ha]; exact putSel_on (e := (5, 62, .int .u64 x.f1)) 5 rfl rfl (hon 5 (by kernel_rfl)) rfl
                replace ha := Aside0.mk ha
                have B0 := Aside0.mk Q_B0
                refine value_ (w1 := w') (v := .bool false) (by rfl) rfl ?_ ?_
                · go_simp
                  (try simp only [i64_w])
                  try rfl
                refine hK.out _ _ ⟨(by rw [ha.out]; exact putSel_upk 6 hb_ rfl rfl rfl), Q_B0⟩
              refine steps_cons ?_ ?_
              · rintro b a w' ⟨ha, Q_B0⟩ hb_ hon hoff
                refine ⟨_, rfl, fun K hK => ?_⟩
                have e63 : a.tmps[63]? = some (.bool false) := by rw [ha]; exact putSel_on (e := (6, 63, .bool false)) 6 rfl rfl (hon 6 (by kernel_rfl)) rfl
                replace ha := Aside0.mk ha
                have B0 := Aside0.mk Q_B0
                refine value_ (w1 := w') (v := .bool false) (by rfl) rfl ?_ ?_
                · go_simp
                  (try simp only [i64_w])
                  try rfl
                refine hK.out _ _ ⟨(by rw [ha.out]; exact putSel_upk 7 hb_ rfl rfl rfl), Q_B0⟩
              refine steps_cons ?_ ?_
              · rintro b a w' ⟨ha, Q_B0⟩ hb_ hon hoff
                refine ⟨_, rfl, fun K hK => ?_⟩
                have e64 : a.tmps[64]? = some (.bool false) := by rw [ha]; exact putSel_on (e := (7, 64, .bool false)) 7 rfl rfl (hon 7 (by kernel_rfl)) rfl
                replace ha := Aside0.mk ha
                have B0 := Aside0.mk Q_B0
                refine off_ (wanted_off rfl rfl rfl (e64.trans (by first | rfl | (simp [*]; done)))) ?_
                refine hK.out _ _ ⟨(by rw [ha.out]; exact putSel_upk 8 hb_ rfl rfl rfl), Q_B0⟩
              refine steps_cons ?_ ?_
              · rintro b a w' ⟨ha, Q_B0⟩ hb_ hon hoff
                refine ⟨_, rfl, fun K hK => ?_⟩
                have e64 : a.tmps[64]? = some (.bool false) := by rw [ha]; exact putSel_on (e := (7, 64, .bool false)) 7 rfl rfl (hon 7 (by kernel_rfl)) rfl
                replace ha := Aside0.mk ha
                have B0 := Aside0.mk Q_B0
                refine off_ (wanted_off rfl rfl rfl (e64.trans (by first | rfl | (simp [*]; done)))) ?_
                refine hK.out _ _ ⟨(by rw [ha.out]; exact putSel_upk 9 hb_ rfl rfl rfl), Q_B0⟩
              refine steps_cons ?_ ?_
              · rintro b a w' ⟨ha, Q_B0⟩ hb_ hon hoff
                refine ⟨_, rfl, fun K hK => ?_⟩
                have e64 : a.tmps[64]? = some (.bool false) := by rw [ha]; exact putSel_on (e := (7, 64, .bool false)) 7 rfl rfl (hon 7 (by kernel_rfl)) rfl
                replace ha := Aside0.mk ha
                have B0 := Aside0.mk Q_B0
                refine off_ (wanted_off rfl rfl rfl (e64.trans (by first | rfl | (simp [*]; done)))) ?_
                refine hK.out _ _ ⟨(by rw [ha.out]; exact putSel_upk 10 hb_ rfl rfl rfl), Q_B0⟩
              refine steps_cons ?_ ?_
              · rintro b a w' ⟨ha, Q_B0⟩ hb_ hon hoff
                refine ⟨_, rfl, fun K hK => ?_⟩
                have e64 : a.tmps[64]? = some (.bool false) := by rw [ha]; exact putSel_on (e := (7, 64, .bool false)) 7 rfl rfl (hon 7 (by kernel_rfl)) rfl
                replace ha := Aside0.mk ha
                have B0 := Aside0.mk Q_B0
                refine off_ (wanted_off rfl rfl rfl (e64.trans (by first | rfl | (simp [*]; done)))) ?_
                refine hK.out _ _ ⟨(by rw [ha.out]; exact putSel_upk 11 hb_ rfl rfl rfl), Q_B0⟩
              refine steps_cons ?_ ?_
              · rintro b a w' ⟨ha, Q_B0⟩ hb_ hon hoff
                refine ⟨_, rfl, fun K hK => ?_⟩
                have e64 : a.tmps[64]? = some (.bool false) := by rw [ha]; exact putSel_on (e := (7, 64, .bool false)) 7 rfl rfl (hon 7 (by kernel_rfl)) rfl
                replace ha := Aside0.mk ha
                have B0 := Aside0.mk Q_B0
                refine off_ (wanted_off rfl rfl rfl (e64.trans (by first | rfl | (simp [*]; done)))) ?_
                refine hK.out _ _ ⟨(by rw [ha.out]; exact putSel_upk 12 hb_ rfl rfl rfl), Q_B0⟩
              refine steps_cons ?_ ?_
              · rintro b a w' ⟨ha, Q_B0⟩ hb_ hon hoff
                refine ⟨_, rfl, fun K hK => ?_⟩
                have e64 : a.tmps[64]? = some (.bool false) := by rw [ha]; exact putSel_on (e := (7, 64, .bool false)) 7 rfl rfl (hon 7 (by kernel_rfl)) rfl
                replace ha := Aside0.mk ha
                have B0 := Aside0.mk Q_B0
                refine off_ (wanted_off rfl rfl rfl (e64.trans (by first | rfl | (simp [*]; done)))) ?_
                refine hK.out _ _ ⟨(by rw [ha.out]; exact putSel_upk 13 hb_ rfl rfl rfl), Q_B0⟩
              refine steps_cons ?_ ?_
              · rintro b a w' ⟨ha, Q_B0⟩ hb_ hon hoff
                refine ⟨_, rfl, fun K hK => ?_⟩
                have e64 : a.tmps[64]? = some (.bool false) := by rw [ha]; exact putSel_on (e := (7, 64, .bool false)) 7 rfl rfl (hon 7 (by kernel_rfl)) rfl
                replace ha := Aside0.mk ha
                have B0 := Aside0.mk Q_B0
                refine off_ (wanted_off rfl rfl rfl (e64.trans (by first | rfl | (simp [*]; done)))) ?_
                refine hK.out _ _ ⟨(by rw [ha.out]; exact putSel_upk 14 hb_ rfl rfl rfl), Q_B0⟩
              refine steps_cons ?_ ?_
              · rintro b a w' ⟨ha, Q_B0⟩ hb_ hon hoff
                refine ⟨_, rfl, fun K hK => ?_⟩
                have e64 : a.tmps[64]? = some (.bool false) := by rw [ha]; exact putSel_on (e := (7, 64, .bool false)) 7 rfl rfl (hon 7 (by kernel_rfl)) rfl
                replace ha := Aside0.mk ha
                have B0 := Aside0.mk Q_B0
                refine off_ (wanted_off rfl rfl rfl (e64.trans (by first | rfl | (simp [*]; done)))) ?_
                refine hK.out _ _ ⟨(by rw [ha.out]; exact putSel_upk 15 hb_ rfl rfl rfl), Q_B0⟩
              refine steps_cons ?_ ?_
              · rintro b a w' ⟨ha, Q_B0⟩ hb_ hon hoff
                refine ⟨_, rfl, fun K hK => ?_⟩
                have e64 : a.tmps[64]? = some (.bool false) := by rw [ha]; exact putSel_on (e := (7, 64, .bool false)) 7 rfl rfl (hon 7 (by kernel_rfl)) rfl
                replace ha := Aside0.mk ha
                have B0 := Aside0.mk Q_B0
                refine off_ (wanted_off rfl rfl rfl (e64.trans (by first | rfl | (simp [*]; done)))) ?_
                refine hK.out _ _ ⟨(by rw [ha.out]; exact putSel_upk 16 hb_ rfl rfl rfl), Q_B0⟩
              refine steps_cons ?_ ?_
              · rintro b a w' ⟨ha, Q_B0⟩ hb_ hon hoff
                refine ⟨_, rfl, fun K hK => ?_⟩
                have e64 : a.tmps[64]? = some (.bool false) := by rw [ha]; exact putSel_on (e := (7, 64, .bool false)) 7 rfl rfl (hon 7 (by kernel_rfl)) rfl
                replace ha := Aside0.mk ha
                have B0 := Aside0.mk Q_B0
                refine off_ (wanted_off rfl rfl rfl (e64.trans (by first | rfl | (simp [*]; done)))) ?_
                refine hK.out _ _ ⟨(by rw [ha.out]; exact putSel_upk 17 hb_ rfl rfl rfl), Q_B0⟩
              refine steps_cons ?_ ?_
              · rintro b a w' ⟨ha, Q_B0⟩ hb_ hon hoff
                refine ⟨_, rfl, fun K hK => ?_⟩
                have e64 : a.tmps[64]? = some (.bool false) := by rw [ha]; exact putSel_on (e := (7, 64, .bool false)) 7 rfl rfl (hon 7 (by kernel_rfl)) rfl
                replace ha := Aside0.mk ha
                have B0 := Aside0.mk Q_B0
                refine off_ (wanted_off rfl rfl rfl (e64.trans (by first | rfl | (simp [*]; done)))) ?_
                refine hK.out _ _ ⟨(by rw [ha.out]; exact putSel_upk 18 hb_ rfl rfl rfl), Q_B0⟩
              refine steps_cons ?_ ?_
              · rintro b a w' ⟨ha, Q_B0⟩ hb_ hon hoff
                refine ⟨_, rfl, fun K hK => ?_⟩
                have e64 : a.tmps[64]? = some (.bool false) := by rw [ha]; exact putSel_on (e := (7, 64, .bool false)) 7 rfl rfl (hon 7 (by kernel_rfl)) rfl
                replace ha := Aside0.mk ha
                have B0 := Aside0.mk Q_B0
                refine off_ (wanted_off rfl rfl rfl (e64.trans (by first | rfl | (simp [*]; done)))) ?_
                refine hK.out _ _ ⟨(by rw [ha.out]; exact putSel_upk 19 hb_ rfl rfl rfl), Q_B0⟩
              refine steps_cons ?_ ?_
              · rintro b a w' ⟨ha, Q_B0⟩ hb_ hon hoff
                refine ⟨_, rfl, fun K hK => ?_⟩
                have e64 : a.tmps[64]? = some (.bool false) := by rw [ha]; exact putSel_on (e := (7, 64, .bool false)) 7 rfl rfl (hon 7 (by kernel_rfl)) rfl
                replace ha := Aside0.mk ha
                have B0 := Aside0.mk Q_B0
                refine off_ (wanted_off rfl rfl rfl (e64.trans (by first | rfl | (simp [*]; done)))) ?_
                refine hK.out _ _ ⟨(by rw [ha.out]; exact putSel_upk 20 hb_ rfl rfl rfl), Q_B0⟩
              refine steps_cons ?_ ?_
              · rintro b a w' ⟨ha, Q_B0⟩ hb_ hon hoff
                refine ⟨_, rfl, fun K hK => ?_⟩
                have e64 : a.tmps[64]? = some (.bool false) := by rw [ha]; exact putSel_on (e := (7, 64, .bool false)) 7 rfl rfl (hon 7 (by kernel_rfl)) rfl
                replace ha := Aside0.mk ha
                have B0 := Aside0.mk Q_B0
                refine off_ (wanted_off rfl rfl rfl (e64.trans (by first | rfl | (simp [*]; done)))) ?_
                refine hK.out _ _ ⟨(by rw [ha.out]; exact putSel_upk 21 hb_ rfl rfl rfl), Q_B0⟩
              refine steps_cons ?_ ?_
              · rintro b a w' ⟨ha, Q_B0⟩ hb_ hon hoff
                refine ⟨_, rfl, fun K hK => ?_⟩
                have e64 : a.tmps[64]? = some (.bool false) := by rw [ha]; exact putSel_on (e := (7, 64, .bool false)) 7 rfl rfl (hon 7 (by kernel_rfl)) rfl
                replace ha := Aside0.mk ha
                have B0 := Aside0.mk Q_B0
                refine off_ (wanted_off rfl rfl rfl (e64.trans (by first | rfl | (simp [*]; done)))) ?_
                refine hK.out _ _ ⟨(by rw [ha.out]; exact putSel_upk 22 hb_ rfl rfl rfl), Q_B0⟩
              refine steps_cons ?_ ?_
              · rintro b a w' ⟨ha, Q_B0⟩ hb_ hon hoff
                refine ⟨_, rfl, fun K hK => ?_⟩
                have e64 : a.tmps[64]? = some (.bool false) := by rw [ha]; exact putSel_on (e := (7, 64, .bool false)) 7 rfl rfl (hon 7 (by kernel_rfl)) rfl
                have e79 : a.tmps[79]? = some (undef) := by rw [ha]; exact putSel_on (e := (22, 79, undef)) 22 rfl rfl (hon 22 (by kernel_rfl)) rfl
                replace ha := Aside0.mk ha
                have B0 := Aside0.mk Q_B0
                refine value_ (w1 := w') (v := .bool false) (by rfl) rfl ?_ ?_
                · go_simp
                  (try simp only [i64_w])
                  try rfl
                refine hK.out _ _ ⟨(by rw [ha.out]; exact putSel_upk 23 hb_ rfl rfl rfl), Q_B0⟩
              exact steps_nil
            rintro b a w7 hall ⟨ha, Q_B0⟩
            clear B0
            have hb0_ := hall 0 (by kernel_rfl)
            have hb1_ := hall 1 (by kernel_rfl)
            have hb2_ := hall 2 (by kernel_rfl)
            have hb3_ := hall 3 (by kernel_rfl)
            have hb4_ := hall 4 (by kernel_rfl)
            have hb5_ := hall 5 (by kernel_rfl)
            have hb6_ := hall 6 (by kernel_rfl)
            have hb7_ := hall 7 (by kernel_rfl)
            have hb8_ := hall 8 (by kernel_rfl)
            have hb9_ := hall 9 (by kernel_rfl)
            have hb10_ := hall 10 (by kernel_rfl)
            have hb11_ := hall 11 (by kernel_rfl)
            have hb12_ := hall 12 (by kernel_rfl)
            have hb13_ := hall 13 (by kernel_rfl)
            have hb14_ := hall 14 (by kernel_rfl)
            have hb15_ := hall 15 (by kernel_rfl)
            have hb16_ := hall 16 (by kernel_rfl)
            have hb17_ := hall 17 (by kernel_rfl)
            have hb18_ := hall 18 (by kernel_rfl)
            have hb19_ := hall 19 (by kernel_rfl)
            have hb20_ := hall 20 (by kernel_rfl)
            have hb21_ := hall 21 (by kernel_rfl)
            have hb22_ := hall 22 (by kernel_rfl)
            have hb23_ := hall 23 (by kernel_rfl)
            subst ha
            simp only [putSel, hb0_, hb1_, hb2_, hb3_, hb4_, hb5_, hb6_, hb7_, hb8_, hb9_, hb10_, hb11_, hb12_, hb13_, hb14_, hb15_, hb16_, hb17_, hb18_, hb19_, hb20_, hb21_, hb22_, hb23_, if_true, Act.put, List.setIfInBounds_toArray, List.set_cons_zero, List.set_cons_succ]
            have B0 := Aside0.mk Q_B0
            clear Q_B0
            clear hall hb0_ hb1_ hb2_ hb3_ hb4_ hb5_ hb6_ hb7_ hb8_ hb9_ hb10_ hb11_ hb12_ hb13_ hb14_ hb15_ hb16_ hb17_ hb18_ hb19_ hb20_ hb21_ hb22_ hb23_
            have hb := B0.out
            clear h1 p1 q1
            have t8 := HW8.out
            go_wp2_with fail
            go_roundg ((k : Int).toNat + 1)
            case measure => have := HI.out; omega
            case rel => exact ⟨(k : Int) - 1, v, rfl, by first | rfl | (unfold wrap64; have := HCN.out; have := HKL.out; congr 1; omega), ⟨by omega, by have := HKL.out; omega, by omega⟩, ⟨by rw [show ((k : Int) - 1 + 1).toNat = k by omega]; exact HA2.out.no HXK.out.1 HE.out⟩, ⟨HWr.out.below hb⟩, ⟨HXr.out.below hb⟩, ⟨below_then HBr.out HBr.out.size hb⟩⟩
          | true =>
            obtain ⟨bq, hbq⟩ : ∃ b, b = decide (IntKind.u64.wrap (n - x.f1) < IntKind.u64.wrap F) := ⟨_, rfl⟩
            have HE : Aside0 (inB n x = bq) := ⟨by unfold inB; rw [h1, Bool.true_and, hbq, HFE.out]⟩
            have e1 := hbq.symm
            clear hbq
            refine start_ (n := 24) (S := fun w' => True) (ds := []) #[false, false, false, false, false, false, false, false, false, false, false, false, false, false, false, false, false, false, false, false, false, false, false, false] (by kernel_rfl) rfl rfl trivial (fun hHeld => ?_)
            refine with_tabW ifr16t.tab16 ifr16t.bits16 (fun HT_ HW_ => ?_)
            generalize wr.drew = wq at B0 hHeld ⊢
            refine inv_at [0, 1, 2, 3, 4, 5, 6, 7, 8, 9, 10, 11, 12, 13, 14, 15, 16, 17, 18, 19, 20, 21, 22, 23] (fun a0_ b a w' => a = putSel a0_ b [(0, 57, .int .u64 n), (1, 58, .slice (some ad) cur.length cw), (2, 59, .int .i64 (k : Int)), (3, 60, .pointer (some (ad.add (k * 8)))), (4, 61, .pointer (some ⟨(ad.add (k * 8)).block, (ad.add (k * 8)).off + 1, none⟩)), (5, 62, .int .u64 x.f1), (6, 63, .bool true), (7, 64, .bool true), (8, 65, .int .u64 n), (9, 66, .slice (some ad) cur.length cw), (10, 67, .int .i64 (k : Int)), (11, 68, .pointer (some (ad.add (k * 8)))), (12, 69, .pointer (some ⟨(ad.add (k * 8)).block, (ad.add (k * 8)).off + 1, none⟩)), (13, 70, .int .u64 x.f1), (14, 71, .int .u64 (IntKind.u64.wrap (n - x.f1))), (15, 72, .slice (some ad) cur.length cw), (16, 73, .int .i64 (k : Int)), (17, 74, .pointer (some (ad.add (k * 8)))), (18, 75, .pointer (some ⟨(ad.add (k * 8)).block, (ad.add (k * 8)).off + 3, none⟩)), (19, 76, .int .i64 x.f3), (20, 77, .int .i64 F), (21, 78, .int .u64 (IntKind.u64.wrap F)), (22, 79, .bool bq), (23, 80, .bool bq)] ∧ (Below wr.heap.size wr w')) HT_.out HW_.out (by kernel_rfl) (by kernel_rfl) ?_ ?_ ?_
            · exact ⟨by simp only [putSel, Bool.false_eq_true, if_false], B0.out⟩
            · skip
              clear B0
              refine steps_cons ?_ ?_
              · rintro b a w' ⟨ha, Q_B0⟩ hb_ hon hoff
                refine ⟨_, rfl, fun K hK => ?_⟩
                have e1 : a.tmps[1]? = some (.int .u64 n) := by rw [ha]; exact (putSel_off rfl).trans rfl
                replace ha := Aside0.mk ha
                have B0 := Aside0.mk Q_B0
                refine value_ (w1 := w') (v := .int .u64 n) (by rfl) rfl ?_ ?_
                · go_simp
                  (try simp only [i64_w])
                  try rfl
                refine hK.out _ _ ⟨(by rw [ha.out]; exact putSel_upk 0 hb_ rfl rfl rfl), Q_B0⟩
              refine steps_cons ?_ ?_
              · rintro b a w' ⟨ha, Q_B0⟩ hb_ hon hoff
                refine ⟨_, rfl, fun K hK => ?_⟩
                have e8 : a.tmps[8]? = some (.slice (some ad) cur.length cw) := by rw [ha]; exact (putSel_off rfl).trans rfl
                replace ha := Aside0.mk ha
                have B0 := Aside0.mk Q_B0
                refine value_ (w1 := w') (v := .slice (some ad) cur.length cw) (by rfl) rfl ?_ ?_
                · go_simp
                  (try simp only [i64_w])
                  try rfl
                refine hK.out _ _ ⟨(by rw [ha.out]; exact putSel_upk 1 hb_ rfl rfl rfl), Q_B0⟩
              refine steps_cons ?_ ?_
              · rintro b a w' ⟨ha, Q_B0⟩ hb_ hon hoff
                refine ⟨_, rfl, fun K hK => ?_⟩
                have e12 : a.tmps[12]? = some (.int .i64 (k : Int)) := by rw [ha]; exact (putSel_off rfl).trans rfl
                replace ha := Aside0.mk ha
                have B0 := Aside0.mk Q_B0
                refine value_ (w1 := w') (v := .int .i64 (k : Int)) (by rfl) rfl ?_ ?_
                · go_simp
                  (try simp only [i64_w])
                  try rfl
                refine hK.out _ _ ⟨(by rw [ha.out]; exact putSel_upk 2 hb_ rfl rfl rfl), Q_B0⟩
              refine steps_cons ?_ ?_
              · rintro b a w' ⟨ha, Q_B0⟩ hb_ hon hoff
                refine ⟨_, rfl, fun K hK => ?_⟩
                have e58 : a.tmps[58]? = some (.slice (some ad) cur.length cw) := by rw [ha]; exact putSel_on (e := (1, 58, .slice (some ad) cur.length cw)) 1 rfl rfl (hon 1 (by kernel_rfl)) rfl
                have e59 : a.tmps[59]? = some (.int .i64 (k : Int)) := by rw [ha]; exact putSel_on (e := (2, 59, .int .i64 (k : Int))) 2 rfl rfl (hon 2 (by kernel_rfl)) rfl
                replace ha := Aside0.mk ha
                have B0 := Aside0.mk Q_B0
                refine value_ (w1 := w') (v := .pointer (some (ad.add (k * 8)))) (by rfl) rfl ?_ ?_
                · go_simp
                  (try simp only [i64_w])
                  try rfl
                refine hK.out _ _ ⟨(by rw [ha.out]; exact putSel_upk 3 hb_ rfl rfl rfl), Q_B0⟩
              refine steps_cons ?_ ?_
              · rintro b a w' ⟨ha, Q_B0⟩ hb_ hon hoff
                refine ⟨_, rfl, fun K hK => ?_⟩
                have e60 : a.tmps[60]? = some (.pointer (some (ad.add (k * 8)))) := by rw [ha]; exact putSel_on (e := (3, 60, .pointer (some (ad.add (k * 8))))) 3 rfl rfl (hon 3 (by kernel_rfl)) rfl
                replace ha := Aside0.mk ha
                have B0 := Aside0.mk Q_B0
                refine value_ (w1 := w') (v := .pointer (some ⟨(ad.add (k * 8)).block, (ad.add (k * 8)).off + 1, none⟩)) (by rfl) rfl ?_ ?_
                · go_simp
                  (try simp only [i64_w])
                  try rfl
                refine hK.out _ _ ⟨(by rw [ha.out]; exact putSel_upk 4 hb_ rfl rfl rfl), Q_B0⟩
              refine steps_cons ?_ ?_
              · rintro b a w' ⟨ha, Q_B0⟩ hb_ hon hoff
                refine ⟨_, rfl, fun K hK => ?_⟩
                have e61 : a.tmps[61]? = some (.pointer (some ⟨(ad.add (k * 8)).block, (ad.add (k * 8)).off + 1, none⟩)) := by rw [ha]; exact putSel_on (e := (4, 61, .pointer (some ⟨(ad.add (k * 8)).block, (ad.add (k * 8)).off + 1, none⟩))) 4 rfl rfl (hon 4 (by kernel_rfl)) rfl
                replace ha := Aside0.mk ha
                have B0 := Aside0.mk Q_B0
                have x1_ := pw_cell_below B0.out HXC.out.2.1
                refine value_ (w1 := w') (v := .int .u64 x.f1) (by rfl) rfl ?_ ?_
                · go_simp
                  (try simp only [i64_w])
                  try rfl
                refine hK.out _ _ ⟨(by rw [ha.out]; exact putSel_upk 5 hb_ rfl rfl rfl), Q_B0⟩
              refine steps_cons ?_ ?_
              · rintro b a w' ⟨ha, Q_B0⟩ hb_ hon hoff
                refine ⟨_, rfl, fun K hK => ?_⟩
                have e57 : a.tmps[57]? = some (.int .u64 n) := by rw [ha]; exact putSel_on (e := (0, 57, .int .u64 n)) 0 rfl rfl (hon 0 (by kernel_rfl)) rfl
                have e62 : a.tmps[62]? = some (.int .u64 x.f1) := by rw [ha]; exact putSel_on (e := (5, 62, .int .u64 x.f1)) 5 rfl rfl (hon 5 (by kernel_rfl)) rfl
                replace ha := Aside0.mk ha
                have B0 := Aside0.mk Q_B0
                refine value_ (w1 := w') (v := .bool true) (by rfl) rfl ?_ ?_
                · go_simp
                  (try simp only [i64_w])
                  try rfl
                refine hK.out _ _ ⟨(by rw [ha.out]; exact putSel_upk 6 hb_ rfl rfl rfl), Q_B0⟩
              refine steps_cons ?_ ?_
              · rintro b a w' ⟨ha, Q_B0⟩ hb_ hon hoff
                refine ⟨_, rfl, fun K hK => ?_⟩
                have e63 : a.tmps[63]? = some (.bool true) := by rw [ha]; exact putSel_on (e := (6, 63, .bool true)) 6 rfl rfl (hon 6 (by kernel_rfl)) rfl
                replace ha := Aside0.mk ha
                have B0 := Aside0.mk Q_B0
                refine value_ (w1 := w') (v := .bool true) (by rfl) rfl ?_ ?_
                · go_simp
                  (try simp only [i64_w])
                  try rfl
                refine hK.out _ _ ⟨(by rw [ha.out]; exact putSel_upk 7 hb_ rfl rfl rfl), Q_B0⟩
              refine steps_cons ?_ ?_
              · rintro b a w' ⟨ha, Q_B0⟩ hb_ hon hoff
                refine ⟨_, rfl, fun K hK => ?_⟩
                have e1 : a.tmps[1]? = some (.int .u64 n) := by rw [ha]; exact (putSel_off rfl).trans rfl
                have e64 : a.tmps[64]? = some (.bool true) := by rw [ha]; exact putSel_on (e := (7, 64, .bool true)) 7 rfl rfl (hon 7 (by kernel_rfl)) rfl
                replace ha := Aside0.mk ha
                have B0 := Aside0.mk Q_B0
                refine value_ (w1 := w') (v := .int .u64 n) (wanted_on rfl rfl rfl (e64.trans (by first | rfl | (simp [*]; done)))) rfl ?_ ?_
                · go_simp
                  (try simp only [i64_w])
                  try rfl
                refine hK.out _ _ ⟨(by rw [ha.out]; exact putSel_upk 8 hb_ rfl rfl rfl), Q_B0⟩
              refine steps_cons ?_ ?_
              · rintro b a w' ⟨ha, Q_B0⟩ hb_ hon hoff
                refine ⟨_, rfl, fun K hK => ?_⟩
                have e8 : a.tmps[8]? = some (.slice (some ad) cur.length cw) := by rw [ha]; exact (putSel_off rfl).trans rfl
                have e64 : a.tmps[64]? = some (.bool true) := by rw [ha]; exact putSel_on (e := (7, 64, .bool true)) 7 rfl rfl (hon 7 (by kernel_rfl)) rfl
                replace ha := Aside0.mk ha
                have B0 := Aside0.mk Q_B0
                refine value_ (w1 := w') (v := .slice (some ad) cur.length cw) (wanted_on rfl rfl rfl (e64.trans (by first | rfl | (simp [*]; done)))) rfl ?_ ?_
                · go_simp
                  (try simp only [i64_w])
                  try rfl
                refine hK.out _ _ ⟨(by rw [ha.out]; exact putSel_upk 9 hb_ rfl rfl rfl), Q_B0⟩
              refine steps_cons ?_ ?_
              · rintro b a w' ⟨ha, Q_B0⟩ hb_ hon hoff
                refine ⟨_, rfl, fun K hK => ?_⟩
                have e12 : a.tmps[12]? = some (.int .i64 (k : Int)) := by rw [ha]; exact (putSel_off rfl).trans rfl
                have e64 : a.tmps[64]? = some (.bool true) := by rw [ha]; exact putSel_on (e := (7, 64, .bool true)) 7 rfl rfl (hon 7 (by kernel_rfl)) rfl
                replace ha := Aside0.mk ha
                have B0 := Aside0.mk Q_B0
                refine value_ (w1 := w') (v := .int .i64 (k : Int)) (wanted_on rfl rfl rfl (e64.trans (by first | rfl | (simp [*]; done)))) rfl ?_ ?_
                · go_simp
                  (try simp only [i64_w])
                  try rfl
                refine hK.out _ _ ⟨(by rw [ha.out]; exact putSel_upk 10 hb_ rfl rfl rfl), Q_B0⟩
              refine steps_cons ?_ ?_
              · rintro b a w' ⟨ha, Q_B0⟩ hb_ hon hoff
                refine ⟨_, rfl, fun K hK => ?_⟩
                have e66 : a.tmps[66]? = some (.slice (some ad) cur.length cw) := by rw [ha]; exact putSel_on (e := (9, 66, .slice (some ad) cur.length cw)) 9 rfl rfl (hon 9 (by kernel_rfl)) rfl
                have e67 : a.tmps[67]? = some (.int .i64 (k : Int)) := by rw [ha]; exact putSel_on (e := (10, 67, .int .i64 (k : Int))) 10 rfl rfl (hon 10 (by kernel_rfl)) rfl
                have e64 : a.tmps[64]? = some (.bool true) := by rw [ha]; exact putSel_on (e := (7, 64, .bool true)) 7 rfl rfl (hon 7 (by kernel_rfl)) rfl
                replace ha := Aside0.mk ha
                have B0 := Aside0.mk Q_B0
                refine value_ (w1 := w') (v := .pointer (some (ad.add (k * 8)))) (wanted_on rfl rfl rfl (e64.trans (by first | rfl | (simp [*]; done)))) rfl ?_ ?_
                · go_simp
                  (try simp only [i64_w])
                  try rfl
                refine hK.out _ _ ⟨(by rw [ha.out]; exact putSel_upk 11 hb_ rfl rfl rfl), Q_B0⟩
              refine steps_cons ?_ ?_
              · rintro b a w' ⟨ha, Q_B0⟩ hb_ hon hoff
                refine ⟨_, rfl, fun K hK => ?_⟩
                have e68 : a.tmps[68]? = some (.pointer (some (ad.add (k * 8)))) := by rw [ha]; exact putSel_on (e := (11, 68, .pointer (some (ad.add (k * 8))))) 11 rfl rfl (hon 11 (by kernel_rfl)) rfl
                have e64 : a.tmps[64]? = some (.bool true) := by rw [ha]; exact putSel_on (e := (7, 64, .bool true)) 7 rfl rfl (hon 7 (by kernel_rfl)) rfl
                replace ha := Aside0.mk ha
                have B0 := Aside0.mk Q_B0
                refine value_ (w1 := w') (v := .pointer (some ⟨(ad.add (k * 8)).block, (ad.add (k * 8)).off + 1, none⟩)) (wanted_on rfl rfl rfl (e64.trans (by first | rfl | (simp [*]; done)))) rfl ?_ ?_
                · go_simp
                  (try simp only [i64_w])
                  try rfl
                refine hK.out _ _ ⟨(by rw [ha.out]; exact putSel_upk 12 hb_ rfl rfl rfl), Q_B0⟩
              refine steps_cons ?_ ?_
              · rintro b a w' ⟨ha, Q_B0⟩ hb_ hon hoff
                refine ⟨_, rfl, fun K hK => ?_⟩
                have e69 : a.tmps[69]? = some (.pointer (some ⟨(ad.add (k * 8)).block, (ad.add (k * 8)).off + 1, none⟩)) := by rw [ha]; exact putSel_on (e := (12, 69, .pointer (some ⟨(ad.add (k * 8)).block, (ad.add (k * 8)).off + 1, none⟩))) 12 rfl rfl (hon 12 (by kernel_rfl)) rfl
                have e64 : a.tmps[64]? = some (.bool true) := by rw [ha]; exact putSel_on (e := (7, 64, .bool true)) 7 rfl rfl (hon 7 (by kernel_rfl)) rfl
                replace ha := Aside0.mk ha
                have B0 := Aside0.mk Q_B0
                have x1_ := pw_cell_below B0.out HXC.out.2.1
                refine value_ (w1 := w') (v := .int .u64 x.f1) (wanted_on rfl rfl rfl (e64.trans (by first | rfl | (simp [*]; done)))) rfl ?_ ?_
                · go_simp
                  (try simp only [i64_w])
                  try rfl
                refine hK.out _ _ ⟨(by rw [ha.out]; exact putSel_upk 13 hb_ rfl rfl rfl), Q_B0⟩
              refine steps_cons ?_ ?_
              · rintro b a w' ⟨ha, Q_B0⟩ hb_ hon hoff
                refine ⟨_, rfl, fun K hK => ?_⟩
                have e65 : a.tmps[65]? = some (.int .u64 n) := by rw [ha]; exact putSel_on (e := (8, 65, .int .u64 n)) 8 rfl rfl (hon 8 (by kernel_rfl)) rfl
                have e70 : a.tmps[70]? = some (.int .u64 x.f1) := by rw [ha]; exact putSel_on (e := (13, 70, .int .u64 x.f1)) 13 rfl rfl (hon 13 (by kernel_rfl)) rfl
                have e64 : a.tmps[64]? = some (.bool true) := by rw [ha]; exact putSel_on (e := (7, 64, .bool true)) 7 rfl rfl (hon 7 (by kernel_rfl)) rfl
                replace ha := Aside0.mk ha
                have B0 := Aside0.mk Q_B0
                refine value_ (w1 := w') (v := .int .u64 (IntKind.u64.wrap (n - x.f1))) (wanted_on rfl rfl rfl (e64.trans (by first | rfl | (simp [*]; done)))) rfl ?_ ?_
                · go_simp
                  (try simp only [i64_w])
                  try rfl
                refine hK.out _ _ ⟨(by rw [ha.out]; exact putSel_upk 14 hb_ rfl rfl rfl), Q_B0⟩
              refine steps_cons ?_ ?_
              · rintro b a w' ⟨ha, Q_B0⟩ hb_ hon hoff
                refine ⟨_, rfl, fun K hK => ?_⟩
                have e8 : a.tmps[8]? = some (.slice (some ad) cur.length cw) := by rw [ha]; exact (putSel_off rfl).trans rfl
                have e64 : a.tmps[64]? = some (.bool true) := by rw [ha]; exact putSel_on (e := (7, 64, .bool true)) 7 rfl rfl (hon 7 (by kernel_rfl)) rfl
                replace ha := Aside0.mk ha
                have B0 := Aside0.mk Q_B0
                refine value_ (w1 := w') (v := .slice (some ad) cur.length cw) (wanted_on rfl rfl rfl (e64.trans (by first | rfl | (simp [*]; done)))) rfl ?_ ?_
                · go_simp
                  (try simp only [i64_w])
                  try rfl
                refine hK.out _ _ ⟨(by rw [ha.out]; exact putSel_upk 15 hb_ rfl rfl rfl), Q_B0⟩
              refine steps_cons ?_ ?_
              · rintro b a w' ⟨ha, Q_B0⟩ hb_ hon hoff
                refine ⟨_, rfl, fun K hK => ?_⟩
                have e12 : a.tmps[12]? = some (.int .i64 (k : Int)) := by rw [ha]; exact (putSel_off rfl).trans rfl
                have e64 : a.tmps[64]? = some (.bool true) := by rw [ha]; exact putSel_on (e := (7, 64, .bool true)) 7 rfl rfl (hon 7 (by kernel_rfl)) rfl
                replace ha := Aside0.mk ha
                have B0 := Aside0.mk Q_B0
                refine value_ (w1 := w') (v := .int .i64 (k : Int)) (wanted_on rfl rfl rfl (e64.trans (by first | rfl | (simp [*]; done)))) rfl ?_ ?_
                · go_simp
                  (try simp only [i64_w])
                  try rfl
                refine hK.out _ _ ⟨(by rw [ha.out]; exact putSel_upk 16 hb_ rfl rfl rfl), Q_B0⟩
              refine steps_cons ?_ ?_
              · rintro b a w' ⟨ha, Q_B0⟩ hb_ hon hoff
                refine ⟨_, rfl, fun K hK => ?_⟩
                have e72 : a.tmps[72]? = some (.slice (some ad) cur.length cw) := by rw [ha]; exact putSel_on (e := (15, 72, .slice (some ad) cur.length cw)) 15 rfl rfl (hon 15 (by kernel_rfl)) rfl
                have e73 : a.tmps[73]? = some (.int .i64 (k : Int)) := by rw [ha]; exact putSel_on (e := (16, 73, .int .i64 (k : Int))) 16 rfl rfl (hon 16 (by kernel_rfl)) rfl
                have e64 : a.tmps[64]? = some (.bool true) := by rw [ha]; exact putSel_on (e := (7, 64, .bool true)) 7 rfl rfl (hon 7 (by kernel_rfl)) rfl
                replace ha := Aside0.mk ha
                have B0 := Aside0.mk Q_B0
                refine value_ (w1 := w') (v := .pointer (some (ad.add (k * 8)))) (wanted_on rfl rfl rfl (e64.trans (by first | rfl | (simp [*]; done)))) rfl ?_ ?_
                · go_simp
                  (try simp only [i64_w])
                  try rfl
                refine hK.out _ _ ⟨(by rw [ha.out]; exact putSel_upk 17 hb_ rfl rfl rfl), Q_B0⟩
              refine steps_cons ?_ ?_
              · rintro b a w' ⟨ha, Q_B0⟩ hb_ hon hoff
                refine ⟨_, rfl, fun K hK => ?_⟩
                have e74 : a.tmps[74]? = some (.pointer (some (ad.add (k * 8)))) := by rw [ha]; exact putSel_on (e := (17, 74, .pointer (some (ad.add (k * 8))))) 17 rfl rfl (hon 17 (by kernel_rfl)) rfl
                have e64 : a.tmps[64]? = some (.bool true) := by rw [ha]; exact putSel_on (e := (7, 64, .bool true)) 7 rfl rfl (hon 7 (by kernel_rfl)) rfl
                replace ha := Aside0.mk ha
                have B0 := Aside0.mk Q_B0
                refine value_ (w1 := w') (v := .pointer (some ⟨(ad.add (k * 8)).block, (ad.add (k * 8)).off + 3, none⟩)) (wanted_on rfl rfl rfl (e64.trans (by first | rfl | (simp [*]; done)))) rfl ?_ ?_
                · go_simp
                  (try simp only [i64_w])
                  try rfl
                refine hK.out _ _ ⟨(by rw [ha.out]; exact putSel_upk 18 hb_ rfl rfl rfl), Q_B0⟩
              refine steps_cons ?_ ?_
              · rintro b a w' ⟨ha, Q_B0⟩ hb_ hon hoff
                refine ⟨_, rfl, fun K hK => ?_⟩
                have e75 : a.tmps[75]? = some (.pointer (some ⟨(ad.add (k * 8)).block, (ad.add (k * 8)).off + 3, none⟩)) := by rw [ha]; exact putSel_on (e := (18, 75, .pointer (some ⟨(ad.add (k * 8)).block, (ad.add (k * 8)).off + 3, none⟩))) 18 rfl rfl (hon 18 (by kernel_rfl)) rfl
                have e64 : a.tmps[64]? = some (.bool true) := by rw [ha]; exact putSel_on (e := (7, 64, .bool true)) 7 rfl rfl (hon 7 (by kernel_rfl)) rfl
                replace ha := Aside0.mk ha
                have B0 := Aside0.mk Q_B0
                have x3_ := pw_cell_below B0.out HXC.out.2.2.2.1
                refine value_ (w1 := w') (v := .int .i64 x.f3) (wanted_on rfl rfl rfl (e64.trans (by first | rfl | (simp [*]; done)))) rfl ?_ ?_
                · go_simp
                  (try simp only [i64_w])
                  try rfl
                refine hK.out _ _ ⟨(by rw [ha.out]; exact putSel_upk 19 hb_ rfl rfl rfl), Q_B0⟩
              refine steps_cons ?_ ?_
              · rintro b a w' ⟨ha, Q_B0⟩ hb_ hon hoff
                refine ⟨_, rfl, fun K hK => ?_⟩
                have e76 : a.tmps[76]? = some (.int .i64 x.f3) := by rw [ha]; exact putSel_on (e := (19, 76, .int .i64 x.f3)) 19 rfl rfl (hon 19 (by kernel_rfl)) rfl
                have e64 : a.tmps[64]? = some (.bool true) := by rw [ha]; exact putSel_on (e := (7, 64, .bool true)) 7 rfl rfl (hon 7 (by kernel_rfl)) rfl
                replace ha := Aside0.mk ha
                have B0 := Aside0.mk Q_B0
                refine goes_ Try.func9 (by kernel_rfl) rfl #[.int .i64 x.f3] (wanted_on rfl rfl rfl (e64.trans rfl)) rfl rfl (by first | (simp only [List.map_toArray, List.map_cons, List.map_nil, Act.eval, Array.getD_eq_getD_getElem?, Option.getD_some, e76, e64]; done) | (simp only [List.map_toArray, List.map_cons, List.map_nil, Act.eval, Array.getD_eq_getD_getElem?, Option.getD_some, e76, e64]; rfl)) ?_
                with_reducible refine (HFC.out _).mono ?_
                rintro e w2 ⟨rfl, hb⟩
                refine ⟨_, rfl, ?_⟩
                refine hK.out _ _ ⟨(by rw [ha.out]; exact putSel_upk 20 hb_ rfl rfl rfl), below_then B0.out B0.out.size hb⟩
              refine steps_cons ?_ ?_
              · rintro b a w' ⟨ha, Q_B0⟩ hb_ hon hoff
                refine ⟨_, rfl, fun K hK => ?_⟩
                have e77 : a.tmps[77]? = some (.int .i64 F) := by rw [ha]; exact putSel_on (e := (20, 77, .int .i64 F)) 20 rfl rfl (hon 20 (by kernel_rfl)) rfl
                have e64 : a.tmps[64]? = some (.bool true) := by rw [ha]; exact putSel_on (e := (7, 64, .bool true)) 7 rfl rfl (hon 7 (by kernel_rfl)) rfl
                replace ha := Aside0.mk ha
                have B0 := Aside0.mk Q_B0
                refine value_ (w1 := w') (v := .int .u64 (IntKind.u64.wrap F)) (wanted_on rfl rfl rfl (e64.trans (by first | rfl | (simp [*]; done)))) rfl ?_ ?_
                · go_simp
                  (try simp only [i64_w])
                  try rfl
                refine hK.out _ _ ⟨(by rw [ha.out]; exact putSel_upk 21 hb_ rfl rfl rfl), Q_B0⟩
              refine steps_cons ?_ ?_
              · rintro b a w' ⟨ha, Q_B0⟩ hb_ hon hoff
                refine ⟨_, rfl, fun K hK => ?_⟩
                have e71 : a.tmps[71]? = some (.int .u64 (IntKind.u64.wrap (n - x.f1))) := by rw [ha]; exact putSel_on (e := (14, 71, .int .u64 (IntKind.u64.wrap (n - x.f1)))) 14 rfl rfl (hon 14 (by kernel_rfl)) rfl
                have e78 : a.tmps[78]? = some (.int .u64 (IntKind.u64.wrap F)) := by rw [ha]; exact putSel_on (e := (21, 78, .int .u64 (IntKind.u64.wrap F))) 21 rfl rfl (hon 21 (by kernel_rfl)) rfl
                have e64 : a.tmps[64]? = some (.bool true) := by rw [ha]; exact putSel_on (e := (7, 64, .bool true)) 7 rfl rfl (hon 7 (by kernel_rfl)) rfl
                replace ha := Aside0.mk ha
                have B0 := Aside0.mk Q_B0
                refine value_ (w1 := w') (v := .bool bq) (wanted_on rfl rfl rfl (e64.trans (by first | rfl | (simp [*]; done)))) rfl ?_ ?_
                · go_simp
                  (try simp only [i64_w])
                  try rfl
                refine hK.out _ _ ⟨(by rw [ha.out]; exact putSel_upk 22 hb_ rfl rfl rfl), Q_B0⟩
              refine steps_cons ?_ ?_
              · rintro b a w' ⟨ha, Q_B0⟩ hb_ hon hoff
                refine ⟨_, rfl, fun K hK => ?_⟩
                have e64 : a.tmps[64]? = some (.bool true) := by rw [ha]; exact putSel_on (e := (7, 64, .bool true)) 7 rfl rfl (hon 7 (by kernel_rfl)) rfl
                have e79 : a.tmps[79]? = some (.bool bq) := by rw [ha]; exact putSel_on (e := (22, 79, .bool bq)) 22 rfl rfl (hon 22 (by kernel_rfl)) rfl
                replace ha := Aside0.mk ha
                have B0 := Aside0.mk Q_B0
                refine value_ (w1 := w') (v := .bool bq) (by rfl) rfl ?_ ?_
                · go_simp
                  (try simp only [i64_w])
                  try rfl
                refine hK.out _ _ ⟨(by rw [ha.out]; exact putSel_upk 23 hb_ rfl rfl rfl), Q_B0⟩
              exact steps_nil
            rintro b a w7 hall ⟨ha, Q_B0⟩
            clear B0
            have hb0_ := hall 0 (by kernel_rfl)
            have hb1_ := hall 1 (by kernel_rfl)
            have hb2_ := hall 2 (by kernel_rfl)
            have hb3_ := hall 3 (by kernel_rfl)
            have hb4_ := hall 4 (by kernel_rfl)
            have hb5_ := hall 5 (by kernel_rfl)
            have hb6_ := hall 6 (by kernel_rfl)
            have hb7_ := hall 7 (by kernel_rfl)
            have hb8_ := hall 8 (by kernel_rfl)
            have hb9_ := hall 9 (by kernel_rfl)
            have hb10_ := hall 10 (by kernel_rfl)
            have hb11_ := hall 11 (by kernel_rfl)
            have hb12_ := hall 12 (by kernel_rfl)
            have hb13_ := hall 13 (by kernel_rfl)
            have hb14_ := hall 14 (by kernel_rfl)
            have hb15_ := hall 15 (by kernel_rfl)
            have hb16_ := hall 16 (by kernel_rfl)
            have hb17_ := hall 17 (by kernel_rfl)
            have hb18_ := hall 18 (by kernel_rfl)
            have hb19_ := hall 19 (by kernel_rfl)
            have hb20_ := hall 20 (by kernel_rfl)
            have hb21_ := hall 21 (by kernel_rfl)
            have hb22_ := hall 22 (by kernel_rfl)
            have hb23_ := hall 23 (by kernel_rfl)
            subst ha
            simp only [putSel, hb0_, hb1_, hb2_, hb3_, hb4_, hb5_, hb6_, hb7_, hb8_, hb9_, hb10_, hb11_, hb12_, hb13_, hb14_, hb15_, hb16_, hb17_, hb18_, hb19_, hb20_, hb21_, hb22_, hb23_, if_true, Act.put, List.setIfInBounds_toArray, List.set_cons_zero, List.set_cons_succ]
            have B0 := Aside0.mk Q_B0
            clear Q_B0
            clear hall hb0_ hb1_ hb2_ hb3_ hb4_ hb5_ hb6_ hb7_ hb8_ hb9_ hb10_ hb11_ hb12_ hb13_ hb14_ hb15_ hb16_ hb17_ hb18_ hb19_ hb20_ hb21_ hb22_ hb23_
            have hb := B0.out
            have HB9 := Aside0.mk hb
            clear h1 p1 q1 e1 hb
            cases bq with
            | false =>
              have t8 := HW8.out
              go_wp2_with fail
              go_roundg ((k : Int).toNat + 1)
              case measure => have := HI.out; omega
              case rel => exact ⟨(k : Int) - 1, v, rfl, by first | rfl | (unfold wrap64; have := HCN.out; have := HKL.out; congr 1; omega), ⟨by omega, by have := HKL.out; omega, by omega⟩, ⟨by rw [show ((k : Int) - 1 + 1).toNat = k by omega]; exact HA2.out.no HXK.out.1 HE.out⟩, ⟨HWr.out.below HB9.out⟩, ⟨HXr.out.below HB9.out⟩, ⟨below_then HBr.out HBr.out.size HB9.out⟩⟩
            | true =>
              have t8 := HW8.out
              go_wp2_with fail
              go_roundg ((k : Int).toNat + 1)
              case measure => have := HI.out; omega
              case rel => exact ⟨(k : Int) - 1, (k : Int), rfl, by first | rfl | (unfold wrap64; have := HCN.out; have := HKL.out; congr 1; omega), ⟨by omega, by have := HKL.out; omega, by omega⟩, ⟨by rw [show ((k : Int) - 1 + 1).toNat = k by omega]; exact HA2.out.yes HXK.out.1 HE.out⟩, ⟨HWr.out.below HB9.out⟩, ⟨HXr.out.below HB9.out⟩, ⟨below_then HBr.out HBr.out.size HB9.out⟩⟩
    case rest =>
      obtain ⟨v, rfl, HA, HW5, HX5, HB5⟩ := hcut
      obtain ⟨w5, hw5⟩ : ∃ w5 : World, w5 = wc := ⟨_, rfl⟩
      subst hw5
      clear HW HX2 BB
      go_upto_block 4 with fail
      go_cut [9] (fun v9 wx => ∃ (A9 : Option Addr) (c9 : Nat), v9 = .slice A9 (pagesOf cur).length c9 ∧ Aside0 ((pagesOf cur).length ≤ c9 ∧ Kd.C (Kd.int .i64) wx A9 (pagesOf cur).length (pagesOf cur)) ∧ Aside0 (Lst wx Aw cw cur) ∧ Aside0 (IX wx w.heap.size g0 cur) ∧ Aside0 (Below w.heap.size w wx))
      case first =>
        go_wp2_with fail
        go_loopg [9, 13] (cur.length + 1) (fun kq v9 v13 w' => ∃ i : Nat, v13 = .int .i64 (i : Int) ∧ Aside0 (i ≤ cur.length ∧ kq + i = cur.length + 1) ∧ Aside0 (w'.ownsRow w5.heap.size 3 1 v9 (pagesOf (cur.take i)).length (nums .i64 (pagesOf (cur.take i)))) ∧ Aside0 (Below w5.heap.size w5 w'))
        case atStart => exact ⟨0, rfl, ⟨Nat.zero_le _, rfl⟩, ⟨World.ownsRow_nil _ _ _ _⟩, ⟨Below.refl _ _⟩⟩
        case round =>
          obtain ⟨i, rfl, HI, HO, BB⟩ := hrel
          by_cases hi : i < cur.length
          case neg =>
            have hie : i = cur.length := by have := HI.out; omega
            subst hie
            have t1 : decide ((cur.length : Int) < (cur.length : Int)) = false := decide_eq_false (by omega)
            have ho := HO.out
            rw [List.take_length] at ho
            obtain ⟨A9, c9, e9, hl9, hC9⟩ := Kd.R_reads (Kd.R_of_own (enc := Value.int .i64) (ok := fun _ => True) ho (fun _ _ => trivial))
            subst e9
            have HP9 : Aside0 ((pagesOf cur).length ≤ c9 ∧ Kd.C (Kd.int .i64) wr A9 (pagesOf cur).length (pagesOf cur)) := ⟨hl9, hC9⟩
            clear HO hi ho hl9 hC9
            go_wp2_with fail
            go_meet
            exact ⟨A9, c9, rfl, HP9, ⟨HW5.out.below BB.out⟩, ⟨HX5.out.below BB.out⟩, ⟨below_then HB5.out HB5.out.size BB.out⟩⟩
          case pos =>
            have t1 : decide ((i : Int) < (cur.length : Int)) = true := decide_eq_true (by omega)
            have t2 : decide (i < cur.length) = true := decide_eq_true hi
            obtain ⟨x, hx⟩ : ∃ x, cur[i]? = some x := ⟨_, List.getElem?_eq_getElem hi⟩
            obtain ⟨ad, Ap, cpp, hAw, x0, x1, x2, x3, x4, x5, x6, x7, hlp, hCp⟩ := C_at HW5.out.now hx
            subst hAw
            have HXC := Aside0.mk (And.intro x6 x7)
            have hmf := may_facts (HGF.out.2.2 x (List.mem_of_getElem? hx))
            obtain ⟨adp, hadp⟩ : ∃ ad, Ap = some ad := by
              obtain ⟨ad, e, _⟩ := (Kd.reads_of_C (d := (0 : Int)) hCp).2.2 (by omega)
              exact ⟨ad, e⟩
            subst hadp
            have HC2 := Aside0.mk hCp
            have HXP := Aside0.mk hmf
            obtain ⟨acc, hacc⟩ : ∃ acc, acc = pagesOf (cur.take i) := ⟨_, rfl⟩
            have HAS : Aside0 (pagesOf (cur.take (i + 1)) = acc ++ [x.f6] ++ x.f7) := ⟨by rw [hacc]; exact pages_succ hx⟩
            have HAL : Aside0 (acc.length ≤ 15000) := ⟨by
              rw [hacc]
              have h1 := pages_len (cur.take i) (fun y hy => (may_facts (HGF.out.2.2 y (List.mem_of_mem_take hy))).2.2.2.2)
              have h3 := HCN.out
              have h4 : (cur.take i).length ≤ 1000 := by rw [List.length_take]; omega
              omega⟩
            rw [← hacc] at HO
            have HLL : Aside0 ((acc ++ [x.f6]).length + x.f7.length ≤ 100000 ∧ acc.length + 1 ≤ 100000 ∧ 0 < x.f7.length) := ⟨by have := HAL.out; rw [List.length_append, List.length_singleton]; omega⟩
            have HCC : Aside0 (∀ w' : World, Below w5.heap.size w5 w' → ∀ (j : Nat) (u : Value), (nums .i64 x.f7)[j]? = some u → w'.cell? (adp.add j) = some u) := ⟨fun w' hb j u hu => by
              unfold nums at hu
              rw [List.getElem?_map] at hu
              obtain ⟨y, hy, rfl⟩ := Option.map_eq_some_iff.1 hu
              have hj := (List.getElem?_eq_some_iff.1 hy).1
              obtain ⟨ad', he, hc⟩ := (Kd.reads_of_C (d := (0 : Int)) (Kd.C_below HC2.out hb)).2.2 (by omega)
              obtain rfl := Option.some.inj he
              rw [hc j hj, List.getD_eq_getElem?_getD, hy]
              rfl⟩
            obtain ⟨n1, hn1⟩ : ∃ n, acc.length + 1 = n := ⟨_, rfl⟩
            obtain ⟨n2, hn2⟩ : ∃ n, (acc ++ [x.f6]).length + x.f7.length = n := ⟨_, rfl⟩
            have HN1 := Aside0.mk hn1
            have HN2 := Aside0.mk hn2
            have HIL := Aside0.mk hi
            have HWI : Aside0 (IntKind.i64.wrap ((i : Int) + 1) = ((i + 1 : Nat) : Int)) := ⟨by have := HCN.out; rw [i64_w]; unfold wrap64; omega⟩
            have p1 := eq_true (show (0 : Int) ≤ (i : Int) by omega)
            have q1 := eq_true (show (i : Int) < (cur.length : Int) by omega)
            have y6 := pw_cell_below BB.out HXC.out.1
            clear x0 x1 x2 x3 x4 x5 x6 x7 hlp hCp hacc hn1 hn2 hi hmf hx
            go_upto_region 22 with (at_builtin; obtain ⟨A_, c_, w6, hr_, ho_, hg_, _⟩ := int_app (HO.out.alloc (.cells #[.int .i64 x.f6] 3)) ⟨wr.heap.size, 0, none⟩ 1 1 [x.f6] rfl (by decide) (one_src (heap_alloc_new wr _)) HLL.out.2.1 (by have := BB.out.size; simp; omega) 27 n1 HN1.out; refine app_wp rfl _ _ 27 rfl rfl rfl hr_ ?_; have HO6 := Aside0.mk ho_; have HB6 := Aside0.mk (pw_below_grown (below_alloc BB.out (.cells #[.int .i64 x.f6] 3)) _ (by have := BB.out.size; simp; omega) hg_ (fun k hk => (HO.out.lt k hk).1)); clear hr_ ho_ hg_ y6)
            have y7 := pw_cell_below HB6.out HXC.out.2
            go_wp2_with (at_builtin; obtain ⟨A_2, c_2, w7, hr_, ho_, hg_, _⟩ := int_app HO6.out adp x.f7.length cpp x.f7 rfl HLL.out.2.2 (HCC.out _ HB6.out) HLL.out.1 HB6.out.size 27 n2 HN2.out; refine app_wp rfl _ _ 27 rfl rfl rfl hr_ ?_; have HO7 := Aside0.mk ho_; have HB7 := Aside0.mk (pw_below_grown HB6.out _ HB6.out.size hg_ (fun k hk => (HO6.out.lt k hk).1)); clear hr_ ho_ hg_ y7)
            go_roundg (cur.length - i)
            case measure => have := HI.out; have := HIL.out; omega
            case rel => exact ⟨i + 1, by first | rfl | (rw [← i64_w, HWI.out]) | (simp; unfold wrap64; have := HIL.out; have := HCN.out; omega), ⟨by have := HIL.out; omega, by have := HI.out; have := HIL.out; omega⟩, ⟨by rw [HAS.out]; exact HO7.out⟩, HB7⟩
      case rest =>
        obtain ⟨A9, c9, rfl, HP9, HW6, HX6, HB6⟩ := hcut
        obtain ⟨w6, hw6⟩ : ∃ w6 : World, w6 = wc := ⟨_, rfl⟩
        subst hw6
        clear HW5 HX5 HB5
        have HPM : Aside0 (∀ y ∈ cur, y.f7.length ≤ 1000) := ⟨HGF.out.may⟩
        have HPN : Aside0 (∀ y ∈ cur, 1 ≤ y.f7.length ∧ y.f7.length ≤ 14) := ⟨fun y hy => (may_facts (HGF.out.2.2 y hy)).2.2.2⟩
        have HPL2 : Aside0 ((pagesOf cur).length ≤ 1000000) := ⟨by have h1 := pages_len cur (fun y hy => (HPN.out y hy).2); have h2 := HCN.out; omega⟩
        obtain ⟨pg, hpg⟩ : ∃ pg, pg = pagesOf cur := ⟨_, rfl⟩
        have HPG : Aside0 (∀ W, IX W w.heap.size g0 cur → Calls Try.prog 13 #[.pointer (some ⟨g0, 0, none⟩)] W fun e w' => PagesTo W w' e pg) := ⟨fun W h => by rw [hpg]; exact pages_calls h (by have := HCN.out; omega) HPN.out⟩
        rw [← hpg] at HP9 HPL2 ⊢
        clear hpg
        rcases HA.out.filter with ⟨hv, hf⟩ | ⟨q, x, r, hv, hx, hf⟩
        · subst hv
          have HFR := Aside0.mk (frame_no HX6.out (by have := HCN.out; omega) HPM.out n hf)
          clear hf HA
          go_upto_region 24 with (go_at_call 10; refine HFR.out.mono ?_; rintro e w7 ⟨rfl, hb⟩; have HX7 := Aside0.mk (HX6.out.below hb); have HW7 := Aside0.mk (HW6.out.below hb); have HB7 := Aside0.mk (below_then HB6.out HB6.out.size hb); have HP97 := Aside0.mk (And.intro HP9.out.1 (Kd.C_below HP9.out.2 hb)); clear hb)
          have hb := below_alloc (Below.refl w7.heap.size w7) (.cells #[.int .u64 0, .int .u64 0, .int .i64 0, .int .i64 0, .int .u64 0, .bool false, .int .i64 0, .slice none 0 0] 29)
          obtain ⟨g14, hg14⟩ : ∃ g, g = w7.heap.size := ⟨_, rfl⟩
          generalize w7.alloc (.cells #[.int .u64 0, .int .u64 0, .int .i64 0, .int .i64 0, .int .u64 0, .bool false, .int .i64 0, .slice none 0 0] 29) = W8 at hb ⊢
          rw [← hg14]
          clear hg14
          have HX8 := Aside0.mk (HX7.out.below hb)
          have HW8 := Aside0.mk (HW7.out.below hb)
          have HB8 := Aside0.mk (below_then HB7.out HB7.out.size hb)
          have HP98 := Aside0.mk (And.intro HP97.out.1 (Kd.C_below HP97.out.2 hb))
          clear hb
          have B0 := Aside0.mk (below_drew1 (Below.refl W8.heap.size W8))
          clear HFR
          refine start_ (n := 36) (S := fun w' => True) (ds := []) #[false, false, false, false, false, false, false, false, false, false, false, false, false, false, false, false, false, false, false, false, false, false, false, false, false, false, false, false, false, false, false, false, false, false, false, false] (by kernel_rfl) rfl rfl trivial (fun hHeld => ?_)
          refine with_tabW ifr24n.tab24 ifr24n.bits24 (fun HT_ HW_ => ?_)
          generalize W8.drew = wq at B0 hHeld ⊢
          refine inv_at [0, 1, 2, 3, 4, 5, 6, 7, 8, 9, 10, 11, 12, 13, 14, 15, 16, 17, 18, 19, 20, 21, 22, 23, 24, 25, 26, 27, 28, 29, 30, 31, 32, 33, 34, 35] (fun a0_ b a w' => a = putSel a0_ b [(0, 110, .bool false), (1, 111, .int .i64 (-1)), (2, 112, .bool false), (3, 113, .bool false), (4, 114, .bool false), (5, 115, .bool false), (6, 116, .bool false), (7, 117, undef), (8, 118, undef), (9, 119, undef), (10, 120, undef), (11, 121, undef), (12, 122, undef), (13, 123, undef), (14, 124, undef), (15, 125, undef), (16, 126, undef), (17, 127, undef), (18, 128, undef), (19, 129, undef), (20, 130, undef), (21, 131, undef), (22, 132, undef), (23, 133, undef), (24, 134, undef), (25, 135, undef), (26, 136, .bool false), (27, 137, .bool false), (28, 138, .bool false), (29, 139, .bool false), (30, 140, .bool true), (31, 141, .bool true), (32, 142, .int .i64 0), (33, 143, .bool false), (34, 144, .bool false), (35, 145, .bool false)] ∧ (Below W8.heap.size W8 w')) HT_.out HW_.out (by kernel_rfl) (by kernel_rfl) ?_ ?_ ?_
          · exact ⟨by simp only [putSel, Bool.false_eq_true, if_false], B0.out⟩
          · skip
            clear B0
            refine steps_cons ?_ ?_
            · rintro b a w' ⟨ha, Q_B0⟩ hb_ hon hoff
              refine ⟨_, rfl, fun K hK => ?_⟩
              have e16 : a.tmps[16]? = some (.bool false) := by rw [ha]; exact (putSel_off rfl).trans rfl
              replace ha := Aside0.mk ha
              have B0 := Aside0.mk Q_B0
              refine value_ (w1 := w') (v := .bool false) (by rfl) rfl ?_ ?_
              · go_simp
                (try simp only [i64_w])
                try rfl
              refine hK.out _ _ ⟨(by rw [ha.out]; exact putSel_upk 0 hb_ rfl rfl rfl), Q_B0⟩
            refine steps_cons ?_ ?_
            · rintro b a w' ⟨ha, Q_B0⟩ hb_ hon hoff
              refine ⟨_, rfl, fun K hK => ?_⟩
              have e11 : a.tmps[11]? = some (.int .i64 (-1)) := by rw [ha]; exact (putSel_off rfl).trans rfl
              replace ha := Aside0.mk ha
              have B0 := Aside0.mk Q_B0
              refine value_ (w1 := w') (v := .int .i64 (-1)) (by rfl) rfl ?_ ?_
              · go_simp
                (try simp only [i64_w])
                try rfl
              refine hK.out _ _ ⟨(by rw [ha.out]; exact putSel_upk 1 hb_ rfl rfl rfl), Q_B0⟩
            refine steps_cons ?_ ?_
            · rintro b a w' ⟨ha, Q_B0⟩ hb_ hon hoff
              refine ⟨_, rfl, fun K hK => ?_⟩
              have e111 : a.tmps[111]? = some (.int .i64 (-1)) := by rw [ha]; exact putSel_on (e := (1, 111, .int .i64 (-1))) 1 rfl rfl (hon 1 (by kernel_rfl)) rfl
              replace ha := Aside0.mk ha
              have B0 := Aside0.mk Q_B0
              refine value_ (w1 := w') (v := .bool false) (by rfl) rfl ?_ ?_
              · go_simp
                (try simp only [i64_w])
                try rfl
              refine hK.out _ _ ⟨(by rw [ha.out]; exact putSel_upk 2 hb_ rfl rfl rfl), Q_B0⟩
            refine steps_cons ?_ ?_
            · rintro b a w' ⟨ha, Q_B0⟩ hb_ hon hoff
              refine ⟨_, rfl, fun K hK => ?_⟩
              have e110 : a.tmps[110]? = some (.bool false) := by rw [ha]; exact putSel_on (e := (0, 110, .bool false)) 0 rfl rfl (hon 0 (by kernel_rfl)) rfl
              have e112 : a.tmps[112]? = some (.bool false) := by rw [ha]; exact putSel_on (e := (2, 112, .bool false)) 2 rfl rfl (hon 2 (by kernel_rfl)) rfl
              replace ha := Aside0.mk ha
              have B0 := Aside0.mk Q_B0
              refine value_ (w1 := w') (v := .bool false) (by rfl) rfl ?_ ?_
              · go_simp
                (try simp only [i64_w])
                try rfl
              refine hK.out _ _ ⟨(by rw [ha.out]; exact putSel_upk 3 hb_ rfl rfl rfl), Q_B0⟩
            refine steps_cons ?_ ?_
            · rintro b a w' ⟨ha, Q_B0⟩ hb_ hon hoff
              refine ⟨_, rfl, fun K hK => ?_⟩
              have e113 : a.tmps[113]? = some (.bool false) := by rw [ha]; exact putSel_on (e := (3, 113, .bool false)) 3 rfl rfl (hon 3 (by kernel_rfl)) rfl
              replace ha := Aside0.mk ha
              have B0 := Aside0.mk Q_B0
              refine value_ (w1 := w') (v := .bool false) (by rfl) rfl ?_ ?_
              · go_simp
                (try simp only [i64_w])
                try rfl
              refine hK.out _ _ ⟨(by rw [ha.out]; exact putSel_upk 4 hb_ rfl rfl rfl), Q_B0⟩
            refine steps_cons ?_ ?_
            · rintro b a w' ⟨ha, Q_B0⟩ hb_ hon hoff
              refine ⟨_, rfl, fun K hK => ?_⟩
              have e16 : a.tmps[16]? = some (.bool false) := by rw [ha]; exact (putSel_off rfl).trans rfl
              have e114 : a.tmps[114]? = some (.bool false) := by rw [ha]; exact putSel_on (e := (4, 114, .bool false)) 4 rfl rfl (hon 4 (by kernel_rfl)) rfl
              replace ha := Aside0.mk ha
              have B0 := Aside0.mk Q_B0
              refine value_ (w1 := w') (v := .bool false) (wanted_on rfl rfl rfl (e114.trans (by first | rfl | (simp [*]; done)))) rfl ?_ ?_
              · go_simp
                (try simp only [i64_w])
                try rfl
              refine hK.out _ _ ⟨(by rw [ha.out]; exact putSel_upk 5 hb_ rfl rfl rfl), Q_B0⟩
            refine steps_cons ?_ ?_
            · rintro b a w' ⟨ha, Q_B0⟩ hb_ hon hoff
              refine ⟨_, rfl, fun K hK => ?_⟩
              have e115 : a.tmps[115]? = some (.bool false) := by rw [ha]; exact putSel_on (e := (5, 115, .bool false)) 5 rfl rfl (hon 5 (by kernel_rfl)) rfl
              have e114 : a.tmps[114]? = some (.bool false) := by rw [ha]; exact putSel_on (e := (4, 114, .bool false)) 4 rfl rfl (hon 4 (by kernel_rfl)) rfl
              replace ha := Aside0.mk ha
              have B0 := Aside0.mk Q_B0
              refine value_ (w1 := w') (v := .bool false) (wanted_on rfl rfl rfl (e114.trans (by first | rfl | (simp [*]; done)))) rfl ?_ ?_
              · go_simp
                (try simp only [i64_w])
                try rfl
              refine hK.out _ _ ⟨(by rw [ha.out]; exact putSel_upk 6 hb_ rfl rfl rfl), Q_B0⟩
            refine steps_cons ?_ ?_
            · rintro b a w' ⟨ha, Q_B0⟩ hb_ hon hoff
              refine ⟨_, rfl, fun K hK => ?_⟩
              have e116 : a.tmps[116]? = some (.bool false) := by rw [ha]; exact putSel_on (e := (6, 116, .bool false)) 6 rfl rfl (hon 6 (by kernel_rfl)) rfl
              replace ha := Aside0.mk ha
              have B0 := Aside0.mk Q_B0
              refine off_ (wanted_off rfl rfl rfl (e116.trans (by first | rfl | (simp [*]; done)))) ?_
              refine hK.out _ _ ⟨(by rw [ha.out]; exact putSel_upk 7 hb_ rfl rfl rfl), Q_B0⟩
            refine steps_cons ?_ ?_
            · rintro b a w' ⟨ha, Q_B0⟩ hb_ hon hoff
              refine ⟨_, rfl, fun K hK => ?_⟩
              have e116 : a.tmps[116]? = some (.bool false) := by rw [ha]; exact putSel_on (e := (6, 116, .bool false)) 6 rfl rfl (hon 6 (by kernel_rfl)) rfl
              replace ha := Aside0.mk ha
              have B0 := Aside0.mk Q_B0
              refine off_ (wanted_off rfl rfl rfl (e116.trans (by first | rfl | (simp [*]; done)))) ?_
              refine hK.out _ _ ⟨(by rw [ha.out]; exact putSel_upk 8 hb_ rfl rfl rfl), Q_B0⟩
            refine steps_cons ?_ ?_
            · rintro b a w' ⟨ha, Q_B0⟩ hb_ hon hoff
              refine ⟨_, rfl, fun K hK => ?_⟩
              have e116 : a.tmps[116]? = some (.bool false) := by rw [ha]; exact putSel_on (e := (6, 116, .bool false)) 6 rfl rfl (hon 6 (by kernel_rfl)) rfl
              replace ha := Aside0.mk ha
              have B0 := Aside0.mk Q_B0
              refine off_ (wanted_off rfl rfl rfl (e116.trans (by first | rfl | (simp [*]; done)))) ?_
              refine hK.out _ _ ⟨(by rw [ha.out]; exact putSel_upk 9 hb_ rfl rfl rfl), Q_B0⟩
            refine steps_cons ?_ ?_
            · rintro b a w' ⟨ha, Q_B0⟩ hb_ hon hoff
              refine ⟨_, rfl, fun K hK => ?_⟩
              have e116 : a.tmps[116]? = some (.bool false) := by rw [ha]; exact putSel_on (e := (6, 116, .bool false)) 6 rfl rfl (hon 6 (by kernel_rfl)) rfl
              replace ha := Aside0.mk ha
              have B0 := Aside0.mk Q_B0
              refine off_ (wanted_off rfl rfl rfl (e116.trans (by first | rfl | (simp [*]; done)))) ?_
              refine hK.out _ _ ⟨(by rw [ha.out]; exact putSel_upk 10 hb_ rfl rfl rfl), Q_B0⟩
            refine steps_cons ?_ ?_
            · rintro b a w' ⟨ha, Q_B0⟩ hb_ hon hoff
              refine ⟨_, rfl, fun K hK => ?_⟩
              have e116 : a.tmps[116]? = some (.bool false) := by rw [ha]; exact putSel_on (e := (6, 116, .bool false)) 6 rfl rfl (hon 6 (by kernel_rfl)) rfl
              replace ha := Aside0.mk ha
              have B0 := Aside0.mk Q_B0
              refine off_ (wanted_off rfl rfl rfl (e116.trans (by first | rfl | (simp [*]; done)))) ?_
              refine hK.out _ _ ⟨(by rw [ha.out]; exact putSel_upk 11 hb_ rfl rfl rfl), Q_B0⟩
            refine steps_cons ?_ ?_
            · rintro b a w' ⟨ha, Q_B0⟩ hb_ hon hoff
              refine ⟨_, rfl, fun K hK => ?_⟩
              have e116 : a.tmps[116]? = some (.bool false) := by rw [ha]; exact putSel_on (e := (6, 116, .bool false)) 6 rfl rfl (hon 6 (by kernel_rfl)) rfl
              replace ha := Aside0.mk ha
              have B0 := Aside0.mk Q_B0
              refine off_ (wanted_off rfl rfl rfl (e116.trans (by first | rfl | (simp [*]; done)))) ?_
              refine hK.out _ _ ⟨(by rw [ha.out]; exact putSel_upk 12 hb_ rfl rfl rfl), Q_B0⟩
            refine steps_cons ?_ ?_
            · rintro b a w' ⟨ha, Q_B0⟩ hb_ hon hoff
              refine ⟨_, rfl, fun K hK => ?_⟩
              have e116 : a.tmps[116]? = some (.bool false) := by rw [ha]; exact putSel_on (e := (6, 116, .bool false)) 6 rfl rfl (hon 6 (by kernel_rfl)) rfl
              replace ha := Aside0.mk ha
              have B0 := Aside0.mk Q_B0
              refine off_ (wanted_off rfl rfl rfl (e116.trans (by first | rfl | (simp [*]; done)))) ?_
              refine hK.out _ _ ⟨(by rw [ha.out]; exact putSel_upk 13 hb_ rfl rfl rfl), Q_B0⟩
            refine steps_cons ?_ ?_
            · rintro b a w' ⟨ha, Q_B0⟩ hb_ hon hoff
              refine ⟨_, rfl, fun K hK => ?_⟩
              have e116 : a.tmps[116]? = some (.bool false) := by rw [ha]; exact putSel_on (e := (6, 116, .bool false)) 6 rfl rfl (hon 6 (by kernel_rfl)) rfl
              replace ha := Aside0.mk ha
              have B0 := Aside0.mk Q_B0
              refine off_ (wanted_off rfl rfl rfl (e116.trans (by first | rfl | (simp [*]; done)))) ?_
              refine hK.out _ _ ⟨(by rw [ha.out]; exact putSel_upk 14 hb_ rfl rfl rfl), Q_B0⟩
            refine steps_cons ?_ ?_
            · rintro b a w' ⟨ha, Q_B0⟩ hb_ hon hoff
              refine ⟨_, rfl, fun K hK => ?_⟩
              have e124 : a.tmps[124]? = some (undef) := by rw [ha]; exact putSel_on (e := (14, 124, undef)) 14 rfl rfl (hon 14 (by kernel_rfl)) rfl
              replace ha := Aside0.mk ha
              have B0 := Aside0.mk Q_B0
              refine off_ (wanted_und rfl rfl rfl e124) ?_
              refine hK.out _ _ ⟨(by rw [ha.out]; exact putSel_upk 15 hb_ rfl rfl rfl), Q_B0⟩
            refine steps_cons ?_ ?_
            · rintro b a w' ⟨ha, Q_B0⟩ hb_ hon hoff
              refine ⟨_, rfl, fun K hK => ?_⟩
              have e124 : a.tmps[124]? = some (undef) := by rw [ha]; exact putSel_on (e := (14, 124, undef)) 14 rfl rfl (hon 14 (by kernel_rfl)) rfl
              replace ha := Aside0.mk ha
              have B0 := Aside0.mk Q_B0
              refine off_ (wanted_und rfl rfl rfl e124) ?_
              refine hK.out _ _ ⟨(by rw [ha.out]; exact putSel_upk 16 hb_ rfl rfl rfl), Q_B0⟩
            refine steps_cons ?_ ?_
            · rintro b a w' ⟨ha, Q_B0⟩ hb_ hon hoff
              refine ⟨_, rfl, fun K hK => ?_⟩
              have e124 : a.tmps[124]? = some (undef) := by rw [ha]; exact putSel_on (e := (14, 124, undef)) 14 rfl rfl (hon 14 (by kernel_rfl)) rfl
              replace ha := Aside0.mk ha
              have B0 := Aside0.mk Q_B0
              refine off_ (wanted_und rfl rfl rfl e124) ?_
              refine hK.out _ _ ⟨(by rw [ha.out]; exact putSel_upk 17 hb_ rfl rfl rfl), Q_B0⟩
            refine steps_cons ?_ ?_
            · rintro b a w' ⟨ha, Q_B0⟩ hb_ hon hoff
              refine ⟨_, rfl, fun K hK => ?_⟩
              have e124 : a.tmps[124]? = some (undef) := by rw [ha]; exact putSel_on (e := (14, 124, undef)) 14 rfl rfl (hon 14 (by kernel_rfl)) rfl
              replace ha := Aside0.mk ha
              have B0 := Aside0.mk Q_B0
              refine off_ (wanted_und rfl rfl rfl e124) ?_
              refine hK.out _ _ ⟨(by rw [ha.out]; exact putSel_upk 18 hb_ rfl rfl rfl), Q_B0⟩
            refine steps_cons ?_ ?_
            · rintro b a w' ⟨ha, Q_B0⟩ hb_ hon hoff
              refine ⟨_, rfl, fun K hK => ?_⟩
              have e124 : a.tmps[124]? = some (undef) := by rw [ha]; exact putSel_on (e := (14, 124, undef)) 14 rfl rfl (hon 14 (by kernel_rfl)) rfl
              replace ha := Aside0.mk ha
              have B0 := Aside0.mk Q_B0
              refine off_ (wanted_und rfl rfl rfl e124) ?_
              refine hK.out _ _ ⟨(by rw [ha.out]; exact putSel_upk 19 hb_ rfl rfl rfl), Q_B0⟩
            refine steps_cons ?_ ?_
            · rintro b a w' ⟨ha, Q_B0⟩ hb_ hon hoff
              refine ⟨_, rfl, fun K hK => ?_⟩
              have e124 : a.tmps[124]? = some (undef) := by rw [ha]; exact putSel_on (e := (14, 124, undef)) 14 rfl rfl (hon 14 (by kernel_rfl)) rfl
              replace ha := Aside0.mk ha
              have B0 := Aside0.mk Q_B0
              refine off_ (wanted_und rfl rfl rfl e124) ?_
              refine hK.out _ _ ⟨(by rw [ha.out]; exact putSel_upk 20 hb_ rfl rfl rfl), Q_B0⟩
            refine steps_cons ?_ ?_
            · rintro b a w' ⟨ha, Q_B0⟩ hb_ hon hoff
              refine ⟨_, rfl, fun K hK => ?_⟩
              have e124 : a.tmps[124]? = some (undef) := by rw [ha]; exact putSel_on (e := (14, 124, undef)) 14 rfl rfl (hon 14 (by kernel_rfl)) rfl
              replace ha := Aside0.mk ha
              have B0 := Aside0.mk Q_B0
              refine off_ (wanted_und rfl rfl rfl e124) ?_
              refine hK.out _ _ ⟨(by rw [ha.out]; exact putSel_upk 21 hb_ rfl rfl rfl), Q_B0⟩
            refine steps_cons ?_ ?_
            · rintro b a w' ⟨ha, Q_B0⟩ hb_ hon hoff
              refine ⟨_, rfl, fun K hK => ?_⟩
              have e124 : a.tmps[124]? = some (undef) := by rw [ha]; exact putSel_on (e := (14, 124, undef)) 14 rfl rfl (hon 14 (by kernel_rfl)) rfl
              replace ha := Aside0.mk ha
              have B0 := Aside0.mk Q_B0
              refine off_ (wanted_und rfl rfl rfl e124) ?_
              refine hK.out _ _ ⟨(by rw [ha.out]; exact putSel_upk 22 hb_ rfl rfl rfl), Q_B0⟩
            refine steps_cons ?_ ?_
            · rintro b a w' ⟨ha, Q_B0⟩ hb_ hon hoff
              refine ⟨_, rfl, fun K hK => ?_⟩
              have e124 : a.tmps[124]? = some (undef) := by rw [ha]; exact putSel_on (e := (14, 124, undef)) 14 rfl rfl (hon 14 (by kernel_rfl)) rfl
              replace ha := Aside0.mk ha
              have B0 := Aside0.mk Q_B0
              refine off_ (wanted_und rfl rfl rfl e124) ?_
              refine hK.out _ _ ⟨(by rw [ha.out]; exact putSel_upk 23 hb_ rfl rfl rfl), Q_B0⟩
            refine steps_cons ?_ ?_
            · rintro b a w' ⟨ha, Q_B0⟩ hb_ hon hoff
              refine ⟨_, rfl, fun K hK => ?_⟩
              have e124 : a.tmps[124]? = some (undef) := by rw [ha]; exact putSel_on (e := (14, 124, undef)) 14 rfl rfl (hon 14 (by kernel_rfl)) rfl
              replace ha := Aside0.mk ha
              have B0 := Aside0.mk Q_B0
              refine off_ (wanted_und rfl rfl rfl e124) ?_
              refine hK.out _ _ ⟨(by rw [ha.out]; exact putSel_upk 24 hb_ rfl rfl rfl), Q_B0⟩
            refine steps_cons ?_ ?_
            · rintro b a w' ⟨ha, Q_B0⟩ hb_ hon hoff
              refine ⟨_, rfl, fun K hK => ?_⟩
              have e116 : a.tmps[116]? = some (.bool false) := by rw [ha]; exact putSel_on (e := (6, 116, .bool false)) 6 rfl rfl (hon 6 (by kernel_rfl)) rfl
              replace ha := Aside0.mk ha
              have B0 := Aside0.mk Q_B0
              refine off_ (wanted_off rfl rfl rfl (e116.trans (by first | rfl | (simp [*]; done)))) ?_
              refine hK.out _ _ ⟨(by rw [ha.out]; exact putSel_upk 25 hb_ rfl rfl rfl), Q_B0⟩
            refine steps_cons ?_ ?_
            · rintro b a w' ⟨ha, Q_B0⟩ hb_ hon hoff
              refine ⟨_, rfl, fun K hK => ?_⟩
              have e116 : a.tmps[116]? = some (.bool false) := by rw [ha]; exact putSel_on (e := (6, 116, .bool false)) 6 rfl rfl (hon 6 (by kernel_rfl)) rfl
              have e135 : a.tmps[135]? = some (undef) := by rw [ha]; exact putSel_on (e := (25, 135, undef)) 25 rfl rfl (hon 25 (by kernel_rfl)) rfl
              have e114 : a.tmps[114]? = some (.bool false) := by rw [ha]; exact putSel_on (e := (4, 114, .bool false)) 4 rfl rfl (hon 4 (by kernel_rfl)) rfl
              replace ha := Aside0.mk ha
              have B0 := Aside0.mk Q_B0
              refine value_ (w1 := w') (v := .bool false) (wanted_on rfl rfl rfl (e114.trans (by first | rfl | (simp [*]; done)))) rfl ?_ ?_
              · go_simp
                (try simp only [i64_w])
                try rfl
              refine hK.out _ _ ⟨(by rw [ha.out]; exact putSel_upk 26 hb_ rfl rfl rfl), Q_B0⟩
            refine steps_cons ?_ ?_
            · rintro b a w' ⟨ha, Q_B0⟩ hb_ hon hoff
              refine ⟨_, rfl, fun K hK => ?_⟩
              have e114 : a.tmps[114]? = some (.bool false) := by rw [ha]; exact putSel_on (e := (4, 114, .bool false)) 4 rfl rfl (hon 4 (by kernel_rfl)) rfl
              have e136 : a.tmps[136]? = some (.bool false) := by rw [ha]; exact putSel_on (e := (26, 136, .bool false)) 26 rfl rfl (hon 26 (by kernel_rfl)) rfl
              replace ha := Aside0.mk ha
              have B0 := Aside0.mk Q_B0
              refine value_ (w1 := w') (v := .bool false) (by rfl) rfl ?_ ?_
              · go_simp
                (try simp only [i64_w])
                try rfl
              refine hK.out _ _ ⟨(by rw [ha.out]; exact putSel_upk 27 hb_ rfl rfl rfl), Q_B0⟩
            refine steps_cons ?_ ?_
            · rintro b a w' ⟨ha, Q_B0⟩ hb_ hon hoff
              refine ⟨_, rfl, fun K hK => ?_⟩
              have e137 : a.tmps[137]? = some (.bool false) := by rw [ha]; exact putSel_on (e := (27, 137, .bool false)) 27 rfl rfl (hon 27 (by kernel_rfl)) rfl
              replace ha := Aside0.mk ha
              have B0 := Aside0.mk Q_B0
              refine value_ (w1 := w') (v := .bool false) (by rfl) rfl ?_ ?_
              · go_simp
                (try simp only [i64_w])
                try rfl
              refine hK.out _ _ ⟨(by rw [ha.out]; exact putSel_upk 28 hb_ rfl rfl rfl), Q_B0⟩
            refine steps_cons ?_ ?_
            · rintro b a w' ⟨ha, Q_B0⟩ hb_ hon hoff
              refine ⟨_, rfl, fun K hK => ?_⟩
              have e16 : a.tmps[16]? = some (.bool false) := by rw [ha]; exact (putSel_off rfl).trans rfl
              have e138 : a.tmps[138]? = some (.bool false) := by rw [ha]; exact putSel_on (e := (28, 138, .bool false)) 28 rfl rfl (hon 28 (by kernel_rfl)) rfl
              replace ha := Aside0.mk ha
              have B0 := Aside0.mk Q_B0
              refine value_ (w1 := w') (v := .bool false) (wanted_on rfl rfl rfl (e138.trans (by first | rfl | (simp [*]; done)))) rfl ?_ ?_
              · go_simp
                (try simp only [i64_w])
                try rfl
              refine hK.out _ _ ⟨(by rw [ha.out]; exact putSel_upk 29 hb_ rfl rfl rfl), Q_B0⟩
            refine steps_cons ?_ ?_
            · rintro b a w' ⟨ha, Q_B0⟩ hb_ hon hoff
              refine ⟨_, rfl, fun K hK => ?_⟩
              have e139 : a.tmps[139]? = some (.bool false) := by rw [ha]; exact putSel_on (e := (29, 139, .bool false)) 29 rfl rfl (hon 29 (by kernel_rfl)) rfl
              have e138 : a.tmps[138]? = some (.bool false) := by rw [ha]; exact putSel_on (e := (28, 138, .bool false)) 28 rfl rfl (hon 28 (by kernel_rfl)) rfl
              replace ha := Aside0.mk ha
              have B0 := Aside0.mk Q_B0
              refine value_ (w1 := w') (v := .bool true) (wanted_on rfl rfl rfl (e138.trans (by first | rfl | (simp [*]; done)))) rfl ?_ ?_
              · go_simp
                (try simp only [i64_w])
                try rfl
              refine hK.out _ _ ⟨(by rw [ha.out]; exact putSel_upk 30 hb_ rfl rfl rfl), Q_B0⟩
            refine steps_cons ?_ ?_
            · rintro b a w' ⟨ha, Q_B0⟩ hb_ hon hoff
              refine ⟨_, rfl, fun K hK => ?_⟩
              have e140 : a.tmps[140]? = some (.bool true) := by rw [ha]; exact putSel_on (e := (30, 140, .bool true)) 30 rfl rfl (hon 30 (by kernel_rfl)) rfl
              have e138 : a.tmps[138]? = some (.bool false) := by rw [ha]; exact putSel_on (e := (28, 138, .bool false)) 28 rfl rfl (hon 28 (by kernel_rfl)) rfl
              replace ha := Aside0.mk ha
              have B0 := Aside0.mk Q_B0
              refine value_ (w1 := w') (v := .bool true) (wanted_on rfl rfl rfl (e138.trans (by first | rfl | (simp [*]; done)))) rfl ?_ ?_
              · go_simp
                (try simp only [i64_w])
                try rfl
              refine hK.out _ _ ⟨(by rw [ha.out]; exact putSel_upk 31 hb_ rfl rfl rfl), Q_B0⟩
            refine steps_cons ?_ ?_
            · rintro b a w' ⟨ha, Q_B0⟩ hb_ hon hoff
              refine ⟨_, rfl, fun K hK => ?_⟩
              have e15 : a.tmps[15]? = some (.int .i64 0) := by rw [ha]; exact (putSel_off rfl).trans rfl
              have e141 : a.tmps[141]? = some (.bool true) := by rw [ha]; exact putSel_on (e := (31, 141, .bool true)) 31 rfl rfl (hon 31 (by kernel_rfl)) rfl
              replace ha := Aside0.mk ha
              have B0 := Aside0.mk Q_B0
              refine value_ (w1 := w') (v := .int .i64 0) (wanted_on rfl rfl rfl (e141.trans (by first | rfl | (simp [*]; done)))) rfl ?_ ?_
              · go_simp
                (try simp only [i64_w])
                try rfl
              refine hK.out _ _ ⟨(by rw [ha.out]; exact putSel_upk 32 hb_ rfl rfl rfl), Q_B0⟩
            refine steps_cons ?_ ?_
            · rintro b a w' ⟨ha, Q_B0⟩ hb_ hon hoff
              refine ⟨_, rfl, fun K hK => ?_⟩
              have e142 : a.tmps[142]? = some (.int .i64 0) := by rw [ha]; exact putSel_on (e := (32, 142, .int .i64 0)) 32 rfl rfl (hon 32 (by kernel_rfl)) rfl
              have e141 : a.tmps[141]? = some (.bool true) := by rw [ha]; exact putSel_on (e := (31, 141, .bool true)) 31 rfl rfl (hon 31 (by kernel_rfl)) rfl
              replace ha := Aside0.mk ha
              have B0 := Aside0.mk Q_B0
              refine value_ (w1 := w') (v := .bool false) (wanted_on rfl rfl rfl (e141.trans (by first | rfl | (simp [*]; done)))) rfl ?_ ?_
              · go_simp
                (try simp only [i64_w])
                try rfl
              refine hK.out _ _ ⟨(by rw [ha.out]; exact putSel_upk 33 hb_ rfl rfl rfl), Q_B0⟩
            refine steps_cons ?_ ?_
            · rintro b a w' ⟨ha, Q_B0⟩ hb_ hon hoff
              refine ⟨_, rfl, fun K hK => ?_⟩
              have e141 : a.tmps[141]? = some (.bool true) := by rw [ha]; exact putSel_on (e := (31, 141, .bool true)) 31 rfl rfl (hon 31 (by kernel_rfl)) rfl
              have e143 : a.tmps[143]? = some (.bool false) := by rw [ha]; exact putSel_on (e := (33, 143, .bool false)) 33 rfl rfl (hon 33 (by kernel_rfl)) rfl
              have e138 : a.tmps[138]? = some (.bool false) := by rw [ha]; exact putSel_on (e := (28, 138, .bool false)) 28 rfl rfl (hon 28 (by kernel_rfl)) rfl
              replace ha := Aside0.mk ha
              have B0 := Aside0.mk Q_B0
              refine value_ (w1 := w') (v := .bool false) (wanted_on rfl rfl rfl (e138.trans (by first | rfl | (simp [*]; done)))) rfl ?_ ?_
              · go_simp
                (try simp only [i64_w])
                try rfl
              refine hK.out _ _ ⟨(by rw [ha.out]; exact putSel_upk 34 hb_ rfl rfl rfl), Q_B0⟩
            refine steps_cons ?_ ?_
            · rintro b a w' ⟨ha, Q_B0⟩ hb_ hon hoff
              refine ⟨_, rfl, fun K hK => ?_⟩
              have e138 : a.tmps[138]? = some (.bool false) := by rw [ha]; exact putSel_on (e := (28, 138, .bool false)) 28 rfl rfl (hon 28 (by kernel_rfl)) rfl
              have e144 : a.tmps[144]? = some (.bool false) := by rw [ha]; exact putSel_on (e := (34, 144, .bool false)) 34 rfl rfl (hon 34 (by kernel_rfl)) rfl
              replace ha := Aside0.mk ha
              have B0 := Aside0.mk Q_B0
              refine value_ (w1 := w') (v := .bool false) (by rfl) rfl ?_ ?_
              · go_simp
                (try simp only [i64_w])
                try rfl
              refine hK.out _ _ ⟨(by rw [ha.out]; exact putSel_upk 35 hb_ rfl rfl rfl), Q_B0⟩
            exact steps_nil
          rintro b a w9 hall ⟨ha, Q_B0⟩
          clear B0
          have hb0_ := hall 0 (by kernel_rfl)
          have hb1_ := hall 1 (by kernel_rfl)
          have hb2_ := hall 2 (by kernel_rfl)
          have hb3_ := hall 3 (by kernel_rfl)
          have hb4_ := hall 4 (by kernel_rfl)
          have hb5_ := hall 5 (by kernel_rfl)
          have hb6_ := hall 6 (by kernel_rfl)
          have hb7_ := hall 7 (by kernel_rfl)
          have hb8_ := hall 8 (by kernel_rfl)
          have hb9_ := hall 9 (by kernel_rfl)
          have hb10_ := hall 10 (by kernel_rfl)
          have hb11_ := hall 11 (by kernel_rfl)
          have hb12_ := hall 12 (by kernel_rfl)
          have hb13_ := hall 13 (by kernel_rfl)
          have hb14_ := hall 14 (by kernel_rfl)
          have hb15_ := hall 15 (by kernel_rfl)
          have hb16_ := hall 16 (by kernel_rfl)
          have hb17_ := hall 17 (by kernel_rfl)
          have hb18_ := hall 18 (by kernel_rfl)
          have hb19_ := hall 19 (by kernel_rfl)
          have hb20_ := hall 20 (by kernel_rfl)
          have hb21_ := hall 21 (by kernel_rfl)
          have hb22_ := hall 22 (by kernel_rfl)
          have hb23_ := hall 23 (by kernel_rfl)
          have hb24_ := hall 24 (by kernel_rfl)
          have hb25_ := hall 25 (by kernel_rfl)
          have hb26_ := hall 26 (by kernel_rfl)
          have hb27_ := hall 27 (by kernel_rfl)
          have hb28_ := hall 28 (by kernel_rfl)
          have hb29_ := hall 29 (by kernel_rfl)
          have hb30_ := hall 30 (by kernel_rfl)
          have hb31_ := hall 31 (by kernel_rfl)
          have hb32_ := hall 32 (by kernel_rfl)
          have hb33_ := hall 33 (by kernel_rfl)
          have hb34_ := hall 34 (by kernel_rfl)
          have hb35_ := hall 35 (by kernel_rfl)
          subst ha
          simp only [putSel, hb0_, hb1_, hb2_, hb3_, hb4_, hb5_, hb6_, hb7_, hb8_, hb9_, hb10_, hb11_, hb12_, hb13_, hb14_, hb15_, hb16_, hb17_, hb18_, hb19_, hb20_, hb21_, hb22_, hb23_, hb24_, hb25_, hb26_, hb27_, hb28_, hb29_, hb30_, hb31_, hb32_, hb33_, hb34_, hb35_, if_true, Act.put, List.setIfInBounds_toArray, List.set_cons_zero, List.set_cons_succ]
          have B0 := Aside0.mk Q_B0
          clear Q_B0
          clear hall hb0_ hb1_ hb2_ hb3_ hb4_ hb5_ hb6_ hb7_ hb8_ hb9_ hb10_ hb11_ hb12_ hb13_ hb14_ hb15_ hb16_ hb17_ hb18_ hb19_ hb20_ hb21_ hb22_ hb23_ hb24_ hb25_ hb26_ hb27_ hb28_ hb29_ hb30_ hb31_ hb32_ hb33_ hb34_ hb35_
          have hb := B0.out
          have HX9 := Aside0.mk (HX8.out.below hb)
          have HW9 := Aside0.mk (HW8.out.below hb)
          have HB9 := Aside0.mk (below_then HB8.out HB8.out.size hb)
          have HP99 := Aside0.mk (And.intro HP98.out.1 (Kd.C_below HP98.out.2 hb))
          clear hb
          clear B0
          go_wp2_with (first
          | (go_at_call 6; refine (awake27_calls _).mono ?_; rintro e w10 ⟨rfl, hb⟩; have HX10 := Aside0.mk (HX9.out.below hb); have HW10 := Aside0.mk (HW9.out.below hb); have HB10 := Aside0.mk (below_then HB9.out HB9.out.size hb); have HP910 := Aside0.mk (And.intro HP99.out.1 (Kd.C_below HP99.out.2 hb)); clear hb)
          | (go_at_call 13; refine (HPG.out _ HX10.out).mono ?_; rintro e w11 ⟨v, rfl, hR, hb⟩; obtain ⟨A11, c11, rfl, hl11, hC11⟩ := Kd.R_reads hR; have HC11 := Aside0.mk (And.intro hC11 hl11); clear hR hC11 hl11; have HX11 := Aside0.mk (HX10.out.below hb); have HW11 := Aside0.mk (HW10.out.below hb); have HB11 := Aside0.mk (below_then HB10.out HB10.out.size hb); have HP911 := Aside0.mk (And.intro HP910.out.1 (Kd.C_below HP910.out.2 hb)); clear hb)
          | (go_at_call 12; refine (isame_calls pg HPL2.out A11 c11 A9 c9 _ HC11.out.2 HC11.out.1 HP911.out.1 HP911.out.2).mono ?_; rintro e w12 ⟨rfl, hb⟩; have HB12 := Aside0.mk (below_then HB11.out HB11.out.size hb); clear hb)
          | (go_at_call 14; refine (frames_calls size _).mono ?_; rintro e w13 ⟨rfl, hb⟩; have HB13 := Aside0.mk (below_then HB12.out HB12.out.size hb); clear hb)
          | (go_at_call 9; refine (rframes_calls size HL.out.2 _).mono ?_; rintro e w14 ⟨rfl, hb⟩; have HB14 := Aside0.mk (below_then HB13.out HB13.out.size hb); clear hb))
          go_ret
          exact ⟨rfl, HB14.out⟩
        · subst hv
          obtain ⟨kv, hkv⟩ : ∃ kv, kv = IntKind.i64.wrap (IntKind.u64.wrap (n - x.f1)) := ⟨_, rfl⟩
          have hfr := frame_yes HX6.out (by have := HCN.out; omega) HPM.out n x r hf
          unfold FrameTo at hfr
          rw [← hkv] at hfr
          have HFR := Aside0.mk hfr
          have HKV := Aside0.mk hkv.symm
          have HXL : Aside0 (x.f7.length ≤ 1000 ∧ q < cur.length) := ⟨HPM.out x (List.mem_of_getElem? hx), (List.getElem?_eq_some_iff.1 hx).1⟩
          have HXQ := Aside0.mk hx
          clear hf HA hfr hkv hx
          go_upto_region 24 with (go_at_call 10; refine HFR.out.mono ?_; rintro e w7 ⟨A7, c7, rfl, hC7, hl7, hb⟩; have HR7 := Aside0.mk (And.intro hC7 hl7); clear hC7 hl7; have HX7 := Aside0.mk (HX6.out.below hb); have HW7 := Aside0.mk (HW6.out.below hb); have HB7 := Aside0.mk (below_then HB6.out HB6.out.size hb); have HP97 := Aside0.mk (And.intro HP9.out.1 (Kd.C_below HP9.out.2 hb)); clear hb)
          have hz14 := heap_alloc_new w7 (.cells #[.int .u64 x.f0, .int .u64 x.f1, .int .i64 x.f2, .int .i64 x.f3, .int .u64 x.f4, .bool x.f5, .int .i64 x.f6, .slice A7 x.f7.length c7] 29)
          have hb := below_alloc (Below.refl w7.heap.size w7) (.cells #[.int .u64 x.f0, .int .u64 x.f1, .int .i64 x.f2, .int .i64 x.f3, .int .u64 x.f4, .bool x.f5, .int .i64 x.f6, .slice A7 x.f7.length c7] 29)
          obtain ⟨g14, hg14⟩ : ∃ g, g = w7.heap.size := ⟨_, rfl⟩
          generalize w7.alloc (.cells #[.int .u64 x.f0, .int .u64 x.f1, .int .i64 x.f2, .int .i64 x.f3, .int .u64 x.f4, .bool x.f5, .int .i64 x.f6, .slice A7 x.f7.length c7] 29) = W8 at hz14 hb ⊢
          rw [← hg14] at hz14 ⊢
          have HR8 := Aside0.mk (Kd.C_below HR7.out.1 hb)
          have HZ14 := Aside0.mk hz14
          clear hg14 hz14
          have HX8 := Aside0.mk (HX7.out.below hb)
          have HW8 := Aside0.mk (HW7.out.below hb)
          have HB8 := Aside0.mk (below_then HB7.out HB7.out.size hb)
          have HP98 := Aside0.mk (And.intro HP97.out.1 (Kd.C_below HP97.out.2 hb))
          clear hb
          obtain ⟨ad, Ap, cpp, hAw, x0, x1, x2, x3, x4, x5, x6, x7, hlp, hCp⟩ := C_at HW8.out.now HXQ.out
          subst hAw
          have HXC := Aside0.mk (And.intro x0 (And.intro x1 (And.intro x2 (And.intro x3 (And.intro x4 (And.intro x5 (And.intro x6 x7)))))))
          have HXA := Aside0.mk (And.intro hCp hlp)
          have p1 := eq_true (show (0 : Int) ≤ (q : Int) by omega)
          have q1 := eq_true (show (q : Int) < (cur.length : Int) by have := HXL.out; omega)
          have B0 := Aside0.mk (below_drew1 (Below.refl W8.heap.size W8))
          clear HFR x0 x1 x2 x3 x4 x5 x6 x7 hlp hCp
          refine start_ (n := 36) (S := fun w' => True) (ds := []) #[false, false, false, false, false, false, false, false, false, false, false, false, false, false, false, false, false, false, false, false, false, false, false, false, false, false, false, false, false, false, false, false, false, false, false, false] (by kernel_rfl) rfl rfl trivial (fun hHeld => ?_)
          refine with_tabW ifr24y.tab24 ifr24y.bits24 (fun HT_ HW_ => ?_)
          generalize W8.drew = wq at B0 hHeld ⊢
          refine inv_at [0, 1, 2, 3, 4, 5, 6, 7, 8, 9, 10, 11, 12, 13, 14, 15, 16, 17, 18, 19, 20, 21, 22, 23, 24, 25, 26, 27, 28, 29, 30, 31, 32, 33, 34, 35] (fun a0_ b a w' => a = putSel a0_ b [(0, 110, .bool true), (1, 111, .int .i64 (q : Int)), (2, 112, .bool true), (3, 113, .bool false), (4, 114, .bool false), (5, 115, .bool true), (6, 116, .bool true), (7, 117, .agg #[.int .u64 x.f0, .int .u64 x.f1, .int .i64 x.f2, .int .i64 x.f3, .int .u64 x.f4, .bool x.f5, .int .i64 x.f6, .slice A7 x.f7.length c7]), (8, 118, .slice (some ad) cur.length cw), (9, 119, .int .i64 (q : Int)), (10, 120, .pointer (some (ad.add (q * 8)))), (11, 121, .agg #[.int .u64 x.f0, .int .u64 x.f1, .int .i64 x.f2, .int .i64 x.f3, .int .u64 x.f4, .bool x.f5, .int .i64 x.f6, .slice Ap x.f7.length cpp]), (12, 122, .bool true), (13, 123, .bool false), (14, 124, .bool false), (15, 125, .int .i64 kv), (16, 126, .int .u64 n), (17, 127, .slice (some ad) cur.length cw), (18, 128, .int .i64 (q : Int)), (19, 129, .pointer (some (ad.add (q * 8)))), (20, 130, .pointer (some ⟨(ad.add (q * 8)).block, (ad.add (q * 8)).off + 1, none⟩)), (21, 131, .int .u64 x.f1), (22, 132, .int .u64 (IntKind.u64.wrap (n - x.f1))), (23, 133, .int .i64 kv), (24, 134, .bool false), (25, 135, .bool false), (26, 136, .bool false), (27, 137, .bool false), (28, 138, .bool false), (29, 139, .bool true), (30, 140, .bool false), (31, 141, .bool false), (32, 142, undef), (33, 143, undef), (34, 144, .bool false), (35, 145, .bool false)] ∧ (Below W8.heap.size W8 w')) HT_.out HW_.out (by kernel_rfl) (by kernel_rfl) ?_ ?_ ?_
          · exact ⟨by simp only [putSel, Bool.false_eq_true, if_false], B0.out⟩
          · skip
            clear B0
            refine steps_cons ?_ ?_
            · rintro b a w' ⟨ha, Q_B0⟩ hb_ hon hoff
              refine ⟨_, rfl, fun K hK => ?_⟩
              have e16 : a.tmps[16]? = some (.bool true) := by rw [ha]; exact (putSel_off rfl).trans rfl
              replace ha := Aside0.mk ha
              have B0 := Aside0.mk Q_B0
              refine value_ (w1 := w') (v := .bool true) (by rfl) rfl ?_ ?_
              · go_simp
                (try simp only [i64_w])
                try rfl
              refine hK.out _ _ ⟨(by rw [ha.out]; exact putSel_upk 0 hb_ rfl rfl rfl), Q_B0⟩
            refine steps_cons ?_ ?_
            · rintro b a w' ⟨ha, Q_B0⟩ hb_ hon hoff
              refine ⟨_, rfl, fun K hK => ?_⟩
              have e11 : a.tmps[11]? = some (.int .i64 (q : Int)) := by rw [ha]; exact (putSel_off rfl).trans rfl
              replace ha := Aside0.mk ha
              have B0 := Aside0.mk Q_B0
              refine value_ (w1 := w') (v := .int .i64 (q : Int)) (by rfl) rfl ?_ ?_
              · go_simp
                (try simp only [i64_w])
                try rfl
              refine hK.out _ _ ⟨(by rw [ha.out]; exact putSel_upk 1 hb_ rfl rfl rfl), Q_B0⟩
            refine steps_cons ?_ ?_
            · rintro b a w' ⟨ha, Q_B0⟩ hb_ hon hoff
              refine ⟨_, rfl, fun K hK => ?_⟩
              have e111 : a.tmps[111]? = some (.int .i64 (q : Int)) := by rw [ha]; exact putSel_on (e := (1, 111, .int .i64 (q : Int))) 1 rfl rfl (hon 1 (by kernel_rfl)) rfl
              replace ha := Aside0.mk ha
              have B0 := Aside0.mk Q_B0
              refine value_ (w1 := w') (v := .bool true) (by rfl) rfl ?_ ?_
              · go_simp
                (try simp only [i64_w])
                try rfl
              refine hK.out _ _ ⟨(by rw [ha.out]; exact putSel_upk 2 hb_ rfl rfl rfl), Q_B0⟩
            refine steps_cons ?_ ?_
            · rintro b a w' ⟨ha, Q_B0⟩ hb_ hon hoff
              refine ⟨_, rfl, fun K hK => ?_⟩
              have e110 : a.tmps[110]? = some (.bool true) := by rw [ha]; exact putSel_on (e := (0, 110, .bool true)) 0 rfl rfl (hon 0 (by kernel_rfl)) rfl
              have e112 : a.tmps[112]? = some (.bool true) := by rw [ha]; exact putSel_on (e := (2, 112, .bool true)) 2 rfl rfl (hon 2 (by kernel_rfl)) rfl
              replace ha := Aside0.mk ha
              have B0 := Aside0.mk Q_B0
              refine value_ (w1 := w') (v := .bool false) (by rfl) rfl ?_ ?_
              · go_simp
                (try simp only [i64_w])
                try rfl
              refine hK.out _ _ ⟨(by rw [ha.out]; exact putSel_upk 3 hb_ rfl rfl rfl), Q_B0⟩
            refine steps_cons ?_ ?_
            · rintro b a w' ⟨ha, Q_B0⟩ hb_ hon hoff
              refine ⟨_, rfl, fun K hK => ?_⟩
              have e113 : a.tmps[113]? = some (.bool false) := by rw [ha]; exact putSel_on (e := (3, 113, .bool false)) 3 rfl rfl (hon 3 (by kernel_rfl)) rfl
              replace ha := Aside0.mk ha
              have B0 := Aside0.mk Q_B0
              refine value_ (w1 := w') (v := .bool false) (by rfl) rfl ?_ ?_
              · go_simp
                (try simp only [i64_w])
                try rfl
              refine hK.out _ _ ⟨(by rw [ha.out]; exact putSel_upk 4 hb_ rfl rfl rfl), Q_B0⟩
            refine steps_cons ?_ ?_
            · rintro b a w' ⟨ha, Q_B0⟩ hb_ hon hoff
              refine ⟨_, rfl, fun K hK => ?_⟩
              have e16 : a.tmps[16]? = some (.bool true) := by rw [ha]; exact (putSel_off rfl).trans rfl
              have e114 : a.tmps[114]? = some (.bool false) := by rw [ha]; exact putSel_on (e := (4, 114, .bool false)) 4 rfl rfl (hon 4 (by kernel_rfl)) rfl
              replace ha := Aside0.mk ha
              have B0 := Aside0.mk Q_B0
              refine value_ (w1 := w') (v := .bool true) (wanted_on rfl rfl rfl (e114.trans (by first | rfl | (simp [*]; done)))) rfl ?_ ?_
              · go_simp
                (try simp only [i64_w])
                try rfl
              refine hK.out _ _ ⟨(by rw [ha.out]; exact putSel_upk 5 hb_ rfl rfl rfl), Q_B0⟩
            refine steps_cons ?_ ?_
            · rintro b a w' ⟨ha, Q_B0⟩ hb_ hon hoff
              refine ⟨_, rfl, fun K hK => ?_⟩
              have e115 : a.tmps[115]? = some (.bool true) := by rw [ha]; exact putSel_on (e := (5, 115, .bool true)) 5 rfl rfl (hon 5 (by kernel_rfl)) rfl
              have e114 : a.tmps[114]? = some (.bool false) := by rw [ha]; exact putSel_on (e := (4, 114, .bool false)) 4 rfl rfl (hon 4 (by kernel_rfl)) rfl
              replace ha := Aside0.mk ha
              have B0 := Aside0.mk Q_B0
              refine value_ (w1 := w') (v := .bool true) (wanted_on rfl rfl rfl (e114.trans (by first | rfl | (simp [*]; done)))) rfl ?_ ?_
              · go_simp
                (try simp only [i64_w])
                try rfl
              refine hK.out _ _ ⟨(by rw [ha.out]; exact putSel_upk 6 hb_ rfl rfl rfl), Q_B0⟩
            refine steps_cons ?_ ?_
            · rintro b a w' ⟨ha, Q_B0⟩ hb_ hon hoff
              refine ⟨_, rfl, fun K hK => ?_⟩
              have e14 : a.tmps[14]? = some (.pointer (some ⟨g14, 0, none⟩)) := by rw [ha]; exact (putSel_off rfl).trans rfl
              have e116 : a.tmps[116]? = some (.bool true) := by rw [ha]; exact putSel_on (e := (6, 116, .bool true)) 6 rfl rfl (hon 6 (by kernel_rfl)) rfl
              replace ha := Aside0.mk ha
              have B0 := Aside0.mk Q_B0
              have c0_ := blk_cell (blk_below HZ14.out B0.out) 0
              have c1_ := blk_cell (blk_below HZ14.out B0.out) 1
              have c2_ := blk_cell (blk_below HZ14.out B0.out) 2
              have c3_ := blk_cell (blk_below HZ14.out B0.out) 3
              have c4_ := blk_cell (blk_below HZ14.out B0.out) 4
              have c5_ := blk_cell (blk_below HZ14.out B0.out) 5
              have c6_ := blk_cell (blk_below HZ14.out B0.out) 6
              have c7_ := blk_cell (blk_below HZ14.out B0.out) 7
              refine value_ (w1 := w') (v := .agg #[.int .u64 x.f0, .int .u64 x.f1, .int .i64 x.f2, .int .i64 x.f3, .int .u64 x.f4, .bool x.f5, .int .i64 x.f6, .slice A7 x.f7.length c7]) (wanted_on rfl rfl rfl (e116.trans (by first | rfl | (simp [*]; done)))) rfl ?_ ?_
              · go_simp
                (try simp only [i64_w])
                try rfl
              refine hK.out _ _ ⟨(by rw [ha.out]; exact putSel_upk 7 hb_ rfl rfl rfl), Q_B0⟩
            refine steps_cons ?_ ?_
            · rintro b a w' ⟨ha, Q_B0⟩ hb_ hon hoff
              refine ⟨_, rfl, fun K hK => ?_⟩
              have e8 : a.tmps[8]? = some (.slice (some ad) cur.length cw) := by rw [ha]; exact (putSel_off rfl).trans rfl
              have e116 : a.tmps[116]? = some (.bool true) := by rw [ha]; exact putSel_on (e := (6, 116, .bool true)) 6 rfl rfl (hon 6 (by kernel_rfl)) rfl
              replace ha := Aside0.mk ha
              have B0 := Aside0.mk Q_B0
              refine value_ (w1 := w') (v := .slice (some ad) cur.length cw) (wanted_on rfl rfl rfl (e116.trans (by first | rfl | (simp [*]; done)))) rfl ?_ ?_
              · go_simp
                (try simp only [i64_w])
                try rfl
              refine hK.out _ _ ⟨(by rw [ha.out]; exact putSel_upk 8 hb_ rfl rfl rfl), Q_B0⟩
            refine steps_cons ?_ ?_
            · rintro b a w' ⟨ha, Q_B0⟩ hb_ hon hoff
              refine ⟨_, rfl, fun K hK => ?_⟩
              have e11 : a.tmps[11]? = some (.int .i64 (q : Int)) := by rw [ha]; exact (putSel_off rfl).trans rfl
              have e116 : a.tmps[116]? = some (.bool true) := by rw [ha]; exact putSel_on (e := (6, 116, .bool true)) 6 rfl rfl (hon 6 (by kernel_rfl)) rfl
              replace ha := Aside0.mk ha
              have B0 := Aside0.mk Q_B0
              refine value_ (w1 := w') (v := .int .i64 (q : Int)) (wanted_on rfl rfl rfl (e116.trans (by first | rfl | (simp [*]; done)))) rfl ?_ ?_
              · go_simp
                (try simp only [i64_w])
                try rfl
              refine hK.out _ _ ⟨(by rw [ha.out]; exact putSel_upk 9 hb_ rfl rfl rfl), Q_B0⟩
            refine steps_cons ?_ ?_
            · rintro b a w' ⟨ha, Q_B0⟩ hb_ hon hoff
              refine ⟨_, rfl, fun K hK => ?_⟩
              have e118 : a.tmps[118]? = some (.slice (some ad) cur.length cw) := by rw [ha]; exact putSel_on (e := (8, 118, .slice (some ad) cur.length cw)) 8 rfl rfl (hon 8 (by kernel_rfl)) rfl
              have e119 : a.tmps[119]? = some (.int .i64 (q : Int)) := by rw [ha]; exact putSel_on (e := (9, 119, .int .i64 (q : Int))) 9 rfl rfl (hon 9 (by kernel_rfl)) rfl
              have e116 : a.tmps[116]? = some (.bool true) := by rw [ha]; exact putSel_on (e := (6, 116, .bool true)) 6 rfl rfl (hon 6 (by kernel_rfl)) rfl
              replace ha := Aside0.mk ha
              have B0 := Aside0.mk Q_B0
              refine value_ (w1 := w') (v := .pointer (some (ad.add (q * 8)))) (wanted_on rfl rfl rfl (e116.trans (by first | rfl | (simp [*]; done)))) rfl ?_ ?_
              · go_simp
                (try simp only [i64_w])
                try rfl
              refine hK.out _ _ ⟨(by rw [ha.out]; exact putSel_upk 10 hb_ rfl rfl rfl), Q_B0⟩
            refine steps_cons ?_ ?_
            · rintro b a w' ⟨ha, Q_B0⟩ hb_ hon hoff
              refine ⟨_, rfl, fun K hK => ?_⟩
              have e120 : a.tmps[120]? = some (.pointer (some (ad.add (q * 8)))) := by rw [ha]; exact putSel_on (e := (10, 120, .pointer (some (ad.add (q * 8))))) 10 rfl rfl (hon 10 (by kernel_rfl)) rfl
              have e116 : a.tmps[116]? = some (.bool true) := by rw [ha]; exact putSel_on (e := (6, 116, .bool true)) 6 rfl rfl (hon 6 (by kernel_rfl)) rfl
              replace ha := Aside0.mk ha
              have B0 := Aside0.mk Q_B0
              have x0_ := pw_cell_below B0.out HXC.out.1
              have x1_ := pw_cell_below B0.out HXC.out.2.1
              have x2_ := pw_cell_below B0.out HXC.out.2.2.1
              have x3_ := pw_cell_below B0.out HXC.out.2.2.2.1
              have x4_ := pw_cell_below B0.out HXC.out.2.2.2.2.1
              have x5_ := pw_cell_below B0.out HXC.out.2.2.2.2.2.1
              have x6_ := pw_cell_below B0.out HXC.out.2.2.2.2.2.2.1
              have x7_ := pw_cell_below B0.out HXC.out.2.2.2.2.2.2.2
              refine value_ (w1 := w') (v := .agg #[.int .u64 x.f0, .int .u64 x.f1, .int .i64 x.f2, .int .i64 x.f3, .int .u64 x.f4, .bool x.f5, .int .i64 x.f6, .slice Ap x.f7.length cpp]) (wanted_on rfl rfl rfl (e116.trans (by first | rfl | (simp [*]; done)))) rfl ?_ ?_
              · go_simp
                (try simp only [i64_w])
                try rfl
              refine hK.out _ _ ⟨(by rw [ha.out]; exact putSel_upk 11 hb_ rfl rfl rfl), Q_B0⟩
            refine steps_cons ?_ ?_
            · rintro b a w' ⟨ha, Q_B0⟩ hb_ hon hoff
              refine ⟨_, rfl, fun K hK => ?_⟩
              have e117 : a.tmps[117]? = some (.agg #[.int .u64 x.f0, .int .u64 x.f1, .int .i64 x.f2, .int .i64 x.f3, .int .u64 x.f4, .bool x.f5, .int .i64 x.f6, .slice A7 x.f7.length c7]) := by rw [ha]; exact putSel_on (e := (7, 117, .agg #[.int .u64 x.f0, .int .u64 x.f1, .int .i64 x.f2, .int .i64 x.f3, .int .u64 x.f4, .bool x.f5, .int .i64 x.f6, .slice A7 x.f7.length c7])) 7 rfl rfl (hon 7 (by kernel_rfl)) rfl
              have e121 : a.tmps[121]? = some (.agg #[.int .u64 x.f0, .int .u64 x.f1, .int .i64 x.f2, .int .i64 x.f3, .int .u64 x.f4, .bool x.f5, .int .i64 x.f6, .slice Ap x.f7.length cpp]) := by rw [ha]; exact putSel_on (e := (11, 121, .agg #[.int .u64 x.f0, .int .u64 x.f1, .int .i64 x.f2, .int .i64 x.f3, .int .u64 x.f4, .bool x.f5, .int .i64 x.f6, .slice Ap x.f7.length cpp])) 11 rfl rfl (hon 11 (by kernel_rfl)) rfl
              have e116 : a.tmps[116]? = some (.bool true) := by rw [ha]; exact putSel_on (e := (6, 116, .bool true)) 6 rfl rfl (hon 6 (by kernel_rfl)) rfl
              replace ha := Aside0.mk ha
              have B0 := Aside0.mk Q_B0
              refine goes_ Try.func11 (by kernel_rfl) rfl #[.agg #[.int .u64 x.f0, .int .u64 x.f1, .int .i64 x.f2, .int .i64 x.f3, .int .u64 x.f4, .bool x.f5, .int .i64 x.f6, .slice A7 x.f7.length c7], .agg #[.int .u64 x.f0, .int .u64 x.f1, .int .i64 x.f2, .int .i64 x.f3, .int .u64 x.f4, .bool x.f5, .int .i64 x.f6, .slice Ap x.f7.length cpp]] (wanted_on rfl rfl rfl (e116.trans rfl)) rfl rfl (by first | (simp only [List.map_toArray, List.map_cons, List.map_nil, Act.eval, Array.getD_eq_getD_getElem?, Option.getD_some, e117, e121, e116]; done) | (simp only [List.map_toArray, List.map_cons, List.map_nil, Act.eval, Array.getD_eq_getD_getElem?, Option.getD_some, e117, e121, e116]; rfl)) ?_
              with_reducible refine (osame_calls x (by have := HXL.out; omega) A7 c7 Ap cpp w' (Kd.C_below HR8.out B0.out) HR7.out.2 (Kd.C_below HXA.out.1 B0.out) HXA.out.2).mono ?_
              rintro e w2 ⟨rfl, hb⟩
              refine ⟨_, rfl, ?_⟩
              refine hK.out _ _ ⟨(by rw [ha.out]; exact putSel_upk 12 hb_ rfl rfl rfl), below_then B0.out B0.out.size hb⟩
            refine steps_cons ?_ ?_
            · rintro b a w' ⟨ha, Q_B0⟩ hb_ hon hoff
              refine ⟨_, rfl, fun K hK => ?_⟩
              have e122 : a.tmps[122]? = some (.bool true) := by rw [ha]; exact putSel_on (e := (12, 122, .bool true)) 12 rfl rfl (hon 12 (by kernel_rfl)) rfl
              have e116 : a.tmps[116]? = some (.bool true) := by rw [ha]; exact putSel_on (e := (6, 116, .bool true)) 6 rfl rfl (hon 6 (by kernel_rfl)) rfl
              replace ha := Aside0.mk ha
              have B0 := Aside0.mk Q_B0
              refine value_ (w1 := w') (v := .bool false) (wanted_on rfl rfl rfl (e116.trans (by first | rfl | (simp [*]; done)))) rfl ?_ ?_
              · go_simp
                (try simp only [i64_w])
                try rfl
              refine hK.out _ _ ⟨(by rw [ha.out]; exact putSel_upk 13 hb_ rfl rfl rfl), Q_B0⟩
            refine steps_cons ?_ ?_
            · rintro b a w' ⟨ha, Q_B0⟩ hb_ hon hoff
              refine ⟨_, rfl, fun K hK => ?_⟩
              have e123 : a.tmps[123]? = some (.bool false) := by rw [ha]; exact putSel_on (e := (13, 123, .bool false)) 13 rfl rfl (hon 13 (by kernel_rfl)) rfl
              have e116 : a.tmps[116]? = some (.bool true) := by rw [ha]; exact putSel_on (e := (6, 116, .bool true)) 6 rfl rfl (hon 6 (by kernel_rfl)) rfl
              replace ha := Aside0.mk ha
              have B0 := Aside0.mk Q_B0
              refine value_ (w1 := w') (v := .bool false) (wanted_on rfl rfl rfl (e116.trans (by first | rfl | (simp [*]; done)))) rfl ?_ ?_
              · go_simp
                (try simp only [i64_w])
                try rfl
              refine hK.out _ _ ⟨(by rw [ha.out]; exact putSel_upk 14 hb_ rfl rfl rfl), Q_B0⟩
            refine steps_cons ?_ ?_
            · rintro b a w' ⟨ha, Q_B0⟩ hb_ hon hoff
              refine ⟨_, rfl, fun K hK => ?_⟩
              have e15 : a.tmps[15]? = some (.int .i64 kv) := by rw [ha]; exact (putSel_off rfl).trans rfl
              have e124 : a.tmps[124]? = some (.bool false) := by rw [ha]; exact putSel_on (e := (14, 124, .bool false)) 14 rfl rfl (hon 14 (by kernel_rfl)) rfl
              replace ha := Aside0.mk ha
              have B0 := Aside0.mk Q_B0
              refine value_ (w1 := w') (v := .int .i64 kv) (wanted_on rfl rfl rfl (e124.trans (by first | rfl | (simp [*]; done)))) rfl ?_ ?_
              · go_simp
                (try simp only [i64_w])
                try rfl
              refine hK.out _ _ ⟨(by rw [ha.out]; exact putSel_upk 15 hb_ rfl rfl rfl), Q_B0⟩
            refine steps_cons ?_ ?_
            · rintro b a w' ⟨ha, Q_B0⟩ hb_ hon hoff
              refine ⟨_, rfl, fun K hK => ?_⟩
              have e1 : a.tmps[1]? = some (.int .u64 n) := by rw [ha]; exact (putSel_off rfl).trans rfl
              have e124 : a.tmps[124]? = some (.bool false) := by rw [ha]; exact putSel_on (e := (14, 124, .bool false)) 14 rfl rfl (hon 14 (by kernel_rfl)) rfl
              replace ha := Aside0.mk ha
              have B0 := Aside0.mk Q_B0
              refine value_ (w1 := w') (v := .int .u64 n) (wanted_on rfl rfl rfl (e124.trans (by first | rfl | (simp [*]; done)))) rfl ?_ ?_
              · go_simp
                (try simp only [i64_w])
                try rfl
              refine hK.out _ _ ⟨(by rw [ha.out]; exact putSel_upk 16 hb_ rfl rfl rfl), Q_B0⟩
            refine steps_cons ?_ ?_
            · rintro b a w' ⟨ha, Q_B0⟩ hb_ hon hoff
              refine ⟨_, rfl, fun K hK => ?_⟩
              have e8 : a.tmps[8]? = some (.slice (some ad) cur.length cw) := by rw [ha]; exact (putSel_off rfl).trans rfl
              have e124 : a.tmps[124]? = some (.bool false) := by rw [ha]; exact putSel_on (e := (14, 124, .bool false)) 14 rfl rfl (hon 14 (by kernel_rfl)) rfl
              replace ha := Aside0.mk ha
              have B0 := Aside0.mk Q_B0
              refine value_ (w1 := w') (v := .slice (some ad) cur.length cw) (wanted_on rfl rfl rfl (e124.trans (by first | rfl | (simp [*]; done)))) rfl ?_ ?_
              · go_simp
                (try simp only [i64_w])
                try rfl
              refine hK.out _ _ ⟨(by rw [ha.out]; exact putSel_upk 17 hb_ rfl rfl rfl), Q_B0⟩
            refine steps_cons ?_ ?_
            · rintro b a w' ⟨ha, Q_B0⟩ hb_ hon hoff
              refine ⟨_, rfl, fun K hK => ?_⟩
              have e11 : a.tmps[11]? = some (.int .i64 (q : Int)) := by rw [ha]; exact (putSel_off rfl).trans rfl
              have e124 : a.tmps[124]? = some (.bool false) := by rw [ha]; exact putSel_on (e := (14, 124, .bool false)) 14 rfl rfl (hon 14 (by kernel_rfl)) rfl
              replace ha := Aside0.mk ha
              have B0 := Aside0.mk Q_B0
              refine value_ (w1 := w') (v := .int .i64 (q : Int)) (wanted_on rfl rfl rfl (e124.trans (by first | rfl | (simp [*]; done)))) rfl ?_ ?_
              · go_simp
                (try simp only [i64_w])
                try rfl
              refine hK.out _ _ ⟨(by rw [ha.out]; exact putSel_upk 18 hb_ rfl rfl rfl), Q_B0⟩
            refine steps_cons ?_ ?_
            · rintro b a w' ⟨ha, Q_B0⟩ hb_ hon hoff
              refine ⟨_, rfl, fun K hK => ?_⟩
              have e127 : a.tmps[127]? = some (.slice (some ad) cur.length cw) := by rw [ha]; exact putSel_on (e := (17, 127, .slice (some ad) cur.length cw)) 17 rfl rfl (hon 17 (by kernel_rfl)) rfl
              have e128 : a.tmps[128]? = some (.int .i64 (q : Int)) := by rw [ha]; exact putSel_on (e := (18, 128, .int .i64 (q : Int))) 18 rfl rfl (hon 18 (by kernel_rfl)) rfl
              have e124 : a.tmps[124]? = some (.bool false) := by rw [ha]; exact putSel_on (e := (14, 124, .bool false)) 14 rfl rfl (hon 14 (by kernel_rfl)) rfl
              replace ha := Aside0.mk ha
              have B0 := Aside0.mk Q_B0
              refine value_ (w1 := w') (v := .pointer (some (ad.add (q * 8)))) (wanted_on rfl rfl rfl (e124.trans (by first | rfl | (simp [*]; done)))) rfl ?_ ?_
              · go_simp
                (try simp only [i64_w])
                try rfl
              refine hK.out _ _ ⟨(by rw [ha.out]; exact putSel_upk 19 hb_ rfl rfl rfl), Q_B0⟩
            refine steps_cons ?_ ?_
            · rintro b a w' ⟨ha, Q_B0⟩ hb_ hon hoff
              refine ⟨_, rfl, fun K hK => ?_⟩
              have e129 : a.tmps[129]? = some (.pointer (some (ad.add (q * 8)))) := by rw [ha]; exact putSel_on (e := (19, 129, .pointer (some (ad.add (q * 8))))) 19 rfl rfl (hon 19 (by kernel_rfl)) rfl
              have e124 : a.tmps[124]? = some (.bool false) := by rw [ha]; exact putSel_on (e := (14, 124, .bool false)) 14 rfl rfl (hon 14 (by kernel_rfl)) rfl
              replace ha := Aside0.mk ha
              have B0 := Aside0.mk Q_B0
              refine value_ (w1 := w') (v := .pointer (some ⟨(ad.add (q * 8)).block, (ad.add (q * 8)).off + 1, none⟩)) (wanted_on rfl rfl rfl (e124.trans (by first | rfl | (simp [*]; done)))) rfl ?_ ?_
              · go_simp
                (try simp only [i64_w])
                try rfl
              refine hK.out _ _ ⟨(by rw [ha.out]; exact putSel_upk 20 hb_ rfl rfl rfl), Q_B0⟩
            refine steps_cons ?_ ?_
            · rintro b a w' ⟨ha, Q_B0⟩ hb_ hon hoff
              refine ⟨_, rfl, fun K hK => ?_⟩
              have e130 : a.tmps[130]? = some (.pointer (some ⟨(ad.add (q * 8)).block, (ad.add (q * 8)).off + 1, none⟩)) := by rw [ha]; exact putSel_on (e := (20, 130, .pointer (some ⟨(ad.add (q * 8)).block, (ad.add (q * 8)).off + 1, none⟩))) 20 rfl rfl (hon 20 (by kernel_rfl)) rfl
              have e124 : a.tmps[124]? = some (.bool false) := by rw [ha]; exact putSel_on (e := (14, 124, .bool false)) 14 rfl rfl (hon 14 (by kernel_rfl)) rfl
              replace ha := Aside0.mk ha
              have B0 := Aside0.mk Q_B0
              have x1_ := pw_cell_below B0.out HXC.out.2.1
              refine value_ (w1 := w') (v := .int .u64 x.f1) (wanted_on rfl rfl rfl (e124.trans (by first | rfl | (simp [*]; done)))) rfl ?_ ?_
              · go_simp
                (try simp only [i64_w])
                try rfl
              refine hK.out _ _ ⟨(by rw [ha.out]; exact putSel_upk 21 hb_ rfl rfl rfl), Q_B0⟩
            refine steps_cons ?_ ?_
            · rintro b a w' ⟨ha, Q_B0⟩ hb_ hon hoff
              refine ⟨_, rfl, fun K hK => ?_⟩
              have e126 : a.tmps[126]? = some (.int .u64 n) := by rw [ha]; exact putSel_on (e := (16, 126, .int .u64 n)) 16 rfl rfl (hon 16 (by kernel_rfl)) rfl
              have e131 : a.tmps[131]? = some (.int .u64 x.f1) := by rw [ha]; exact putSel_on (e := (21, 131, .int .u64 x.f1)) 21 rfl rfl (hon 21 (by kernel_rfl)) rfl
              have e124 : a.tmps[124]? = some (.bool false) := by rw [ha]; exact putSel_on (e := (14, 124, .bool false)) 14 rfl rfl (hon 14 (by kernel_rfl)) rfl
              replace ha := Aside0.mk ha
              have B0 := Aside0.mk Q_B0
              refine value_ (w1 := w') (v := .int .u64 (IntKind.u64.wrap (n - x.f1))) (wanted_on rfl rfl rfl (e124.trans (by first | rfl | (simp [*]; done)))) rfl ?_ ?_
              · go_simp
                (try simp only [i64_w])
                try rfl
              refine hK.out _ _ ⟨(by rw [ha.out]; exact putSel_upk 22 hb_ rfl rfl rfl), Q_B0⟩
            refine steps_cons ?_ ?_
            · rintro b a w' ⟨ha, Q_B0⟩ hb_ hon hoff
              refine ⟨_, rfl, fun K hK => ?_⟩
              have e132 : a.tmps[132]? = some (.int .u64 (IntKind.u64.wrap (n - x.f1))) := by rw [ha]; exact putSel_on (e := (22, 132, .int .u64 (IntKind.u64.wrap (n - x.f1)))) 22 rfl rfl (hon 22 (by kernel_rfl)) rfl
              have e124 : a.tmps[124]? = some (.bool false) := by rw [ha]; exact putSel_on (e := (14, 124, .bool false)) 14 rfl rfl (hon 14 (by kernel_rfl)) rfl
              replace ha := Aside0.mk ha
              have B0 := Aside0.mk Q_B0
              have q_ := HKV.out
              refine value_ (w1 := w') (v := .int .i64 kv) (wanted_on rfl rfl rfl (e124.trans (by first | rfl | (simp [*]; done)))) rfl ?_ ?_
              · go_simp
                (try simp only [i64_w])
                try rfl
              refine hK.out _ _ ⟨(by rw [ha.out]; exact putSel_upk 23 hb_ rfl rfl rfl), Q_B0⟩
            refine steps_cons ?_ ?_
            · rintro b a w' ⟨ha, Q_B0⟩ hb_ hon hoff
              refine ⟨_, rfl, fun K hK => ?_⟩
              have e125 : a.tmps[125]? = some (.int .i64 kv) := by rw [ha]; exact putSel_on (e := (15, 125, .int .i64 kv)) 15 rfl rfl (hon 15 (by kernel_rfl)) rfl
              have e133 : a.tmps[133]? = some (.int .i64 kv) := by rw [ha]; exact putSel_on (e := (23, 133, .int .i64 kv)) 23 rfl rfl (hon 23 (by kernel_rfl)) rfl
              have e124 : a.tmps[124]? = some (.bool false) := by rw [ha]; exact putSel_on (e := (14, 124, .bool false)) 14 rfl rfl (hon 14 (by kernel_rfl)) rfl
              replace ha := Aside0.mk ha
              have B0 := Aside0.mk Q_B0
              refine value_ (w1 := w') (v := .bool false) (wanted_on rfl rfl rfl (e124.trans (by first | rfl | (simp [*]; done)))) rfl ?_ ?_
              · go_simp
                (try simp only [i64_w])
                try rfl
              refine hK.out _ _ ⟨(by rw [ha.out]; exact putSel_upk 24 hb_ rfl rfl rfl), Q_B0⟩
            refine steps_cons ?_ ?_
            · rintro b a w' ⟨ha, Q_B0⟩ hb_ hon hoff
              refine ⟨_, rfl, fun K hK => ?_⟩
              have e124 : a.tmps[124]? = some (.bool false) := by rw [ha]; exact putSel_on (e := (14, 124, .bool false)) 14 rfl rfl (hon 14 (by kernel_rfl)) rfl
              have e134 : a.tmps[134]? = some (.bool false) := by rw [ha]; exact putSel_on (e := (24, 134, .bool false)) 24 rfl rfl (hon 24 (by kernel_rfl)) rfl
              have e116 : a.tmps[116]? = some (.bool true) := by rw [ha]; exact putSel_on (e := (6, 116, .bool true)) 6 rfl rfl (hon 6 (by kernel_rfl)) rfl
              replace ha := Aside0.mk ha
              have B0 := Aside0.mk Q_B0
              refine value_ (w1 := w') (v := .bool false) (wanted_on rfl rfl rfl (e116.trans (by first | rfl | (simp [*]; done)))) rfl ?_ ?_
              · go_simp
                (try simp only [i64_w])
                try rfl
              refine hK.out _ _ ⟨(by rw [ha.out]; exact putSel_upk 25 hb_ rfl rfl rfl), Q_B0⟩
            refine steps_cons ?_ ?_
            · rintro b a w' ⟨ha, Q_B0⟩ hb_ hon hoff
              refine ⟨_, rfl, fun K hK => ?_⟩
              have e116 : a.tmps[116]? = some (.bool true) := by rw [ha]; exact putSel_on (e := (6, 116, .bool true)) 6 rfl rfl (hon 6 (by kernel_rfl)) rfl
              have e135 : a.tmps[135]? = some (.bool false) := by rw [ha]; exact putSel_on (e := (25, 135, .bool false)) 25 rfl rfl (hon 25 (by kernel_rfl)) rfl
              have e114 : a.tmps[114]? = some (.bool false) := by rw [ha]; exact putSel_on (e := (4, 114, .bool false)) 4 rfl rfl (hon 4 (by kernel_rfl)) rfl
              replace ha := Aside0.mk ha
              have B0 := Aside0.mk Q_B0
              refine value_ (w1 := w') (v := .bool false) (wanted_on rfl rfl rfl (e114.trans (by first | rfl | (simp [*]; done)))) rfl ?_ ?_
              · go_simp
                (try simp only [i64_w])
                try rfl
              refine hK.out _ _ ⟨(by rw [ha.out]; exact putSel_upk 26 hb_ rfl rfl rfl), Q_B0⟩
            refine steps_cons ?_ ?_
            · rintro b a w' ⟨ha, Q_B0⟩ hb_ hon hoff
              refine ⟨_, rfl, fun K hK => ?_⟩
              have e114 : a.tmps[114]? = some (.bool false) := by rw [ha]; exact putSel_on (e := (4, 114, .bool false)) 4 rfl rfl (hon 4 (by kernel_rfl)) rfl
              have e136 : a.tmps[136]? = some (.bool false) := by rw [ha]; exact putSel_on (e := (26, 136, .bool false)) 26 rfl rfl (hon 26 (by kernel_rfl)) rfl
              replace ha := Aside0.mk ha
              have B0 := Aside0.mk Q_B0
              refine value_ (w1 := w') (v := .bool false) (by rfl) rfl ?_ ?_
              · go_simp
                (try simp only [i64_w])
                try rfl
              refine hK.out _ _ ⟨(by rw [ha.out]; exact putSel_upk 27 hb_ rfl rfl rfl), Q_B0⟩
            refine steps_cons ?_ ?_
            · rintro b a w' ⟨ha, Q_B0⟩ hb_ hon hoff
              refine ⟨_, rfl, fun K hK => ?_⟩
              have e137 : a.tmps[137]? = some (.bool false) := by rw [ha]; exact putSel_on (e := (27, 137, .bool false)) 27 rfl rfl (hon 27 (by kernel_rfl)) rfl
              replace ha := Aside0.mk ha
              have B0 := Aside0.mk Q_B0
              refine value_ (w1 := w') (v := .bool false) (by rfl) rfl ?_ ?_
              · go_simp
                (try simp only [i64_w])
                try rfl
              refine hK.out _ _ ⟨(by rw [ha.out]; exact putSel_upk 28 hb_ rfl rfl rfl), Q_B0⟩
            refine steps_cons ?_ ?_
            · rintro b a w' ⟨ha, Q_B0⟩ hb_ hon hoff
              refine ⟨_, rfl, fun K hK => ?_⟩
              have e16 : a.tmps[16]? = some (.bool true) := by rw [ha]; exact (putSel_off rfl).trans rfl
              have e138 : a.tmps[138]? = some (.bool false) := by rw [ha]; exact putSel_on (e := (28, 138, .bool false)) 28 rfl rfl (hon 28 (by kernel_rfl)) rfl
              replace ha := Aside0.mk ha
              have B0 := Aside0.mk Q_B0
              refine value_ (w1 := w') (v := .bool true) (wanted_on rfl rfl rfl (e138.trans (by first | rfl | (simp [*]; done)))) rfl ?_ ?_
              · go_simp
                (try simp only [i64_w])
                try rfl
              refine hK.out _ _ ⟨(by rw [ha.out]; exact putSel_upk 29 hb_ rfl rfl rfl), Q_B0⟩
            refine steps_cons ?_ ?_
            · rintro b a w' ⟨ha, Q_B0⟩ hb_ hon hoff
              refine ⟨_, rfl, fun K hK => ?_⟩
              have e139 : a.tmps[139]? = some (.bool true) := by rw [ha]; exact putSel_on (e := (29, 139, .bool true)) 29 rfl rfl (hon 29 (by kernel_rfl)) rfl
              have e138 : a.tmps[138]? = some (.bool false) := by rw [ha]; exact putSel_on (e := (28, 138, .bool false)) 28 rfl rfl (hon 28 (by kernel_rfl)) rfl
              replace ha := Aside0.mk ha
              have B0 := Aside0.mk Q_B0
              refine value_ (w1 := w') (v := .bool false) (wanted_on rfl rfl rfl (e138.trans (by first | rfl | (simp [*]; done)))) rfl ?_ ?_
              · go_simp
                (try simp only [i64_w])
                try rfl
              refine hK.out _ _ ⟨(by rw [ha.out]; exact putSel_upk 30 hb_ rfl rfl rfl), Q_B0⟩
            refine steps_cons ?_ ?_
            · rintro b a w' ⟨ha, Q_B0⟩ hb_ hon hoff
              refine ⟨_, rfl, fun K hK => ?_⟩
              have e140 : a.tmps[140]? = some (.bool false) := by rw [ha]; exact putSel_on (e := (30, 140, .bool false)) 30 rfl rfl (hon 30 (by kernel_rfl)) rfl
              have e138 : a.tmps[138]? = some (.bool false) := by rw [ha]; exact putSel_on (e := (28, 138, .bool false)) 28 rfl rfl (hon 28 (by kernel_rfl)) rfl
              replace ha := Aside0.mk ha
              have B0 := Aside0.mk Q_B0
              refine value_ (w1 := w') (v := .bool false) (wanted_on rfl rfl rfl (e138.trans (by first | rfl | (simp [*]; done)))) rfl ?_ ?_
              · go_simp
                (try simp only [i64_w])
                try rfl
              refine hK.out _ _ ⟨(by rw [ha.out]; exact putSel_upk 31 hb_ rfl rfl rfl), Q_B0⟩
            refine steps_cons ?_ ?_
            · rintro b a w' ⟨ha, Q_B0⟩ hb_ hon hoff
              refine ⟨_, rfl, fun K hK => ?_⟩
              have e141 : a.tmps[141]? = some (.bool false) := by rw [ha]; exact putSel_on (e := (31, 141, .bool false)) 31 rfl rfl (hon 31 (by kernel_rfl)) rfl
              replace ha := Aside0.mk ha
              have B0 := Aside0.mk Q_B0
              refine off_ (wanted_off rfl rfl rfl (e141.trans (by first | rfl | (simp [*]; done)))) ?_
              refine hK.out _ _ ⟨(by rw [ha.out]; exact putSel_upk 32 hb_ rfl rfl rfl), Q_B0⟩
            refine steps_cons ?_ ?_
            · rintro b a w' ⟨ha, Q_B0⟩ hb_ hon hoff
              refine ⟨_, rfl, fun K hK => ?_⟩
              have e141 : a.tmps[141]? = some (.bool false) := by rw [ha]; exact putSel_on (e := (31, 141, .bool false)) 31 rfl rfl (hon 31 (by kernel_rfl)) rfl
              replace ha := Aside0.mk ha
              have B0 := Aside0.mk Q_B0
              refine off_ (wanted_off rfl rfl rfl (e141.trans (by first | rfl | (simp [*]; done)))) ?_
              refine hK.out _ _ ⟨(by rw [ha.out]; exact putSel_upk 33 hb_ rfl rfl rfl), Q_B0⟩
            refine steps_cons ?_ ?_
            · rintro b a w' ⟨ha, Q_B0⟩ hb_ hon hoff
              refine ⟨_, rfl, fun K hK => ?_⟩
              have e141 : a.tmps[141]? = some (.bool false) := by rw [ha]; exact putSel_on (e := (31, 141, .bool false)) 31 rfl rfl (hon 31 (by kernel_rfl)) rfl
              have e143 : a.tmps[143]? = some (undef) := by rw [ha]; exact putSel_on (e := (33, 143, undef)) 33 rfl rfl (hon 33 (by kernel_rfl)) rfl
              have e138 : a.tmps[138]? = some (.bool false) := by rw [ha]; exact putSel_on (e := (28, 138, .bool false)) 28 rfl rfl (hon 28 (by kernel_rfl)) rfl
              replace ha := Aside0.mk ha
              have B0 := Aside0.mk Q_B0
              refine value_ (w1 := w') (v := .bool false) (wanted_on rfl rfl rfl (e138.trans (by first | rfl | (simp [*]; done)))) rfl ?_ ?_
              · go_simp
                (try simp only [i64_w])
                try rfl
              refine hK.out _ _ ⟨(by rw [ha.out]; exact putSel_upk 34 hb_ rfl rfl rfl), Q_B0⟩
            refine steps_cons ?_ ?_
            · rintro b a w' ⟨ha, Q_B0⟩ hb_ hon hoff
              refine ⟨_, rfl, fun K hK => ?_⟩
              have e138 : a.tmps[138]? = some (.bool false) := by rw [ha]; exact putSel_on (e := (28, 138, .bool false)) 28 rfl rfl (hon 28 (by kernel_rfl)) rfl
              have e144 : a.tmps[144]? = some (.bool false) := by rw [ha]; exact putSel_on (e := (34, 144, .bool false)) 34 rfl rfl (hon 34 (by kernel_rfl)) rfl
              replace ha := Aside0.mk ha
              have B0 := Aside0.mk Q_B0
              refine value_ (w1 := w') (v := .bool false) (by rfl) rfl ?_ ?_
              · go_simp
                (try simp only [i64_w])
                try rfl
              refine hK.out _ _ ⟨(by rw [ha.out]; exact putSel_upk 35 hb_ rfl rfl rfl), Q_B0⟩
            exact steps_nil
          rintro b a w9 hall ⟨ha, Q_B0⟩
          clear B0
          have hb0_ := hall 0 (by kernel_rfl)
          have hb1_ := hall 1 (by kernel_rfl)
          have hb2_ := hall 2 (by kernel_rfl)
          have hb3_ := hall 3 (by kernel_rfl)
          have hb4_ := hall 4 (by kernel_rfl)
          have hb5_ := hall 5 (by kernel_rfl)
          have hb6_ := hall 6 (by kernel_rfl)
          have hb7_ := hall 7 (by kernel_rfl)
          have hb8_ := hall 8 (by kernel_rfl)
          have hb9_ := hall 9 (by kernel_rfl)
          have hb10_ := hall 10 (by kernel_rfl)
          have hb11_ := hall 11 (by kernel_rfl)
          have hb12_ := hall 12 (by kernel_rfl)
          have hb13_ := hall 13 (by kernel_rfl)
          have hb14_ := hall 14 (by kernel_rfl)
          have hb15_ := hall 15 (by kernel_rfl)
          have hb16_ := hall 16 (by kernel_rfl)
          have hb17_ := hall 17 (by kernel_rfl)
          have hb18_ := hall 18 (by kernel_rfl)
          have hb19_ := hall 19 (by kernel_rfl)
          have hb20_ := hall 20 (by kernel_rfl)
          have hb21_ := hall 21 (by kernel_rfl)
          have hb22_ := hall 22 (by kernel_rfl)
          have hb23_ := hall 23 (by kernel_rfl)
          have hb24_ := hall 24 (by kernel_rfl)
          have hb25_ := hall 25 (by kernel_rfl)
          have hb26_ := hall 26 (by kernel_rfl)
          have hb27_ := hall 27 (by kernel_rfl)
          have hb28_ := hall 28 (by kernel_rfl)
          have hb29_ := hall 29 (by kernel_rfl)
          have hb30_ := hall 30 (by kernel_rfl)
          have hb31_ := hall 31 (by kernel_rfl)
          have hb32_ := hall 32 (by kernel_rfl)
          have hb33_ := hall 33 (by kernel_rfl)
          have hb34_ := hall 34 (by kernel_rfl)
          have hb35_ := hall 35 (by kernel_rfl)
          subst ha
          simp only [putSel, hb0_, hb1_, hb2_, hb3_, hb4_, hb5_, hb6_, hb7_, hb8_, hb9_, hb10_, hb11_, hb12_, hb13_, hb14_, hb15_, hb16_, hb17_, hb18_, hb19_, hb20_, hb21_, hb22_, hb23_, hb24_, hb25_, hb26_, hb27_, hb28_, hb29_, hb30_, hb31_, hb32_, hb33_, hb34_, hb35_, if_true, Act.put, List.setIfInBounds_toArray, List.set_cons_zero, List.set_cons_succ]
          have B0 := Aside0.mk Q_B0
          clear Q_B0
          clear hall hb0_ hb1_ hb2_ hb3_ hb4_ hb5_ hb6_ hb7_ hb8_ hb9_ hb10_ hb11_ hb12_ hb13_ hb14_ hb15_ hb16_ hb17_ hb18_ hb19_ hb20_ hb21_ hb22_ hb23_ hb24_ hb25_ hb26_ hb27_ hb28_ hb29_ hb30_ hb31_ hb32_ hb33_ hb34_ hb35_
          have hb := B0.out
          have HX9 := Aside0.mk (HX8.out.below hb)
          have HW9 := Aside0.mk (HW8.out.below hb)
          have HB9 := Aside0.mk (below_then HB8.out HB8.out.size hb)
          have HP99 := Aside0.mk (And.intro HP98.out.1 (Kd.C_below HP98.out.2 hb))
          clear hb
          clear B0 p1 q1
          go_wp2_with (first
          | (go_at_call 6; refine (awake27_calls _).mono ?_; rintro e w10 ⟨rfl, hb⟩; have HX10 := Aside0.mk (HX9.out.below hb); have HW10 := Aside0.mk (HW9.out.below hb); have HB10 := Aside0.mk (below_then HB9.out HB9.out.size hb); have HP910 := Aside0.mk (And.intro HP99.out.1 (Kd.C_below HP99.out.2 hb)); clear hb)
          | (go_at_call 13; refine (HPG.out _ HX10.out).mono ?_; rintro e w11 ⟨v, rfl, hR, hb⟩; obtain ⟨A11, c11, rfl, hl11, hC11⟩ := Kd.R_reads hR; have HC11 := Aside0.mk (And.intro hC11 hl11); clear hR hC11 hl11; have HX11 := Aside0.mk (HX10.out.below hb); have HW11 := Aside0.mk (HW10.out.below hb); have HB11 := Aside0.mk (below_then HB10.out HB10.out.size hb); have HP911 := Aside0.mk (And.intro HP910.out.1 (Kd.C_below HP910.out.2 hb)); clear hb)
          | (go_at_call 12; refine (isame_calls pg HPL2.out A11 c11 A9 c9 _ HC11.out.2 HC11.out.1 HP911.out.1 HP911.out.2).mono ?_; rintro e w12 ⟨rfl, hb⟩; have HB12 := Aside0.mk (below_then HB11.out HB11.out.size hb); clear hb)
          | (go_at_call 14; refine (frames_calls size _).mono ?_; rintro e w13 ⟨rfl, hb⟩; have HB13 := Aside0.mk (below_then HB12.out HB12.out.size hb); clear hb)
          | (go_at_call 9; refine (rframes_calls size HL.out.2 _).mono ?_; rintro e w14 ⟨rfl, hb⟩; have HB14 := Aside0.mk (below_then HB13.out HB13.out.size hb); clear hb))
          go_ret
          exact ⟨rfl, HB14.out⟩
end Go.Proofs.Ytaepbgieahedjaa.QS
namespace Go.Proofs.Ytaepbgieahedjaa.Hp
open Go.RowKit Go.Proofs.YtaepbgieahedjaaW.PrintWords Go.Proofs.YtaepbgieahedjaaW.PrintLast Go.Proofs.YtaepbgieahedjaaW.PrintMore
attribute [local go_sem] max2_int min2_int max_two min_two max_three min_three max_four min_four   -- for this text's walks alone
set_option linter.unusedVariables false
set_option linter.unusedSimpArgs false
open Classical in
noncomputable def wagtaillaw27_IndexFrames.f (l : List S29) (n size : Int) : Option Bool := if ∀ x ∈ l, x.f7.length ≤ 9223372036854775807 then some true else none
set_option maxHeartbeats 8000000 in
set_option maxRecDepth 100000 in
theorem wagtaillaw27_IndexFrames.calls (A0 : Option Addr) (c0 : Nat) (l0 : List (S29)) (a1 : Int) (a2 : Int) (r : Bool) (w : World) (hr0 : Kd.C k29 w A0 l0.length l0) (hc0 : l0.length ≤ c0) (h : wagtaillaw27_IndexFrames.f l0 a1 a2 = some r) :
    Calls Try.prog 3 #[.slice A0 l0.length c0, .int .u64 a1, .int .i64 a2] w fun e w' => e = .returned (.bool r) ∧ Below w.heap.size w w' := by
  unfold wagtaillaw27_IndexFrames.f at h
  by_cases hc : ∀ x ∈ l0, x.f7.length ≤ 9223372036854775807
  case neg => rw [if_neg hc] at h; cases h
  rw [if_pos hc] at h
  obtain rfl := Option.some.inj h
  exact QS.frames27_calls l0 A0 c0 a1 a2 w hr0 hc
end Go.Proofs.Ytaepbgieahedjaa.Hp
