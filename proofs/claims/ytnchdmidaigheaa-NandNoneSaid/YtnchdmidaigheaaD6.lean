/- A page is programmed: what any call of Program answers, and what the device is behind it. -/
import Derived.Test.YtnchdmidaigheaaD5
import Derived.Test.YtnchdmidaigheaaHp7
namespace Go.Proofs.Ytnchdmidaigheaa.ND
set_option linter.unusedVariables false
set_option linter.unusedSimpArgs false
open Go.RowKit Go.Proofs.Ytnchdmidaigheaa.Hp Go.Proofs.YtnchdmidaigheaaW.PrintWords Go.Proofs.YtnchdmidaigheaaW.PrintLast Go.Proofs.YtnchdmidaigheaaW.PrintMore
theorem place_f {D : Dv} (h : D.Ok) (b p : Int) : geom_Place.f D.B D.P D.C b p = some (if D.here b p = true then (D.idx b p : Int) else -1) := by
  have hc : geom_Check.f D.B D.P D.C = some 0 := by
    unfold geom_Check.f within
    rw [if_pos (by simp; have := h.b1; have := h.b2; have := h.p1; have := h.p2; have := h.c1; have := h.c2; omega)]
  unfold geom_Place.f
  rw [hc, Option.bind_some, if_pos rfl]
  cases hh : D.here b p with
  | true =>
    obtain ⟨⟨h1, h2⟩, h3, h4⟩ := here_iff.1 hh
    have hi := h.idx hh
    have hs := h.size
    have hl := h.pl
    have h5 : 0 ≤ b * D.P := Int.mul_nonneg h1 (by omega)
    rw [if_neg (by omega), if_neg (by omega), if_neg (by omega), if_neg (by omega), if_pos rfl]
    have e1 : wrap64 (b * D.P) = b * D.P := by unfold wrap64; omega
    rw [e1, hi.1]
    congr 1
    unfold wrap64
    omega
  | false =>
    have hn : ¬ ((0 ≤ b ∧ b < D.B) ∧ 0 ≤ p ∧ p < D.P) := fun hc => by rw [here_iff.2 hc] at hh; cases hh
    rw [show (if false = true then (D.idx b p : Int) else -1) = -1 from rfl]
    by_cases h1 : b < 0
    · rw [if_pos h1]
    · rw [if_neg h1]
      by_cases h2 : b ≥ D.B
      · rw [if_pos h2]
      · rw [if_neg h2]
        by_cases h3 : p < 0
        · rw [if_pos h3]
        · rw [if_neg h3, if_pos (by omega)]
theorem DV.newer2 {W W' : World} {ok ok' : Nat → Prop} {L : Lay} {D D0 : Dv} (h : DV W' ok' L D) (h0 : DV W ok L D0) (ho : ∀ k, ok' k → newer W ok k) : DV W' (newer W ok) L D :=
  h.mono ho (fun k hk hlt hS => hk.elim (fun hk => h0.no k hk (h0.lt k hS) hS) (fun hk => by have := h0.lt k hS; omega))
theorem newer_no {W W9 : World} {ok : Nat → Prop} {L : Lay} {D0 : Dv} (h0 : DV W ok L D0) (hs : W.heap.size ≤ W9.heap.size) : ∀ k, newer W9 ok k → ¬ L.S k := fun k hk hS => hk.elim (fun hk => h0.no k hk (h0.lt k hS) hS) (fun hk => by have := h0.lt k hS; omega)
-- tabs
def prog4.T4 : Bool × List (List Nat × List Nat) := (true, [([], []), ([0], [0]), ([1], [1]), ([2], [2]), ([], []), ([3, 4], [3, 4]), ([5, 5, 0, 1, 2, 3, 4, 5], [5])])
def prog4.B4 : List Nat := [0, 1, 3, 7, 0, 31, 63]
theorem prog4.tab4 : rtab .any (opsOf Try.f17 4) = prog4.T4 := by kernel_rfl
theorem prog4.bits4 : waitsOk prog4.T4.2 prog4.B4 = true := by kernel_rfl
def prog7.T7 : Bool × List (List Nat × List Nat) := (true, [([], []), ([0], [0]), ([1], [1]), ([2], [2]), ([], []), ([4], [4]), ([3, 5], [3, 5]), ([6], [6]), ([7], [7])])
def prog7.B7 : List Nat := [0, 1, 3, 7, 0, 16, 63, 127, 255]
theorem prog7.tab7 : rtab .any (opsOf Try.f17 7) = prog7.T7 := by kernel_rfl
theorem prog7.bits7 : waitsOk prog7.T7.2 prog7.B7 = true := by kernel_rfl
def prog9.T9 : Bool × List (List Nat × List Nat) := (true, [([], []), ([0], [0]), ([], []), ([2], [2]), ([3], [3]), ([4], [4]), ([], []), ([6], [6]), ([5, 7], [5, 7]), ([8], [8]), ([1, 9], [1, 9]), ([10], [10])])
def prog9.B9 : List Nat := [0, 1, 0, 4, 12, 28, 0, 64, 252, 508, 1023, 2047]
theorem prog9.tab9 : rtab .any (opsOf Try.f17 9) = prog9.T9 := by kernel_rfl
theorem prog9.bits9 : waitsOk prog9.T9.2 prog9.B9 = true := by kernel_rfl
def prog12.T12 : Bool × List (List Nat × List Nat) := (true, [([], []), ([0], [0]), ([1], [1]), ([2], [2]), ([], []), ([4], [4]), ([3, 5], [3, 5]), ([6], [6]), ([7], [7]), ([3, 5, 0, 1, 2, 3, 4, 5, 6, 7, 8], [3, 5]), ([9, 8, 0, 1, 2, 3, 4, 5, 6, 7, 8], [8, 9])])
def prog12.B12 : List Nat := [0, 1, 3, 7, 0, 16, 63, 127, 255, 511, 1023]
theorem prog12.tab12 : rtab .any (opsOf Try.f17 12) = prog12.T12 := by kernel_rfl
theorem prog12.bits12 : waitsOk prog12.T12.2 prog12.B12 = true := by kernel_rfl
-- tabs end
set_option maxHeartbeats 2000000 in
set_option maxRecDepth 100000 in
theorem program_calls {W : World} {ok okl : Nat → Prop} {L : Lay} {D : Dv} (h : DV W ok L D) (bk pg : Int) (l : List Int) (A : Option Addr) (c : Nat) (hc : l.length ≤ c) (hl : isBytes l) (gl : Kd.F (Kd.int .u8) W okl A l.length l) (hno : ∀ k, okl k → k < W.heap.size → ¬ L.S k) :
    Calls Try.prog 17 #[.pointer (some ⟨L.g, 0, none⟩), .agg #[.int .i64 bk, .int .i64 pg], .slice A l.length c] W fun e w' => e = .returned (.int .i64 (D.prog bk pg l).1) ∧ DV w' (newer W ok) L (D.prog bk pg l).2 ∧ Turn W w' L.S := by
  have H00 := Aside0.mk h
  have HPR := Aside0.mk (rfl : D.prog bk pg l = D.prog bk pg l)
  obtain ⟨r, hr⟩ : ∃ r, r = D.prog bk pg l := ⟨_, rfl⟩
  rw [← hr]
  have HRR := Aside0.mk hr
  have hz4 := heap_alloc_new W (.cells #[.int .i64 bk, .int .i64 pg] 37)
  have hb4 := below_alloc (Below.refl W.heap.size W) (.cells #[.int .i64 bk, .int .i64 pg] 37)
  have hz5 := heap_alloc_new (W.alloc (.cells #[.int .i64 bk, .int .i64 pg] 37)) (.cells #[.slice A l.length c] 38)
  have hb5 := below_alloc hb4 (.cells #[.slice A l.length c] 38)
  have hz4' := blk_alloc hz4 (.cells #[.slice A l.length c] 38)
  have hsz : (W.alloc (.cells #[.int .i64 bk, .int .i64 pg] 37)).heap.size = W.heap.size + 1 := by simp
  rw [hsz] at hz5
  obtain ⟨g5, hg5⟩ : ∃ g, g = W.heap.size + 1 := ⟨_, rfl⟩
  obtain ⟨g4, hg4⟩ : ∃ g, g = W.heap.size := ⟨_, rfl⟩
  have HLL := Aside0.mk (And.intro hc (And.intro hl (And.intro gl hno)))
  clear hc hl gl hno hr hb4 hz4 hsz h
  go_enter Try.func17, Try.ntmps17
  go_upto_region 1 with fail
  rw [← hg5] at hz5 ⊢
  generalize ((W.alloc (.cells #[.int .i64 bk, .int .i64 pg] 37)).alloc (.cells #[.slice A l.length c] 38)) = W2 at hz4' hz5 hb5 ⊢
  rw [← hg4] at hz4' ⊢
  have HG := Aside0.mk (And.intro hg4 hg5)
  have HB2 := Aside0.mk hb5
  have HZ4 := Aside0.mk hz4'
  have HZ5 := Aside0.mk hz5
  have H2 := Aside0.mk (H00.out.below hb5)
  clear hg4 hg5 hz4' hz5 hb5
  cases hd : D.down with
  | true =>
    have HU := Aside0.mk (up_calls H2.out)
    rw [hd, if_pos rfl] at HU
    have HR1 : Aside0 (r = (9, D)) := ⟨by rw [HRR.out]; unfold Dv.prog; rw [if_pos hd]⟩
    clear hd
    go_wp2_with (go_at_call 63; refine HU.out.mono ?_; rintro e w3 ⟨rfl, hb⟩; have HB3 := Aside0.mk (below_then HB2.out HB2.out.size hb); clear hb)
    go_ret
    rw [HR1.out]
    exact ⟨rfl, (H00.out.below HB3.out).newer_ H00.out.lt, Turn.of_below HB3.out _⟩
  | false =>
    have HU := Aside0.mk (up_calls H2.out)
    rw [hd, if_neg (by decide)] at HU
    go_upto_region 4 with (go_at_call 63; refine HU.out.mono ?_; rintro e w3 ⟨rfl, hb⟩; have HB3 := Aside0.mk (below_then HB2.out HB2.out.size hb); have HB23 := Aside0.mk hb; clear hb)
    have H3 := Aside0.mk (H2.out.below HB23.out)
    have HZ4_3 := Aside0.mk (blk_below HZ4.out HB23.out)
    have HZ5_3 := Aside0.mk (blk_below HZ5.out HB23.out)
    have B0 := Aside0.mk (below_drew1 (Below.refl w3.heap.size w3))
    obtain ⟨pl, hpl⟩ : ∃ pl : Int, pl = if D.here bk pg = true then (D.idx bk pg : Int) else -1 := ⟨_, rfl⟩
    have HPL := Aside0.mk (fun w => geom_Place.calls D.B D.P D.C bk pg pl w (by rw [hpl]; exact place_f H00.out.ok bk pg))
    clear HU HZ4 HZ5 H2 HB23
    -- R4
    refine start_ (n := 7) (S := fun w' => True) (ds := []) #[false, false, false, false, false, false, false] (by kernel_rfl) rfl rfl trivial (fun hHeld => ?_)
    refine with_tabW prog4.tab4 prog4.bits4 (fun HT_ HW_ => ?_)
    generalize w3.drew = wq at B0 hHeld ⊢
    refine inv_at [0, 1, 2, 3, 4, 5, 6] (fun a0_ b a w' => a = putSel a0_ b [(0, 16, .pointer (some ⟨L.g, 0, none⟩)), (1, 17, .pointer (some ⟨L.g, 0, none⟩)), (2, 18, .pointer (some ⟨L.g, 0, none⟩)), (3, 19, .agg #[.int .i64 D.B, .int .i64 D.P, .int .i64 D.C]), (4, 20, .agg #[.int .i64 bk, .int .i64 pg]), (5, 21, .int .i64 pl), (6, 8, .int .i64 pl)] ∧ (Below w3.heap.size w3 w')) HT_.out HW_.out (by kernel_rfl) (by kernel_rfl) ?_ ?_ ?_
    · exact ⟨by simp only [putSel, Bool.false_eq_true, if_false], B0.out⟩
    · skip
      clear B0
      refine steps_cons ?_ ?_
      · rintro b a w' ⟨ha, Q_B0⟩ hb_ hon hoff
        refine ⟨_, rfl, fun K hK => ?_⟩
        have e0 : a.tmps[0]? = some (.pointer (some ⟨L.g, 0, none⟩)) := by rw [ha]; exact (putSel_off rfl).trans rfl
        replace ha := Aside0.mk ha
        have B0 := Aside0.mk Q_B0
        refine value_ (w1 := w') (v := .pointer (some ⟨L.g, 0, none⟩)) (by rfl) rfl ?_ ?_
        · go_simp
          (try simp only [i64_w])
          try rfl
        refine hK.out _ _ ⟨(by rw [ha.out]; exact putSel_upk 0 hb_ rfl rfl rfl), Q_B0⟩
      refine steps_cons ?_ ?_
      · rintro b a w' ⟨ha, Q_B0⟩ hb_ hon hoff
        refine ⟨_, rfl, fun K hK => ?_⟩
        have e16 : a.tmps[16]? = some (.pointer (some ⟨L.g, 0, none⟩)) := by rw [ha]; exact putSel_on (e := (0, 16, .pointer (some ⟨L.g, 0, none⟩))) 0 rfl rfl (hon 0 (by kernel_rfl)) rfl
        replace ha := Aside0.mk ha
        have B0 := Aside0.mk Q_B0
        refine value_ (w1 := w') (v := .pointer (some ⟨L.g, 0, none⟩)) (by rfl) rfl ?_ ?_
        · go_simp
          (try simp only [i64_w])
          try rfl
        refine hK.out _ _ ⟨(by rw [ha.out]; exact putSel_upk 1 hb_ rfl rfl rfl), Q_B0⟩
      refine steps_cons ?_ ?_
      · rintro b a w' ⟨ha, Q_B0⟩ hb_ hon hoff
        refine ⟨_, rfl, fun K hK => ?_⟩
        have e17 : a.tmps[17]? = some (.pointer (some ⟨L.g, 0, none⟩)) := by rw [ha]; exact putSel_on (e := (1, 17, .pointer (some ⟨L.g, 0, none⟩))) 1 rfl rfl (hon 1 (by kernel_rfl)) rfl
        replace ha := Aside0.mk ha
        have B0 := Aside0.mk Q_B0
        refine value_ (w1 := w') (v := .pointer (some ⟨L.g, 0, none⟩)) (by rfl) rfl ?_ ?_
        · go_simp
          (try simp only [i64_w])
          try rfl
        refine hK.out _ _ ⟨(by rw [ha.out]; exact putSel_upk 2 hb_ rfl rfl rfl), Q_B0⟩
      refine steps_cons ?_ ?_
      · rintro b a w' ⟨ha, Q_B0⟩ hb_ hon hoff
        refine ⟨_, rfl, fun K hK => ?_⟩
        have e18 : a.tmps[18]? = some (.pointer (some ⟨L.g, 0, none⟩)) := by rw [ha]; exact putSel_on (e := (2, 18, .pointer (some ⟨L.g, 0, none⟩))) 2 rfl rfl (hon 2 (by kernel_rfl)) rfl
        replace ha := Aside0.mk ha
        have B0 := Aside0.mk Q_B0
        have hh_ := top_cells (H3.out.below B0.out)
        have c0_ := hh_.1
        have c1_ := hh_.2.1
        have c2_ := hh_.2.2.1
        clear hh_
        refine value_ (w1 := w') (v := .agg #[.int .i64 D.B, .int .i64 D.P, .int .i64 D.C]) (by rfl) rfl ?_ ?_
        · go_simp
          (try simp only [i64_w])
          try rfl
        refine hK.out _ _ ⟨(by rw [ha.out]; exact putSel_upk 3 hb_ rfl rfl rfl), Q_B0⟩
      refine steps_cons ?_ ?_
      · rintro b a w' ⟨ha, Q_B0⟩ hb_ hon hoff
        refine ⟨_, rfl, fun K hK => ?_⟩
        have e4 : a.tmps[4]? = some (.pointer (some ⟨g4, 0, none⟩)) := by rw [ha]; exact (putSel_off rfl).trans rfl
        replace ha := Aside0.mk ha
        have B0 := Aside0.mk Q_B0
        have c0_ := blk_cell (blk_below HZ4_3.out B0.out) 0
        have c1_ := blk_cell (blk_below HZ4_3.out B0.out) 1
        refine value_ (w1 := w') (v := .agg #[.int .i64 bk, .int .i64 pg]) (by rfl) rfl ?_ ?_
        · go_simp
          (try simp only [i64_w])
          try rfl
        refine hK.out _ _ ⟨(by rw [ha.out]; exact putSel_upk 4 hb_ rfl rfl rfl), Q_B0⟩
      refine steps_cons ?_ ?_
      · rintro b a w' ⟨ha, Q_B0⟩ hb_ hon hoff
        refine ⟨_, rfl, fun K hK => ?_⟩
        have e19 : a.tmps[19]? = some (.agg #[.int .i64 D.B, .int .i64 D.P, .int .i64 D.C]) := by rw [ha]; exact putSel_on (e := (3, 19, .agg #[.int .i64 D.B, .int .i64 D.P, .int .i64 D.C])) 3 rfl rfl (hon 3 (by kernel_rfl)) rfl
        have e20 : a.tmps[20]? = some (.agg #[.int .i64 bk, .int .i64 pg]) := by rw [ha]; exact putSel_on (e := (4, 20, .agg #[.int .i64 bk, .int .i64 pg])) 4 rfl rfl (hon 4 (by kernel_rfl)) rfl
        replace ha := Aside0.mk ha
        have B0 := Aside0.mk Q_B0
        refine goes_ Try.func69 (by kernel_rfl) rfl #[.agg #[.int .i64 D.B, .int .i64 D.P, .int .i64 D.C], .agg #[.int .i64 bk, .int .i64 pg]] (by rfl) rfl rfl (by first | (simp only [List.map_toArray, List.map_cons, List.map_nil, Act.eval, Array.getD_eq_getD_getElem?, Option.getD_some, e19, e20]; done) | (simp only [List.map_toArray, List.map_cons, List.map_nil, Act.eval, Array.getD_eq_getD_getElem?, Option.getD_some, e19, e20]; rfl)) ?_
        with_reducible refine (HPL.out _).mono ?_
        rintro e w2 ⟨rfl, hb⟩
        refine ⟨_, rfl, ?_⟩
        refine hK.out _ _ ⟨(by rw [ha.out]; exact putSel_upk 5 hb_ rfl rfl rfl), below_then B0.out B0.out.size hb⟩
      refine steps_cons ?_ ?_
      · rintro b a w' ⟨ha, Q_B0⟩ hb_ hon hoff
        refine ⟨_, rfl, fun K hK => ?_⟩
        have e21 : a.tmps[21]? = some (.int .i64 pl) := by rw [ha]; exact putSel_on (e := (5, 21, .int .i64 pl)) 5 rfl rfl (hon 5 (by kernel_rfl)) rfl
        replace ha := Aside0.mk ha
        have B0 := Aside0.mk Q_B0
        refine value_ (w1 := w') (v := .int .i64 pl) (by rfl) rfl ?_ ?_
        · go_simp
          (try simp only [i64_w])
          try rfl
        refine hK.out _ _ ⟨(by rw [ha.out]; exact putSel_upk 6 hb_ rfl rfl rfl), Q_B0⟩
      exact steps_nil
    rintro b a w4 hall ⟨ha, Q_B0⟩
    clear B0
    have hb0_ := hall 0 (by kernel_rfl)
    have hb1_ := hall 1 (by kernel_rfl)
    have hb2_ := hall 2 (by kernel_rfl)
    have hb3_ := hall 3 (by kernel_rfl)
    have hb4_ := hall 4 (by kernel_rfl)
    have hb5_ := hall 5 (by kernel_rfl)
    have hb6_ := hall 6 (by kernel_rfl)
    subst ha
    simp only [putSel, hb0_, hb1_, hb2_, hb3_, hb4_, hb5_, hb6_, if_true, Act.put, List.setIfInBounds_toArray, List.set_cons_zero, List.set_cons_succ]
    have B0 := Aside0.mk Q_B0
    clear Q_B0
    clear hall hb0_ hb1_ hb2_ hb3_ hb4_ hb5_ hb6_
    -- R4 end
    have HB4 := Aside0.mk (below_then HB3.out HB3.out.size B0.out)
    have H4 := Aside0.mk (H3.out.below B0.out)
    have HZ4_4 := Aside0.mk (blk_below HZ4_3.out B0.out)
    have HZ5_4 := Aside0.mk (blk_below HZ5_3.out B0.out)
    clear HPL H3 HZ4_3 HZ5_3 B0 HB2 HB3
    cases hh : D.here bk pg with
    | false =>
      rw [hh, if_neg (by decide)] at hpl
      subst hpl
      have HR1 : Aside0 (r = (3, D)) := ⟨by rw [HRR.out]; unfold Dv.prog; rw [if_neg (by rw [hd]; decide), if_pos (.inl hh)]⟩
      clear hh hd
      go_wp2_with fail
      go_ret
      rw [HR1.out]
      exact ⟨rfl, (H00.out.below HB4.out).newer_ H00.out.lt, Turn.of_below HB4.out _⟩
    | true =>
      rw [hh, if_pos rfl] at hpl
      have hix := H00.out.ok.idx hh
      obtain ⟨i, hi⟩ : ∃ i, i = D.idx bk pg := ⟨_, rfl⟩
      rw [← hi] at hpl hix
      subst hpl
      have HI := Aside0.mk (And.intro hi hix.2)
      have HHH := Aside0.mk hh
      obtain ⟨⟨h1, h2⟩, h3, h4⟩ := here_iff.1 hh
      obtain ⟨n, rfl⟩ := Int.eq_ofNat_of_zero_le h1
      have HN := Aside0.mk (And.intro h2 (And.intro h3 h4))
      have HD0 := Aside0.mk hd
      have tpl : decide ((i : Int) < 0) = false := decide_eq_false (by omega)
      have y5 := blk_cell HZ5_4.out 0
      clear hi hix h1 h2 h3 h4 hd hh
      by_cases hlen : l.length = 256
      case neg =>
        have tl : ((l.length : Int) != 256) = true := by simp; omega
        have HR1 : Aside0 (r = (3, D)) := ⟨by rw [HRR.out]; unfold Dv.prog; rw [if_neg (by rw [HD0.out]; decide), if_pos (.inr hlen)]⟩
        clear hlen
        go_wp2_with fail
        go_ret
        rw [HR1.out]
        exact ⟨rfl, (H00.out.below HB4.out).newer_ H00.out.lt, Turn.of_below HB4.out _⟩
      case pos =>
        have tl : ((l.length : Int) != 256) = false := by rw [hlen]; rfl
        have HLN := Aside0.mk hlen
        clear hlen
        go_upto_region 7 with fail
        obtain ⟨bm, hbm⟩ : ∃ x, x = D.mark (n : Int) := ⟨_, rfl⟩
        have HBM := Aside0.mk hbm
        have HQ := Aside0.mk (And.intro (eq_true (show (0 : Int) ≤ (n : Int) by omega)) (eq_true (show (n : Int) < (((marks D).length : Nat) : Int) by rw [marks_len]; have := HN.out.1; omega)))
        have HQ2 := Aside0.mk (And.intro (eq_true (show (0 : Int) ≤ (n : Int) by omega)) (eq_true (show (n : Int) < ((D.next.length : Nat) : Int) by have := H00.out.ok.nl; have := HN.out.1; omega)))
        have B0 := Aside0.mk (below_drew1 (Below.refl w4.heap.size w4))
        clear hbm y5 tl tpl
        -- R7
        refine start_ (n := 9) (S := fun w' => True) (ds := []) #[false, false, false, false, false, false, false, false, false] (by kernel_rfl) rfl rfl trivial (fun hHeld => ?_)
        refine with_tabW prog7.tab7 prog7.bits7 (fun HT_ HW_ => ?_)
        generalize w4.drew = wq at B0 hHeld ⊢
        refine inv_at [0, 1, 2, 3, 4, 5, 6, 7, 8] (fun a0_ b a w' => a = putSel a0_ b [(0, 31, .pointer (some ⟨L.g, 0, none⟩)), (1, 32, .pointer (some ⟨L.g, 0, none⟩)), (2, 33, .pointer (some ⟨L.g, 3, none⟩)), (3, 34, .slice (some ⟨L.gm, 0, none⟩) (marks D).length L.cm), (4, 35, .pointer (some ⟨g4, 0, none⟩)), (5, 36, .int .i64 (n : Int)), (6, 37, .pointer (some ⟨L.gm, n, none⟩)), (7, 38, .bool bm), (8, 30, .bool bm)] ∧ (Below w4.heap.size w4 w')) HT_.out HW_.out (by kernel_rfl) (by kernel_rfl) ?_ ?_ ?_
        · exact ⟨by simp only [putSel, Bool.false_eq_true, if_false], B0.out⟩
        · skip
          clear B0
          refine steps_cons ?_ ?_
          · rintro b a w' ⟨ha, Q_B0⟩ hb_ hon hoff
            refine ⟨_, rfl, fun K hK => ?_⟩
            have e0 : a.tmps[0]? = some (.pointer (some ⟨L.g, 0, none⟩)) := by rw [ha]; exact (putSel_off rfl).trans rfl
            replace ha := Aside0.mk ha
            have B0 := Aside0.mk Q_B0
            refine value_ (w1 := w') (v := .pointer (some ⟨L.g, 0, none⟩)) (by rfl) rfl ?_ ?_
            · go_simp
              (try simp only [i64_w])
              try rfl
            refine hK.out _ _ ⟨(by rw [ha.out]; exact putSel_upk 0 hb_ rfl rfl rfl), Q_B0⟩
          refine steps_cons ?_ ?_
          · rintro b a w' ⟨ha, Q_B0⟩ hb_ hon hoff
            refine ⟨_, rfl, fun K hK => ?_⟩
            have e31 : a.tmps[31]? = some (.pointer (some ⟨L.g, 0, none⟩)) := by rw [ha]; exact putSel_on (e := (0, 31, .pointer (some ⟨L.g, 0, none⟩))) 0 rfl rfl (hon 0 (by kernel_rfl)) rfl
            replace ha := Aside0.mk ha
            have B0 := Aside0.mk Q_B0
            refine value_ (w1 := w') (v := .pointer (some ⟨L.g, 0, none⟩)) (by rfl) rfl ?_ ?_
            · go_simp
              (try simp only [i64_w])
              try rfl
            refine hK.out _ _ ⟨(by rw [ha.out]; exact putSel_upk 1 hb_ rfl rfl rfl), Q_B0⟩
          refine steps_cons ?_ ?_
          · rintro b a w' ⟨ha, Q_B0⟩ hb_ hon hoff
            refine ⟨_, rfl, fun K hK => ?_⟩
            have e32 : a.tmps[32]? = some (.pointer (some ⟨L.g, 0, none⟩)) := by rw [ha]; exact putSel_on (e := (1, 32, .pointer (some ⟨L.g, 0, none⟩))) 1 rfl rfl (hon 1 (by kernel_rfl)) rfl
            replace ha := Aside0.mk ha
            have B0 := Aside0.mk Q_B0
            refine value_ (w1 := w') (v := .pointer (some ⟨L.g, 3, none⟩)) (by rfl) rfl ?_ ?_
            · go_simp
              (try simp only [i64_w])
              try rfl
            refine hK.out _ _ ⟨(by rw [ha.out]; exact putSel_upk 2 hb_ rfl rfl rfl), Q_B0⟩
          refine steps_cons ?_ ?_
          · rintro b a w' ⟨ha, Q_B0⟩ hb_ hon hoff
            refine ⟨_, rfl, fun K hK => ?_⟩
            have e33 : a.tmps[33]? = some (.pointer (some ⟨L.g, 3, none⟩)) := by rw [ha]; exact putSel_on (e := (2, 33, .pointer (some ⟨L.g, 3, none⟩))) 2 rfl rfl (hon 2 (by kernel_rfl)) rfl
            replace ha := Aside0.mk ha
            have B0 := Aside0.mk Q_B0
            have c_ := (top_cells (H4.out.below B0.out)).2.2.2.1
            refine value_ (w1 := w') (v := .slice (some ⟨L.gm, 0, none⟩) (marks D).length L.cm) (by rfl) rfl ?_ ?_
            · go_simp
              (try simp only [i64_w])
              try rfl
            refine hK.out _ _ ⟨(by rw [ha.out]; exact putSel_upk 3 hb_ rfl rfl rfl), Q_B0⟩
          refine steps_cons ?_ ?_
          · rintro b a w' ⟨ha, Q_B0⟩ hb_ hon hoff
            refine ⟨_, rfl, fun K hK => ?_⟩
            have e4 : a.tmps[4]? = some (.pointer (some ⟨g4, 0, none⟩)) := by rw [ha]; exact (putSel_off rfl).trans rfl
            replace ha := Aside0.mk ha
            have B0 := Aside0.mk Q_B0
            refine value_ (w1 := w') (v := .pointer (some ⟨g4, 0, none⟩)) (by rfl) rfl ?_ ?_
            · go_simp
              (try simp only [i64_w])
              try rfl
            refine hK.out _ _ ⟨(by rw [ha.out]; exact putSel_upk 4 hb_ rfl rfl rfl), Q_B0⟩
          refine steps_cons ?_ ?_
          · rintro b a w' ⟨ha, Q_B0⟩ hb_ hon hoff
            refine ⟨_, rfl, fun K hK => ?_⟩
            have e35 : a.tmps[35]? = some (.pointer (some ⟨g4, 0, none⟩)) := by rw [ha]; exact putSel_on (e := (4, 35, .pointer (some ⟨g4, 0, none⟩))) 4 rfl rfl (hon 4 (by kernel_rfl)) rfl
            replace ha := Aside0.mk ha
            have B0 := Aside0.mk Q_B0
            have c_ := blk_cell (blk_below HZ4_4.out B0.out) 0
            refine value_ (w1 := w') (v := .int .i64 (n : Int)) (by rfl) rfl ?_ ?_
            · go_simp
              (try simp only [i64_w])
              try rfl
            refine hK.out _ _ ⟨(by rw [ha.out]; exact putSel_upk 5 hb_ rfl rfl rfl), Q_B0⟩
          refine steps_cons ?_ ?_
          · rintro b a w' ⟨ha, Q_B0⟩ hb_ hon hoff
            refine ⟨_, rfl, fun K hK => ?_⟩
            have e34 : a.tmps[34]? = some (.slice (some ⟨L.gm, 0, none⟩) (marks D).length L.cm) := by rw [ha]; exact putSel_on (e := (3, 34, .slice (some ⟨L.gm, 0, none⟩) (marks D).length L.cm)) 3 rfl rfl (hon 3 (by kernel_rfl)) rfl
            have e36 : a.tmps[36]? = some (.int .i64 (n : Int)) := by rw [ha]; exact putSel_on (e := (5, 36, .int .i64 (n : Int))) 5 rfl rfl (hon 5 (by kernel_rfl)) rfl
            replace ha := Aside0.mk ha
            have B0 := Aside0.mk Q_B0
            have p_ := HQ.out.1
            have q_ := HQ.out.2
            refine value_ (w1 := w') (v := .pointer (some ⟨L.gm, n, none⟩)) (by rfl) rfl ?_ ?_
            · go_simp
              (try simp only [i64_w])
              try rfl
            refine hK.out _ _ ⟨(by rw [ha.out]; exact putSel_upk 6 hb_ rfl rfl rfl), Q_B0⟩
          refine steps_cons ?_ ?_
          · rintro b a w' ⟨ha, Q_B0⟩ hb_ hon hoff
            refine ⟨_, rfl, fun K hK => ?_⟩
            have e37 : a.tmps[37]? = some (.pointer (some ⟨L.gm, n, none⟩)) := by rw [ha]; exact putSel_on (e := (6, 37, .pointer (some ⟨L.gm, n, none⟩))) 6 rfl rfl (hon 6 (by kernel_rfl)) rfl
            replace ha := Aside0.mk ha
            have B0 := Aside0.mk Q_B0
            have c_ := (H4.out.below B0.out).mb.cell (marks_at HN.out.1)
            rw [← HBM.out] at c_
            refine value_ (w1 := w') (v := .bool bm) (by rfl) rfl ?_ ?_
            · go_simp
              (try simp only [i64_w])
              try rfl
            refine hK.out _ _ ⟨(by rw [ha.out]; exact putSel_upk 7 hb_ rfl rfl rfl), Q_B0⟩
          refine steps_cons ?_ ?_
          · rintro b a w' ⟨ha, Q_B0⟩ hb_ hon hoff
            refine ⟨_, rfl, fun K hK => ?_⟩
            have e38 : a.tmps[38]? = some (.bool bm) := by rw [ha]; exact putSel_on (e := (7, 38, .bool bm)) 7 rfl rfl (hon 7 (by kernel_rfl)) rfl
            replace ha := Aside0.mk ha
            have B0 := Aside0.mk Q_B0
            refine value_ (w1 := w') (v := .bool bm) (by rfl) rfl ?_ ?_
            · go_simp
              (try simp only [i64_w])
              try rfl
            refine hK.out _ _ ⟨(by rw [ha.out]; exact putSel_upk 8 hb_ rfl rfl rfl), Q_B0⟩
          exact steps_nil
        rintro b a w7 hall ⟨ha, Q_B0⟩
        clear B0
        have hb0_ := hall 0 (by kernel_rfl)
        have hb1_ := hall 1 (by kernel_rfl)
        have hb2_ := hall 2 (by kernel_rfl)
        have hb3_ := hall 3 (by kernel_rfl)
        have hb4_ := hall 4 (by kernel_rfl)
        have hb5_ := hall 5 (by kernel_rfl)
        have hb6_ := hall 6 (by kernel_rfl)
        have hb7_ := hall 7 (by kernel_rfl)
        have hb8_ := hall 8 (by kernel_rfl)
        subst ha
        simp only [putSel, hb0_, hb1_, hb2_, hb3_, hb4_, hb5_, hb6_, hb7_, hb8_, if_true, Act.put, List.setIfInBounds_toArray, List.set_cons_zero, List.set_cons_succ]
        have B0 := Aside0.mk Q_B0
        clear Q_B0
        clear hall hb0_ hb1_ hb2_ hb3_ hb4_ hb5_ hb6_ hb7_ hb8_
        -- R7 end
        have HB7 := Aside0.mk (below_then HB4.out HB4.out.size B0.out)
        have H7 := Aside0.mk (H4.out.below B0.out)
        have HZ4_7 := Aside0.mk (blk_below HZ4_4.out B0.out)
        have HZ5_7 := Aside0.mk (blk_below HZ5_4.out B0.out)
        clear B0 H4 HZ4_4 HZ5_4 HB4
        cases bm with
        | true =>
          have HR1 : Aside0 (r = (12, D)) := ⟨by rw [HRR.out]; unfold Dv.prog; rw [if_neg (by rw [HD0.out]; decide), if_neg (by rw [HHH.out, HLN.out]; simp), if_pos HBM.out.symm]⟩
          go_wp2_with fail
          go_ret
          rw [HR1.out]
          exact ⟨rfl, (H00.out.below HB7.out).newer_ H00.out.lt, Turn.of_below HB7.out _⟩
        | false =>
          go_upto_region 9 with fail
          obtain ⟨nx, hnx⟩ : ∃ x, x = D.next.getD n 0 := ⟨_, rfl⟩
          obtain ⟨bq, hbq⟩ : ∃ x, x = (pg != nx) := ⟨_, rfl⟩
          have HNX := Aside0.mk hnx
          have HBQ := Aside0.mk hbq.symm
          have HNC : Aside0 ((D.next.map (Value.int .i64))[n]? = some (.int .i64 nx)) := ⟨by rw [hnx]; exact ints_at (by have := H00.out.ok.nl; have := HN.out.1; omega)⟩
          have B0 := Aside0.mk (below_drew1 (Below.refl w7.heap.size w7))
          clear hnx hbq
          -- R9
          refine start_ (n := 12) (S := fun w' => True) (ds := []) #[false, false, false, false, false, false, false, false, false, false, false, false] (by kernel_rfl) rfl rfl trivial (fun hHeld => ?_)
          refine with_tabW prog9.tab9 prog9.bits9 (fun HT_ HW_ => ?_)
          generalize w7.drew = wq at B0 hHeld ⊢
          refine inv_at [0, 1, 2, 3, 4, 5, 6, 7, 8, 9, 10, 11] (fun a0_ b a w' => a = putSel a0_ b [(0, 40, .pointer (some ⟨g4, 1, none⟩)), (1, 41, .int .i64 pg), (2, 42, .pointer (some ⟨L.g, 0, none⟩)), (3, 43, .pointer (some ⟨L.g, 0, none⟩)), (4, 44, .pointer (some ⟨L.g, 5, none⟩)), (5, 45, .slice (some ⟨L.gn, 0, none⟩) D.next.length L.cn), (6, 46, .pointer (some ⟨g4, 0, none⟩)), (7, 47, .int .i64 (n : Int)), (8, 48, .pointer (some ⟨L.gn, n, none⟩)), (9, 49, .int .i64 nx), (10, 50, .bool bq), (11, 39, .bool bq)] ∧ (Below w7.heap.size w7 w')) HT_.out HW_.out (by kernel_rfl) (by kernel_rfl) ?_ ?_ ?_
          · exact ⟨by simp only [putSel, Bool.false_eq_true, if_false], B0.out⟩
          · skip
            clear B0
            refine steps_cons ?_ ?_
            · rintro b a w' ⟨ha, Q_B0⟩ hb_ hon hoff
              refine ⟨_, rfl, fun K hK => ?_⟩
              have e4 : a.tmps[4]? = some (.pointer (some ⟨g4, 0, none⟩)) := by rw [ha]; exact (putSel_off rfl).trans rfl
              replace ha := Aside0.mk ha
              have B0 := Aside0.mk Q_B0
              refine value_ (w1 := w') (v := .pointer (some ⟨g4, 1, none⟩)) (by rfl) rfl ?_ ?_
              · go_simp
                (try simp only [i64_w])
                try rfl
              refine hK.out _ _ ⟨(by rw [ha.out]; exact putSel_upk 0 hb_ rfl rfl rfl), Q_B0⟩
            refine steps_cons ?_ ?_
            · rintro b a w' ⟨ha, Q_B0⟩ hb_ hon hoff
              refine ⟨_, rfl, fun K hK => ?_⟩
              have e40 : a.tmps[40]? = some (.pointer (some ⟨g4, 1, none⟩)) := by rw [ha]; exact putSel_on (e := (0, 40, .pointer (some ⟨g4, 1, none⟩))) 0 rfl rfl (hon 0 (by kernel_rfl)) rfl
              replace ha := Aside0.mk ha
              have B0 := Aside0.mk Q_B0
              have c_ := blk_cell (blk_below HZ4_7.out B0.out) 1
              refine value_ (w1 := w') (v := .int .i64 pg) (by rfl) rfl ?_ ?_
              · go_simp
                (try simp only [i64_w])
                try rfl
              refine hK.out _ _ ⟨(by rw [ha.out]; exact putSel_upk 1 hb_ rfl rfl rfl), Q_B0⟩
            refine steps_cons ?_ ?_
            · rintro b a w' ⟨ha, Q_B0⟩ hb_ hon hoff
              refine ⟨_, rfl, fun K hK => ?_⟩
              have e0 : a.tmps[0]? = some (.pointer (some ⟨L.g, 0, none⟩)) := by rw [ha]; exact (putSel_off rfl).trans rfl
              replace ha := Aside0.mk ha
              have B0 := Aside0.mk Q_B0
              refine value_ (w1 := w') (v := .pointer (some ⟨L.g, 0, none⟩)) (by rfl) rfl ?_ ?_
              · go_simp
                (try simp only [i64_w])
                try rfl
              refine hK.out _ _ ⟨(by rw [ha.out]; exact putSel_upk 2 hb_ rfl rfl rfl), Q_B0⟩
            refine steps_cons ?_ ?_
            · rintro b a w' ⟨ha, Q_B0⟩ hb_ hon hoff
              refine ⟨_, rfl, fun K hK => ?_⟩
              have e42 : a.tmps[42]? = some (.pointer (some ⟨L.g, 0, none⟩)) := by rw [ha]; exact putSel_on (e := (2, 42, .pointer (some ⟨L.g, 0, none⟩))) 2 rfl rfl (hon 2 (by kernel_rfl)) rfl
              replace ha := Aside0.mk ha
              have B0 := Aside0.mk Q_B0
              refine value_ (w1 := w') (v := .pointer (some ⟨L.g, 0, none⟩)) (by rfl) rfl ?_ ?_
              · go_simp
                (try simp only [i64_w])
                try rfl
              refine hK.out _ _ ⟨(by rw [ha.out]; exact putSel_upk 3 hb_ rfl rfl rfl), Q_B0⟩
            refine steps_cons ?_ ?_
            · rintro b a w' ⟨ha, Q_B0⟩ hb_ hon hoff
              refine ⟨_, rfl, fun K hK => ?_⟩
              have e43 : a.tmps[43]? = some (.pointer (some ⟨L.g, 0, none⟩)) := by rw [ha]; exact putSel_on (e := (3, 43, .pointer (some ⟨L.g, 0, none⟩))) 3 rfl rfl (hon 3 (by kernel_rfl)) rfl
              replace ha := Aside0.mk ha
              have B0 := Aside0.mk Q_B0
              refine value_ (w1 := w') (v := .pointer (some ⟨L.g, 5, none⟩)) (by rfl) rfl ?_ ?_
              · go_simp
                (try simp only [i64_w])
                try rfl
              refine hK.out _ _ ⟨(by rw [ha.out]; exact putSel_upk 4 hb_ rfl rfl rfl), Q_B0⟩
            refine steps_cons ?_ ?_
            · rintro b a w' ⟨ha, Q_B0⟩ hb_ hon hoff
              refine ⟨_, rfl, fun K hK => ?_⟩
              have e44 : a.tmps[44]? = some (.pointer (some ⟨L.g, 5, none⟩)) := by rw [ha]; exact putSel_on (e := (4, 44, .pointer (some ⟨L.g, 5, none⟩))) 4 rfl rfl (hon 4 (by kernel_rfl)) rfl
              replace ha := Aside0.mk ha
              have B0 := Aside0.mk Q_B0
              have c_ := (top_cells (H7.out.below B0.out)).2.2.2.2.2.1
              refine value_ (w1 := w') (v := .slice (some ⟨L.gn, 0, none⟩) D.next.length L.cn) (by rfl) rfl ?_ ?_
              · go_simp
                (try simp only [i64_w])
                try rfl
              refine hK.out _ _ ⟨(by rw [ha.out]; exact putSel_upk 5 hb_ rfl rfl rfl), Q_B0⟩
            refine steps_cons ?_ ?_
            · rintro b a w' ⟨ha, Q_B0⟩ hb_ hon hoff
              refine ⟨_, rfl, fun K hK => ?_⟩
              have e4 : a.tmps[4]? = some (.pointer (some ⟨g4, 0, none⟩)) := by rw [ha]; exact (putSel_off rfl).trans rfl
              replace ha := Aside0.mk ha
              have B0 := Aside0.mk Q_B0
              refine value_ (w1 := w') (v := .pointer (some ⟨g4, 0, none⟩)) (by rfl) rfl ?_ ?_
              · go_simp
                (try simp only [i64_w])
                try rfl
              refine hK.out _ _ ⟨(by rw [ha.out]; exact putSel_upk 6 hb_ rfl rfl rfl), Q_B0⟩
            refine steps_cons ?_ ?_
            · rintro b a w' ⟨ha, Q_B0⟩ hb_ hon hoff
              refine ⟨_, rfl, fun K hK => ?_⟩
              have e46 : a.tmps[46]? = some (.pointer (some ⟨g4, 0, none⟩)) := by rw [ha]; exact putSel_on (e := (6, 46, .pointer (some ⟨g4, 0, none⟩))) 6 rfl rfl (hon 6 (by kernel_rfl)) rfl
              replace ha := Aside0.mk ha
              have B0 := Aside0.mk Q_B0
              have c_ := blk_cell (blk_below HZ4_7.out B0.out) 0
              refine value_ (w1 := w') (v := .int .i64 (n : Int)) (by rfl) rfl ?_ ?_
              · go_simp
                (try simp only [i64_w])
                try rfl
              refine hK.out _ _ ⟨(by rw [ha.out]; exact putSel_upk 7 hb_ rfl rfl rfl), Q_B0⟩
            refine steps_cons ?_ ?_
            · rintro b a w' ⟨ha, Q_B0⟩ hb_ hon hoff
              refine ⟨_, rfl, fun K hK => ?_⟩
              have e45 : a.tmps[45]? = some (.slice (some ⟨L.gn, 0, none⟩) D.next.length L.cn) := by rw [ha]; exact putSel_on (e := (5, 45, .slice (some ⟨L.gn, 0, none⟩) D.next.length L.cn)) 5 rfl rfl (hon 5 (by kernel_rfl)) rfl
              have e47 : a.tmps[47]? = some (.int .i64 (n : Int)) := by rw [ha]; exact putSel_on (e := (7, 47, .int .i64 (n : Int))) 7 rfl rfl (hon 7 (by kernel_rfl)) rfl
              replace ha := Aside0.mk ha
              have B0 := Aside0.mk Q_B0
              have p_ := HQ2.out.1
              have q_ := HQ2.out.2
              refine value_ (w1 := w') (v := .pointer (some ⟨L.gn, n, none⟩)) (by rfl) rfl ?_ ?_
              · go_simp
                (try simp only [i64_w])
                try rfl
              refine hK.out _ _ ⟨(by rw [ha.out]; exact putSel_upk 8 hb_ rfl rfl rfl), Q_B0⟩
            refine steps_cons ?_ ?_
            · rintro b a w' ⟨ha, Q_B0⟩ hb_ hon hoff
              refine ⟨_, rfl, fun K hK => ?_⟩
              have e48 : a.tmps[48]? = some (.pointer (some ⟨L.gn, n, none⟩)) := by rw [ha]; exact putSel_on (e := (8, 48, .pointer (some ⟨L.gn, n, none⟩))) 8 rfl rfl (hon 8 (by kernel_rfl)) rfl
              replace ha := Aside0.mk ha
              have B0 := Aside0.mk Q_B0
              have c_ := (H7.out.below B0.out).nx.cell HNC.out
              refine value_ (w1 := w') (v := .int .i64 nx) (by rfl) rfl ?_ ?_
              · go_simp
                (try simp only [i64_w])
                try rfl
              refine hK.out _ _ ⟨(by rw [ha.out]; exact putSel_upk 9 hb_ rfl rfl rfl), Q_B0⟩
            refine steps_cons ?_ ?_
            · rintro b a w' ⟨ha, Q_B0⟩ hb_ hon hoff
              refine ⟨_, rfl, fun K hK => ?_⟩
              have e41 : a.tmps[41]? = some (.int .i64 pg) := by rw [ha]; exact putSel_on (e := (1, 41, .int .i64 pg)) 1 rfl rfl (hon 1 (by kernel_rfl)) rfl
              have e49 : a.tmps[49]? = some (.int .i64 nx) := by rw [ha]; exact putSel_on (e := (9, 49, .int .i64 nx)) 9 rfl rfl (hon 9 (by kernel_rfl)) rfl
              replace ha := Aside0.mk ha
              have B0 := Aside0.mk Q_B0
              have q_ := HBQ.out
              refine value_ (w1 := w') (v := .bool bq) (by rfl) rfl ?_ ?_
              · go_simp
                (try simp only [i64_w])
                try rfl
              refine hK.out _ _ ⟨(by rw [ha.out]; exact putSel_upk 10 hb_ rfl rfl rfl), Q_B0⟩
            refine steps_cons ?_ ?_
            · rintro b a w' ⟨ha, Q_B0⟩ hb_ hon hoff
              refine ⟨_, rfl, fun K hK => ?_⟩
              have e50 : a.tmps[50]? = some (.bool bq) := by rw [ha]; exact putSel_on (e := (10, 50, .bool bq)) 10 rfl rfl (hon 10 (by kernel_rfl)) rfl
              replace ha := Aside0.mk ha
              have B0 := Aside0.mk Q_B0
              refine value_ (w1 := w') (v := .bool bq) (by rfl) rfl ?_ ?_
              · go_simp
                (try simp only [i64_w])
                try rfl
              refine hK.out _ _ ⟨(by rw [ha.out]; exact putSel_upk 11 hb_ rfl rfl rfl), Q_B0⟩
            exact steps_nil
          rintro b a w9 hall ⟨ha, Q_B0⟩
          clear B0
          have hb0_ := hall 0 (by kernel_rfl)
          have hb1_ := hall 1 (by kernel_rfl)
          have hb2_ := hall 2 (by kernel_rfl)
          have hb3_ := hall 3 (by kernel_rfl)
          have hb4_ := hall 4 (by kernel_rfl)
          have hb5_ := hall 5 (by kernel_rfl)
          have hb6_ := hall 6 (by kernel_rfl)
          have hb7_ := hall 7 (by kernel_rfl)
          have hb8_ := hall 8 (by kernel_rfl)
          have hb9_ := hall 9 (by kernel_rfl)
          have hb10_ := hall 10 (by kernel_rfl)
          have hb11_ := hall 11 (by kernel_rfl)
          subst ha
          simp only [putSel, hb0_, hb1_, hb2_, hb3_, hb4_, hb5_, hb6_, hb7_, hb8_, hb9_, hb10_, hb11_, if_true, Act.put, List.setIfInBounds_toArray, List.set_cons_zero, List.set_cons_succ]
          have B0 := Aside0.mk Q_B0
          clear Q_B0
          clear hall hb0_ hb1_ hb2_ hb3_ hb4_ hb5_ hb6_ hb7_ hb8_ hb9_ hb10_ hb11_
          -- R9 end
          have HB9 := Aside0.mk (below_then HB7.out HB7.out.size B0.out)
          have H9 := Aside0.mk (H7.out.below B0.out)
          have HZ4_9 := Aside0.mk (blk_below HZ4_7.out B0.out)
          have HZ5_9 := Aside0.mk (blk_below HZ5_7.out B0.out)
          clear B0 H7 HZ4_7 HZ5_7 HB7
          cases bq with
          | true =>
            have HR1 : Aside0 (r = (11, D)) := ⟨by rw [HRR.out]; unfold Dv.prog; rw [if_neg (by rw [HD0.out]; decide), if_neg (by rw [HHH.out, HLN.out]; simp), if_neg (by rw [← HBM.out]; decide), if_pos (by rw [Int.toNat_natCast, ← HNX.out]; have := HBQ.out; simp at this; exact fun e => this e.symm)]⟩
            go_wp2_with fail
            go_ret
            rw [HR1.out]
            exact ⟨rfl, (H00.out.below HB9.out).newer_ H00.out.lt, Turn.of_below HB9.out _⟩
          | false =>
            obtain rfl : pg = nx := by have := HBQ.out; simpa using this
            have HR1 : Aside0 (r = (ended D.fault.1, D.progD (n : Int) pg l)) := ⟨by rw [HRR.out]; unfold Dv.prog; rw [if_neg (by rw [HD0.out]; decide), if_neg (by rw [HHH.out, HLN.out]; simp), if_neg (by rw [← HBM.out]; decide), if_neg (by rw [Int.toNat_natCast, ← HNX.out]; simp)]⟩
            have HBG := Aside0.mk (begin_calls H9.out)
            go_upto_region 12 with (go_at_call 64; refine HBG.out.mono ?_; rintro e w10 ⟨A3, c3, rfl, hc3, hF3, hD3, hT3⟩; have HE3 := Aside0.mk (And.intro hc3 (And.intro hF3 (And.intro hD3 hT3))); clear hc3 hF3 hD3 hT3)
            obtain ⟨m, hm⟩ : ∃ m, m = D.fault.2 := ⟨_, rfl⟩
            rw [← hm] at HE3 ⊢
            have HM := Aside0.mk hm
            have hz10 := heap_alloc_new w10 (.cells #[.slice A3 m.length c3] 38)
            have hb10 := below_alloc (Below.refl w10.heap.size w10) (.cells #[.slice A3 m.length c3] 38)
            have hn4 : ¬ L.S g4 := fun hS => by have := H00.out.lt g4 hS; have := HG.out.1; omega
            have hn5 : ¬ L.S g5 := fun hS => by have := H00.out.lt g5 hS; have := HG.out.2; omega
            have hn10 : ¬ L.S w10.heap.size := fun hS => by have := H00.out.lt _ hS; have := HB9.out.size; have := HE3.out.2.2.2.size; omega
            have H11 := Aside0.mk (HE3.out.2.2.1.below hb10)
            have T11 := Aside0.mk (((Turn.of_below HB9.out L.S).trans HE3.out.2.2.2 (fun k hk => .inl hk)).below hb10)
            have F11 := Aside0.mk (Kd.F_below HE3.out.2.1 hb10)
            have Z4_11 := Aside0.mk (blk_below (blk_turn HZ4_9.out HE3.out.2.2.2 hn4) hb10)
            have Z5_11 := Aside0.mk (blk_below (blk_turn HZ5_9.out HE3.out.2.2.2 hn5) hb10)
            have HC3 := Aside0.mk HE3.out.1
            generalize w10.alloc (.cells #[.slice A3 m.length c3] 38) = W11 at hz10 hb10 H11 T11 F11 Z4_11 Z5_11 ⊢
            generalize w10.heap.size = g10 at hz10 hn10 ⊢
            have Z10_11 := Aside0.mk hz10
            have HNS := Aside0.mk (And.intro hn4 (And.intro hn5 hn10))
            have HNXR := Aside0.mk (show 0 ≤ pg + 1 ∧ pg + 1 ≤ D.P by have := HN.out; omega)
            have HWP : Aside0 (IntKind.i64.wrap (pg + 1) = pg + 1) := ⟨by have := HN.out; have := H00.out.ok.p2; rw [i64_w]; unfold wrap64; omega⟩
            have B0 := Aside0.mk (below_drew1 (Below.refl W11.heap.size W11))
            clear hz10 hb10 hn4 hn5 hn10 HBG hm H9 HZ4_9 HZ5_9 HE3
            -- R12
            refine start_ (n := 11) (S := fun w' => True) (ds := []) #[false, false, false, false, false, false, false, false, false, false, false] (by kernel_rfl) rfl rfl trivial (fun hHeld => ?_)
            refine with_tabW prog12.tab12 prog12.bits12 (fun HT_ HW_ => ?_)
            generalize W11.drew = wq at B0 hHeld ⊢
            refine inv_at [0, 1, 2, 3, 4, 5, 6, 7, 8, 9, 10] (fun a0_ b a w' => a = putSel a0_ b [(0, 56, .pointer (some ⟨L.g, 0, none⟩)), (1, 57, .pointer (some ⟨L.g, 0, none⟩)), (2, 58, .pointer (some ⟨L.g, 5, none⟩)), (3, 59, .slice (some ⟨L.gn, 0, none⟩) D.next.length L.cn), (4, 60, .pointer (some ⟨g4, 0, none⟩)), (5, 61, .int .i64 (n : Int)), (6, 62, .pointer (some ⟨L.gn, n, none⟩)), (7, 63, .int .i64 pg), (8, 64, .int .i64 (pg + 1)), (9, 65, .pointer (some ⟨L.gn, n, none⟩))] ∧ (b 10 = false → Below W11.heap.size W11 w') ∧ (b 10 = true → DV w' ok L { D.bump with next := D.next.set n (pg + 1) } ∧ Turn W11 w' L.S)) HT_.out HW_.out (by kernel_rfl) (by kernel_rfl) ?_ ?_ ?_
            · exact ⟨by simp only [putSel, Bool.false_eq_true, if_false], fun _ => B0.out, fun h_ => absurd h_ (by decide)⟩
            · skip
              clear B0
              refine steps_cons ?_ ?_
              · rintro b a w' ⟨ha, Q_B0, Q_FIN⟩ hb_ hon hoff
                refine ⟨_, rfl, fun K hK => ?_⟩
                have e0 : a.tmps[0]? = some (.pointer (some ⟨L.g, 0, none⟩)) := by rw [ha]; exact (putSel_off rfl).trans rfl
                replace ha := Aside0.mk ha
                have B0 := Aside0.mk (Q_B0 (hoff 10 (by kernel_rfl)))
                refine value_ (w1 := w') (v := .pointer (some ⟨L.g, 0, none⟩)) (by rfl) rfl ?_ ?_
                · go_simp
                  (try simp only [i64_w])
                  try rfl
                refine hK.out _ _ ⟨(by rw [ha.out]; exact putSel_upk 0 hb_ rfl rfl rfl), Q_B0, fun h0_ => absurd ((hoff 10 (by kernel_rfl)).symm.trans h0_) (by decide)⟩
              refine steps_cons ?_ ?_
              · rintro b a w' ⟨ha, Q_B0, Q_FIN⟩ hb_ hon hoff
                refine ⟨_, rfl, fun K hK => ?_⟩
                have e56 : a.tmps[56]? = some (.pointer (some ⟨L.g, 0, none⟩)) := by rw [ha]; exact putSel_on (e := (0, 56, .pointer (some ⟨L.g, 0, none⟩))) 0 rfl rfl (hon 0 (by kernel_rfl)) rfl
                replace ha := Aside0.mk ha
                have B0 := Aside0.mk (Q_B0 (hoff 10 (by kernel_rfl)))
                refine value_ (w1 := w') (v := .pointer (some ⟨L.g, 0, none⟩)) (by rfl) rfl ?_ ?_
                · go_simp
                  (try simp only [i64_w])
                  try rfl
                refine hK.out _ _ ⟨(by rw [ha.out]; exact putSel_upk 1 hb_ rfl rfl rfl), Q_B0, fun h0_ => absurd ((hoff 10 (by kernel_rfl)).symm.trans h0_) (by decide)⟩
              refine steps_cons ?_ ?_
              · rintro b a w' ⟨ha, Q_B0, Q_FIN⟩ hb_ hon hoff
                refine ⟨_, rfl, fun K hK => ?_⟩
                have e57 : a.tmps[57]? = some (.pointer (some ⟨L.g, 0, none⟩)) := by rw [ha]; exact putSel_on (e := (1, 57, .pointer (some ⟨L.g, 0, none⟩))) 1 rfl rfl (hon 1 (by kernel_rfl)) rfl
                replace ha := Aside0.mk ha
                have B0 := Aside0.mk (Q_B0 (hoff 10 (by kernel_rfl)))
                refine value_ (w1 := w') (v := .pointer (some ⟨L.g, 5, none⟩)) (by rfl) rfl ?_ ?_
                · go_simp
                  (try simp only [i64_w])
                  try rfl
                refine hK.out _ _ ⟨(by rw [ha.out]; exact putSel_upk 2 hb_ rfl rfl rfl), Q_B0, fun h0_ => absurd ((hoff 10 (by kernel_rfl)).symm.trans h0_) (by decide)⟩
              refine steps_cons ?_ ?_
              · rintro b a w' ⟨ha, Q_B0, Q_FIN⟩ hb_ hon hoff
                refine ⟨_, rfl, fun K hK => ?_⟩
                have e58 : a.tmps[58]? = some (.pointer (some ⟨L.g, 5, none⟩)) := by rw [ha]; exact putSel_on (e := (2, 58, .pointer (some ⟨L.g, 5, none⟩))) 2 rfl rfl (hon 2 (by kernel_rfl)) rfl
                replace ha := Aside0.mk ha
                have B0 := Aside0.mk (Q_B0 (hoff 10 (by kernel_rfl)))
                have c_ := (top_cells (H11.out.below B0.out)).2.2.2.2.2.1
                refine value_ (w1 := w') (v := .slice (some ⟨L.gn, 0, none⟩) D.next.length L.cn) (by rfl) rfl ?_ ?_
                · go_simp
                  (try simp only [i64_w])
                  try rfl
                refine hK.out _ _ ⟨(by rw [ha.out]; exact putSel_upk 3 hb_ rfl rfl rfl), Q_B0, fun h0_ => absurd ((hoff 10 (by kernel_rfl)).symm.trans h0_) (by decide)⟩
              refine steps_cons ?_ ?_
              · rintro b a w' ⟨ha, Q_B0, Q_FIN⟩ hb_ hon hoff
                refine ⟨_, rfl, fun K hK => ?_⟩
                have e4 : a.tmps[4]? = some (.pointer (some ⟨g4, 0, none⟩)) := by rw [ha]; exact (putSel_off rfl).trans rfl
                replace ha := Aside0.mk ha
                have B0 := Aside0.mk (Q_B0 (hoff 10 (by kernel_rfl)))
                refine value_ (w1 := w') (v := .pointer (some ⟨g4, 0, none⟩)) (by rfl) rfl ?_ ?_
                · go_simp
                  (try simp only [i64_w])
                  try rfl
                refine hK.out _ _ ⟨(by rw [ha.out]; exact putSel_upk 4 hb_ rfl rfl rfl), Q_B0, fun h0_ => absurd ((hoff 10 (by kernel_rfl)).symm.trans h0_) (by decide)⟩
              refine steps_cons ?_ ?_
              · rintro b a w' ⟨ha, Q_B0, Q_FIN⟩ hb_ hon hoff
                refine ⟨_, rfl, fun K hK => ?_⟩
                have e60 : a.tmps[60]? = some (.pointer (some ⟨g4, 0, none⟩)) := by rw [ha]; exact putSel_on (e := (4, 60, .pointer (some ⟨g4, 0, none⟩))) 4 rfl rfl (hon 4 (by kernel_rfl)) rfl
                replace ha := Aside0.mk ha
                have B0 := Aside0.mk (Q_B0 (hoff 10 (by kernel_rfl)))
                have c_ := blk_cell (blk_below Z4_11.out B0.out) 0
                refine value_ (w1 := w') (v := .int .i64 (n : Int)) (by rfl) rfl ?_ ?_
                · go_simp
                  (try simp only [i64_w])
                  try rfl
                refine hK.out _ _ ⟨(by rw [ha.out]; exact putSel_upk 5 hb_ rfl rfl rfl), Q_B0, fun h0_ => absurd ((hoff 10 (by kernel_rfl)).symm.trans h0_) (by decide)⟩
              refine steps_cons ?_ ?_
              · rintro b a w' ⟨ha, Q_B0, Q_FIN⟩ hb_ hon hoff
                refine ⟨_, rfl, fun K hK => ?_⟩
                have e59 : a.tmps[59]? = some (.slice (some ⟨L.gn, 0, none⟩) D.next.length L.cn) := by rw [ha]; exact putSel_on (e := (3, 59, .slice (some ⟨L.gn, 0, none⟩) D.next.length L.cn)) 3 rfl rfl (hon 3 (by kernel_rfl)) rfl
                have e61 : a.tmps[61]? = some (.int .i64 (n : Int)) := by rw [ha]; exact putSel_on (e := (5, 61, .int .i64 (n : Int))) 5 rfl rfl (hon 5 (by kernel_rfl)) rfl
                replace ha := Aside0.mk ha
                have B0 := Aside0.mk (Q_B0 (hoff 10 (by kernel_rfl)))
                have p_ := HQ2.out.1
                have q_ := HQ2.out.2
                refine value_ (w1 := w') (v := .pointer (some ⟨L.gn, n, none⟩)) (by rfl) rfl ?_ ?_
                · go_simp
                  (try simp only [i64_w])
                  try rfl
                refine hK.out _ _ ⟨(by rw [ha.out]; exact putSel_upk 6 hb_ rfl rfl rfl), Q_B0, fun h0_ => absurd ((hoff 10 (by kernel_rfl)).symm.trans h0_) (by decide)⟩
              refine steps_cons ?_ ?_
              · rintro b a w' ⟨ha, Q_B0, Q_FIN⟩ hb_ hon hoff
                refine ⟨_, rfl, fun K hK => ?_⟩
                have e62 : a.tmps[62]? = some (.pointer (some ⟨L.gn, n, none⟩)) := by rw [ha]; exact putSel_on (e := (6, 62, .pointer (some ⟨L.gn, n, none⟩))) 6 rfl rfl (hon 6 (by kernel_rfl)) rfl
                replace ha := Aside0.mk ha
                have B0 := Aside0.mk (Q_B0 (hoff 10 (by kernel_rfl)))
                have c_ := (H11.out.below B0.out).nx.cell HNC.out
                refine value_ (w1 := w') (v := .int .i64 pg) (by rfl) rfl ?_ ?_
                · go_simp
                  (try simp only [i64_w])
                  try rfl
                refine hK.out _ _ ⟨(by rw [ha.out]; exact putSel_upk 7 hb_ rfl rfl rfl), Q_B0, fun h0_ => absurd ((hoff 10 (by kernel_rfl)).symm.trans h0_) (by decide)⟩
              refine steps_cons ?_ ?_
              · rintro b a w' ⟨ha, Q_B0, Q_FIN⟩ hb_ hon hoff
                refine ⟨_, rfl, fun K hK => ?_⟩
                have e63 : a.tmps[63]? = some (.int .i64 pg) := by rw [ha]; exact putSel_on (e := (7, 63, .int .i64 pg)) 7 rfl rfl (hon 7 (by kernel_rfl)) rfl
                replace ha := Aside0.mk ha
                have B0 := Aside0.mk (Q_B0 (hoff 10 (by kernel_rfl)))
                have q_ := HWP.out
                refine value_ (w1 := w') (v := .int .i64 (pg + 1)) (by rfl) rfl ?_ ?_
                · go_simp
                  (try simp only [i64_w])
                  try rfl
                refine hK.out _ _ ⟨(by rw [ha.out]; exact putSel_upk 8 hb_ rfl rfl rfl), Q_B0, fun h0_ => absurd ((hoff 10 (by kernel_rfl)).symm.trans h0_) (by decide)⟩
              refine steps_cons ?_ ?_
              · rintro b a w' ⟨ha, Q_B0, Q_FIN⟩ hb_ hon hoff
                refine ⟨_, rfl, fun K hK => ?_⟩
                have e59 : a.tmps[59]? = some (.slice (some ⟨L.gn, 0, none⟩) D.next.length L.cn) := by rw [ha]; exact putSel_on (e := (3, 59, .slice (some ⟨L.gn, 0, none⟩) D.next.length L.cn)) 3 rfl rfl (hon 3 (by kernel_rfl)) rfl
                have e61 : a.tmps[61]? = some (.int .i64 (n : Int)) := by rw [ha]; exact putSel_on (e := (5, 61, .int .i64 (n : Int))) 5 rfl rfl (hon 5 (by kernel_rfl)) rfl
                replace ha := Aside0.mk ha
                have B0 := Aside0.mk (Q_B0 (hoff 10 (by kernel_rfl)))
                have p_ := HQ2.out.1
                have q_ := HQ2.out.2
                refine value_ (w1 := w') (v := .pointer (some ⟨L.gn, n, none⟩)) (by rfl) rfl ?_ ?_
                · go_simp
                  (try simp only [i64_w])
                  try rfl
                refine hK.out _ _ ⟨(by rw [ha.out]; exact putSel_upk 9 hb_ rfl rfl rfl), Q_B0, fun h0_ => absurd ((hoff 10 (by kernel_rfl)).symm.trans h0_) (by decide)⟩
              refine steps_cons ?_ ?_
              · rintro b a w' ⟨ha, Q_B0, Q_FIN⟩ hb_ hon hoff
                refine ⟨_, rfl, fun K hK => ?_⟩
                have e65 : a.tmps[65]? = some (.pointer (some ⟨L.gn, n, none⟩)) := by rw [ha]; exact putSel_on (e := (9, 65, .pointer (some ⟨L.gn, n, none⟩))) 9 rfl rfl (hon 9 (by kernel_rfl)) rfl
                have e64 : a.tmps[64]? = some (.int .i64 (pg + 1)) := by rw [ha]; exact putSel_on (e := (8, 64, .int .i64 (pg + 1))) 8 rfl rfl (hon 8 (by kernel_rfl)) rfl
                replace ha := Aside0.mk ha
                have B0 := Aside0.mk (Q_B0 hb_)
                have c_ := (H11.out.below B0.out).nx.cell HNC.out
                have fr_ := (H11.out.below B0.out).nx.frozen n
                refine skip_ (w1 := ?_) (by rfl) rfl ?_ ?_
                rotate_left
                · go_simp
                  rfl
                refine hK.out _ _ ⟨(by rw [ha.out]; exact putSel_none (v := undef) rfl), fun h0_ => absurd ((up_self b 10).symm.trans h0_) (by decide), fun _ => ⟨(H11.out.below B0.out).set_next n (pg + 1) HNXR.out, (Turn.of_below B0.out L.S).setCell (p := ⟨L.gn, n, none⟩) (.inl (.inr (.inr (.inl rfl)))) _⟩⟩
              exact steps_nil
            rintro b a w12 hall ⟨ha, Q_B0, Q_FIN⟩
            clear B0
            have hb0_ := hall 0 (by kernel_rfl)
            have hb1_ := hall 1 (by kernel_rfl)
            have hb2_ := hall 2 (by kernel_rfl)
            have hb3_ := hall 3 (by kernel_rfl)
            have hb4_ := hall 4 (by kernel_rfl)
            have hb5_ := hall 5 (by kernel_rfl)
            have hb6_ := hall 6 (by kernel_rfl)
            have hb7_ := hall 7 (by kernel_rfl)
            have hb8_ := hall 8 (by kernel_rfl)
            have hb9_ := hall 9 (by kernel_rfl)
            have hb10_ := hall 10 (by kernel_rfl)
            subst ha
            simp only [putSel, hb0_, hb1_, hb2_, hb3_, hb4_, hb5_, hb6_, hb7_, hb8_, hb9_, hb10_, if_true, Act.put, List.setIfInBounds_toArray, List.set_cons_zero, List.set_cons_succ]
            clear Q_B0
            have FIN := Aside0.mk (Q_FIN hb10_)
            clear Q_FIN
            clear hall hb0_ hb1_ hb2_ hb3_ hb4_ hb5_ hb6_ hb7_ hb8_ hb9_ hb10_
            -- R12 end
            have T12 := Aside0.mk (T11.out.trans FIN.out.2 (fun k hk => .inl hk))
            have Z5_12 := Aside0.mk (blk_turn Z5_11.out FIN.out.2 HNS.out.2.1)
            have Z10_12 := Aside0.mk (blk_turn Z10_11.out FIN.out.2 HNS.out.2.2)
            have hnn := newer_no (W9 := w9) H00.out HB9.out.size
            have F12 := Aside0.mk (F_turn F11.out FIN.out.2 (fun k hk _ => hnn k hk))
            have GL12 := Aside0.mk (Kd.F_now (F_turn HLL.out.2.2.1 T12.out HLL.out.2.2.2))
            have hpo := page_ok H00.out.ok HI.out.2
            have hmo := fault_mask H00.out.ok
            rw [← HM.out] at hmo
            have H12 := Aside0.mk FIN.out.1
            have HCH := Aside0.mk (change_calls FIN.out.1 i HI.out.2 70 _ #[.pointer (some ⟨g5, 0, none⟩), .pointer (some ⟨g10, 0, none⟩)] Try.func70 (by kernel_rfl) rfl (progRow (D.pages.getD i []) l m) (progRow_ok hpo.1 hpo.2)
              (fun W' hW A' c' hc' hC' => prog1_calls (blk_below Z5_12.out hW) (blk_below Z10_12.out hW) ⟨HLL.out.2.1, HLL.out.1⟩ ⟨hmo.1, HC3.out⟩ hpo hc' (Kd.C_below GL12.out hW) (Kd.C_below (Kd.F_now F12.out) hW) hC' ok))
            clear FIN H11 T11 F11 Z4_11 Z5_11 Z10_11 hnn hpo hmo
            go_upto_region 14 with (go_at_call 65; refine HCH.out.mono ?_; rintro e w13 ⟨rfl, hD13, hT13⟩; have H13 := Aside0.mk hD13; have T13 := Aside0.mk (T12.out.trans hT13 (fun k hk => .inl hk)); clear hD13 hT13)
            have HEN := Aside0.mk (end_calls H13.out HD0.out D.fault.1 (fault_kind D))
            go_wp2_with (go_at_call 68; refine HEN.out.mono ?_; rintro e w14 ⟨rfl, hD14, hT14⟩; have H14 := Aside0.mk hD14; have T14 := Aside0.mk (T13.out.trans hT14 (fun k hk => .inl hk)); clear hD14 hT14)
            go_ret
            rw [HR1.out]
            have hE : D.progD (n : Int) pg l = { D.bump with next := D.next.set n (pg + 1), pages := D.pages.set i (progRow (D.pages.getD i []) l m), down := D.fault.1 == 2 } := by unfold Dv.progD; rw [← HI.out.1, ← HM.out]; rfl
            refine ⟨rfl, ?_, T14.out⟩
            show DV w14 (newer W ok) L (D.progD (n : Int) pg l)
            rw [hE]
            exact H14.out.newer2 H00.out (newer_le T12.out.size)
end Go.Proofs.Ytnchdmidaigheaa.ND
