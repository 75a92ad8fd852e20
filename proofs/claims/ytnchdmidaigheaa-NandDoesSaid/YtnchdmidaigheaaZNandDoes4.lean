/- Parts of the proof of the statement NandDoes, laid together (5 of 7). -/
import Derived.Deep.Upon
import Derived.Test.YtnchdmidaigheaaZNandDoes3
namespace Go.Proofs.Ytnchdmidaigheaa.ND
set_option linter.unusedVariables false
set_option linter.unusedSimpArgs false
open Go.RowKit Go.Proofs.Ytnchdmidaigheaa.Hp Go.Proofs.YtnchdmidaigheaaW.PrintWords Go.Proofs.YtnchdmidaigheaaW.PrintLast Go.Proofs.YtnchdmidaigheaaW.PrintMore
def xer8.T8 : Bool × List (List Nat × List Nat) := (true, [([], []), ([0], [0]), ([1], [1]), ([2], [2]), ([], []), ([], []), ([5], [5]), ([6], [6]), ([7], [7]), ([], []), ([8, 9], [8, 9]), ([10], [10]), ([11], [11]), ([3, 4, 0, 1, 2, 3, 4, 5, 6, 7, 8, 9, 10, 11, 12], [3, 4]), ([13, 12, 0, 1, 2, 3, 4, 5, 6, 7, 8, 9, 10, 11, 12], [12, 13])])
def xer8.B8 : List Nat := [0, 1, 3, 7, 0, 0, 32, 96, 224, 0, 992, 2016, 4064, 8191, 16383]
theorem xer8.tab8 : rtab .any (opsOf Try.f26 8) = xer8.T8 := by kernel_rfl
theorem xer8.bits8 : waitsOk xer8.T8.2 xer8.B8 = true := by kernel_rfl
def xer11.T11 : Bool × List (List Nat × List Nat) := (true, [([], []), ([0], [0]), ([1], [1]), ([2], [2]), ([], []), ([], []), ([5], [5]), ([6], [6]), ([7], [7]), ([8], [8]), ([3, 4, 0, 1, 2, 3, 4, 5, 6, 7, 8, 9], [3, 4]), ([10, 9, 0, 1, 2, 3, 4, 5, 6, 7, 8, 9], [9, 10])])
def xer11.B11 : List Nat := [0, 1, 3, 7, 0, 0, 32, 96, 224, 480, 1023, 2047]
theorem xer11.tab11 : rtab .any (opsOf Try.f26 11) = xer11.T11 := by kernel_rfl
theorem xer11.bits11 : waitsOk xer11.T11.2 xer11.B11 = true := by kernel_rfl
def xer15.T15 : Bool × List (List Nat × List Nat) := (true, [([], []), ([0], [0]), ([1], [1]), ([2], [2]), ([], []), ([], []), ([5], [5]), ([6], [6]), ([7], [7]), ([], []), ([8, 9], [8, 9]), ([10], [10]), ([11], [11]), ([], []), ([12, 13], [12, 13]), ([14], [14]), ([3, 4, 0, 1, 2, 3, 4, 5, 6, 7, 8, 9, 10, 11, 12, 13, 14, 15], [3, 4]), ([16, 15, 14, 0, 1, 2, 3, 4, 5, 6, 7, 8, 9, 10, 11, 12, 13, 14, 15], [15, 16])])
def xer15.B15 : List Nat := [0, 1, 3, 7, 0, 0, 32, 96, 224, 0, 992, 2016, 4064, 0, 16352, 32736, 65535, 131071]
theorem xer15.tab15 : rtab .any (opsOf Try.f26 15) = xer15.T15 := by kernel_rfl
theorem xer15.bits15 : waitsOk xer15.T15.2 xer15.B15 = true := by kernel_rfl
set_option maxHeartbeats 4000000 in
set_option maxRecDepth 100000 in
theorem xerase_calls {W : World} {ok : Nat → Prop} {L : XLay} {D : Dv} (h : XV W ok L D) (bk : Int) :
    Calls Try.prog 26 #[.pointer (some ⟨L.g, 0, none⟩), .int .i64 bk] W fun e w' => e = .returned (.int .i64 (D.erase bk).1) ∧ XV w' ok L (D.erase bk).2 ∧ Turn W w' L.S := by
  have H00 := Aside0.mk h
  obtain ⟨r, hr⟩ : ∃ r, r = D.erase bk := ⟨_, rfl⟩
  rw [← hr]
  have HRR := Aside0.mk hr
  have c9 := (xtop_cells h).2.2.2.2.2.2.2.2.2
  have c0 := (xtop_cells h).1
  clear hr h
  cases hd : D.down with
  | true =>
    rw [hd] at c9
    have HR1 : Aside0 (r = (9, D)) := ⟨by rw [HRR.out]; unfold Dv.erase; rw [if_pos hd]⟩
    clear hd
    go_enter Try.func26, Try.ntmps26
    go_wp2_with fail
    go_ret
    rw [HR1.out]
    exact ⟨rfl, H00.out, Turn.refl _ _⟩
  | false =>
    rw [hd] at c9
    have HD0 := Aside0.mk hd
    clear hd
    by_cases hh : D.there bk = true
    case neg =>
      have hh' : D.there bk = false := by simpa using hh
      have HR1 : Aside0 (r = (3, D)) := ⟨by rw [HRR.out]; unfold Dv.erase; rw [if_neg (by rw [HD0.out]; decide), if_pos hh']⟩
      have hno : ¬ (0 ≤ bk ∧ bk < D.B) := fun h => hh (there_iff.2 h)
      clear hh hh'
      by_cases h0 : bk < 0
      case pos =>
        have t3 : decide (bk < 0) = true := decide_eq_true h0
        clear h0 hno
        go_enter Try.func26, Try.ntmps26
        go_wp2_with fail
        go_ret
        rw [HR1.out]
        exact ⟨rfl, H00.out, Turn.refl _ _⟩
      case neg =>
        have t3 : decide (bk < 0) = false := decide_eq_false h0
        have t4 : decide (bk ≥ D.B) = true := decide_eq_true (by omega)
        clear h0 hno
        go_enter Try.func26, Try.ntmps26
        go_wp2_with fail
        go_ret
        rw [HR1.out]
        exact ⟨rfl, H00.out, Turn.refl _ _⟩
    case pos =>
      obtain ⟨h1, h2⟩ := there_iff.1 hh
      obtain ⟨n, rfl⟩ := Int.eq_ofNat_of_zero_le h1
      have HHH := Aside0.mk hh
      have HN := Aside0.mk h2
      have t3 : decide ((n : Int) < 0) = false := decide_eq_false (by omega)
      have t4 : decide ((n : Int) ≥ D.B) = false := decide_eq_false (by omega)
      have t5 : decide (D.B ≤ (n : Int)) = false := decide_eq_false (by omega)
      obtain ⟨bm, hbm⟩ : ∃ x, x = D.mark (n : Int) := ⟨_, rfl⟩
      have HBM := Aside0.mk hbm
      have HHS : Aside0 (Calls Try.prog 44 #[.slice L.Am D.bad.length L.cm, .int .i64 (n : Int)] W fun e w' => e = .returned (.bool bm) ∧ Below W.heap.size W w') := ⟨by rw [hbm]; exact has_calls (n : Int) (Kd.F_now H00.out.mb.1) H00.out.mb.2 (by have := H00.out.ok.bl; omega)⟩
      have c3 := (xtop_cells H00.out).2.2.2.1
      clear hh h1 h2 hbm
      go_enter Try.func26, Try.ntmps26
      cases bm with
      | true =>
        have HR1 : Aside0 (r = (12, D)) := ⟨by rw [HRR.out]; unfold Dv.erase; rw [if_neg (by rw [HD0.out]; decide), if_neg (by rw [HHH.out]; decide), if_pos HBM.out.symm]⟩
        go_wp2_with (go_at_call 44; refine HHS.out.mono ?_; rintro e w5 ⟨rfl, hb⟩; have HB5 := Aside0.mk hb; clear hb)
        go_ret
        rw [HR1.out]
        exact ⟨rfl, H00.out.below HB5.out, Turn.of_below HB5.out _⟩
      | false =>
        have HR1 : Aside0 (r = (ended D.fault.1, D.eraseD (n : Int))) := ⟨by rw [HRR.out]; unfold Dv.erase; rw [if_neg (by rw [HD0.out]; decide), if_neg (by rw [HHH.out]; decide), if_neg (by rw [← HBM.out]; decide)]⟩
        go_upto_region 7 with (go_at_call 44; refine HHS.out.mono ?_; rintro e w5 ⟨rfl, hb⟩; have HB5 := Aside0.mk hb; clear hb)
        have H5 := Aside0.mk (H00.out.below HB5.out)
        have HBG := Aside0.mk (xfault_calls H5.out)
        obtain ⟨kd, hkd⟩ : ∃ x, x = D.fault.1 := ⟨_, rfl⟩
        obtain ⟨m, hm⟩ : ∃ m, m = D.fault.2 := ⟨_, rfl⟩
        rw [← hkd, ← hm] at HBG
        have HKD := Aside0.mk hkd
        have HM := Aside0.mk hm
        clear hkd hm c3 c0 c9 t3 t4 t5 HHS
        go_upto_region 8 with (go_at_call 75; refine HBG.out.mono ?_; rintro e w10 ⟨A3, c3, rfl, hc3, hF3, hD3, hT3⟩; have HE3 := Aside0.mk (And.intro hc3 (And.intro hF3 (And.intro hD3 hT3))); clear hc3 hF3 hD3 hT3)
        have H11 := Aside0.mk HE3.out.2.2.1
        have T11 := Aside0.mk ((Turn.of_below HB5.out L.S).trans HE3.out.2.2.2 (fun k hk => .inl hk))
        have F11 := Aside0.mk (Kd.F_mono HE3.out.2.1 (newer_le HB5.out.size))
        have HC3 := Aside0.mk HE3.out.1
        have HNN : Aside0 (∀ k, newer W ok k → ¬ L.S k) := ⟨fun k hk hS => hk.elim (fun hk => H00.out.no k hk (H00.out.lt k hS) hS) (fun hk => by have := H00.out.lt k hS; omega)⟩
        clear HBG HE3 H5
        obtain ⟨wv, hwv⟩ : ∃ x, x = D.wear.getD n 0 := ⟨_, rfl⟩
        have HWV := Aside0.mk hwv
        have HWC : Aside0 ((D.wear.map (Value.int .i64))[n]? = some (.int .i64 wv)) := ⟨by rw [hwv]; exact ints_at (by have := H00.out.ok.wl; have := HN.out; omega)⟩
        have HQW := Aside0.mk (And.intro (eq_true (show (0 : Int) ≤ (n : Int) by omega)) (eq_true (show (n : Int) < ((D.wear.length : Nat) : Int) by have := H00.out.ok.wl; have := HN.out; omega)))
        have HWR' := Aside0.mk (wrap_range (wv + 1))
        have B0 := Aside0.mk (below_drew1 (Below.refl w10.heap.size w10))
        clear hwv
        refine start_ (n := 15) (S := fun w' => True) (ds := []) #[false, false, false, false, false, false, false, false, false, false, false, false, false, false, false] (by kernel_rfl) rfl rfl trivial (fun hHeld => ?_)
        refine with_tabW xer8.tab8 xer8.bits8 (fun HT_ HW_ => ?_)
        generalize w10.drew = wq at B0 hHeld ⊢
        refine inv_at [0, 1, 2, 3, 4, 5, 6, 7, 8, 9, 10, 11, 12, 13, 14] (fun a0_ b a w' => a = putSel a0_ b [(0, 34, .pointer (some ⟨L.g, 0, none⟩)), (1, 35, .pointer (some ⟨L.g, 0, none⟩)), (2, 36, .pointer (some ⟨L.g, 6, none⟩)), (3, 37, .slice (some ⟨L.gw, 0, none⟩) D.wear.length L.cw), (4, 38, .int .i64 (n : Int)), (5, 39, .pointer (some ⟨L.g, 0, none⟩)), (6, 40, .pointer (some ⟨L.g, 0, none⟩)), (7, 41, .pointer (some ⟨L.g, 6, none⟩)), (8, 42, .slice (some ⟨L.gw, 0, none⟩) D.wear.length L.cw), (9, 43, .int .i64 (n : Int)), (10, 44, .pointer (some ⟨L.gw, n, none⟩)), (11, 45, .int .i64 wv), (12, 46, .int .i64 (wrap64 (wv + 1))), (13, 47, .pointer (some ⟨L.gw, n, none⟩))] ∧ (b 14 = false → Below w10.heap.size w10 w') ∧ (b 14 = true → XV w' ok L { D with ops := wrap64 (D.ops + 1), wear := D.wear.set n (wrap64 (wv + 1)) } ∧ Turn w10 w' L.S)) HT_.out HW_.out (by kernel_rfl) (by kernel_rfl) ?_ ?_ ?_
        · exact ⟨by simp only [putSel, Bool.false_eq_true, if_false], fun _ => B0.out, fun h_ => absurd h_ (by decide)⟩
        · skip
          clear B0
          refine steps_cons ?_ ?_
          · rintro b a w' ⟨ha, Q_B0, Q_FIN⟩ hb_ hon hoff
            refine ⟨_, rfl, fun K hK => ?_⟩
            have e0 : a.tmps[0]? = some (.pointer (some ⟨L.g, 0, none⟩)) := by rw [ha]; exact (putSel_off rfl).trans rfl
            replace ha := Aside0.mk ha
            have B0 := Aside0.mk (Q_B0 (hoff 14 (by kernel_rfl)))
            refine value_ (w1 := w') (v := .pointer (some ⟨L.g, 0, none⟩)) (by rfl) rfl ?_ ?_
            · go_simp
              (try simp only [i64_w])
              try rfl
            refine hK.out _ _ ⟨(by rw [ha.out]; exact putSel_upk 0 hb_ rfl rfl rfl), Q_B0, fun h0_ => absurd ((hoff 14 (by kernel_rfl)).symm.trans h0_) (by decide)⟩
          refine steps_cons ?_ ?_
          · rintro b a w' ⟨ha, Q_B0, Q_FIN⟩ hb_ hon hoff
            refine ⟨_, rfl, fun K hK => ?_⟩
            have e34 : a.tmps[34]? = some (.pointer (some ⟨L.g, 0, none⟩)) := by rw [ha]; exact putSel_on (e := (0, 34, .pointer (some ⟨L.g, 0, none⟩))) 0 rfl rfl (hon 0 (by kernel_rfl)) rfl
            replace ha := Aside0.mk ha
            have B0 := Aside0.mk (Q_B0 (hoff 14 (by kernel_rfl)))
            refine value_ (w1 := w') (v := .pointer (some ⟨L.g, 0, none⟩)) (by rfl) rfl ?_ ?_
            · go_simp
              (try simp only [i64_w])
              try rfl
            refine hK.out _ _ ⟨(by rw [ha.out]; exact putSel_upk 1 hb_ rfl rfl rfl), Q_B0, fun h0_ => absurd ((hoff 14 (by kernel_rfl)).symm.trans h0_) (by decide)⟩
          refine steps_cons ?_ ?_
          · rintro b a w' ⟨ha, Q_B0, Q_FIN⟩ hb_ hon hoff
            refine ⟨_, rfl, fun K hK => ?_⟩
            have e35 : a.tmps[35]? = some (.pointer (some ⟨L.g, 0, none⟩)) := by rw [ha]; exact putSel_on (e := (1, 35, .pointer (some ⟨L.g, 0, none⟩))) 1 rfl rfl (hon 1 (by kernel_rfl)) rfl
            replace ha := Aside0.mk ha
            have B0 := Aside0.mk (Q_B0 (hoff 14 (by kernel_rfl)))
            refine value_ (w1 := w') (v := .pointer (some ⟨L.g, 6, none⟩)) (by rfl) rfl ?_ ?_
            · go_simp
              (try simp only [i64_w])
              try rfl
            refine hK.out _ _ ⟨(by rw [ha.out]; exact putSel_upk 2 hb_ rfl rfl rfl), Q_B0, fun h0_ => absurd ((hoff 14 (by kernel_rfl)).symm.trans h0_) (by decide)⟩
          refine steps_cons ?_ ?_
          · rintro b a w' ⟨ha, Q_B0, Q_FIN⟩ hb_ hon hoff
            refine ⟨_, rfl, fun K hK => ?_⟩
            have e36 : a.tmps[36]? = some (.pointer (some ⟨L.g, 6, none⟩)) := by rw [ha]; exact putSel_on (e := (2, 36, .pointer (some ⟨L.g, 6, none⟩))) 2 rfl rfl (hon 2 (by kernel_rfl)) rfl
            replace ha := Aside0.mk ha
            have B0 := Aside0.mk (Q_B0 (hoff 14 (by kernel_rfl)))
            have c_ := (xtop_cells (H11.out.below B0.out)).2.2.2.2.2.2.1
            refine value_ (w1 := w') (v := .slice (some ⟨L.gw, 0, none⟩) D.wear.length L.cw) (by rfl) rfl ?_ ?_
            · go_simp
              (try simp only [i64_w])
              try rfl
            refine hK.out _ _ ⟨(by rw [ha.out]; exact putSel_upk 3 hb_ rfl rfl rfl), Q_B0, fun h0_ => absurd ((hoff 14 (by kernel_rfl)).symm.trans h0_) (by decide)⟩
          refine steps_cons ?_ ?_
          · rintro b a w' ⟨ha, Q_B0, Q_FIN⟩ hb_ hon hoff
            refine ⟨_, rfl, fun K hK => ?_⟩
            have e1 : a.tmps[1]? = some (.int .i64 (n : Int)) := by rw [ha]; exact (putSel_off rfl).trans rfl
            replace ha := Aside0.mk ha
            have B0 := Aside0.mk (Q_B0 (hoff 14 (by kernel_rfl)))
            refine value_ (w1 := w') (v := .int .i64 (n : Int)) (by rfl) rfl ?_ ?_
            · go_simp
              (try simp only [i64_w])
              try rfl
            refine hK.out _ _ ⟨(by rw [ha.out]; exact putSel_upk 4 hb_ rfl rfl rfl), Q_B0, fun h0_ => absurd ((hoff 14 (by kernel_rfl)).symm.trans h0_) (by decide)⟩
          refine steps_cons ?_ ?_
          · rintro b a w' ⟨ha, Q_B0, Q_FIN⟩ hb_ hon hoff
            refine ⟨_, rfl, fun K hK => ?_⟩
            have e0 : a.tmps[0]? = some (.pointer (some ⟨L.g, 0, none⟩)) := by rw [ha]; exact (putSel_off rfl).trans rfl
            replace ha := Aside0.mk ha
            have B0 := Aside0.mk (Q_B0 (hoff 14 (by kernel_rfl)))
            refine value_ (w1 := w') (v := .pointer (some ⟨L.g, 0, none⟩)) (by rfl) rfl ?_ ?_
            · go_simp
              (try simp only [i64_w])
              try rfl
            refine hK.out _ _ ⟨(by rw [ha.out]; exact putSel_upk 5 hb_ rfl rfl rfl), Q_B0, fun h0_ => absurd ((hoff 14 (by kernel_rfl)).symm.trans h0_) (by decide)⟩
          refine steps_cons ?_ ?_
          · rintro b a w' ⟨ha, Q_B0, Q_FIN⟩ hb_ hon hoff
            refine ⟨_, rfl, fun K hK => ?_⟩
            have e39 : a.tmps[39]? = some (.pointer (some ⟨L.g, 0, none⟩)) := by rw [ha]; exact putSel_on (e := (5, 39, .pointer (some ⟨L.g, 0, none⟩))) 5 rfl rfl (hon 5 (by kernel_rfl)) rfl
            replace ha := Aside0.mk ha
            have B0 := Aside0.mk (Q_B0 (hoff 14 (by kernel_rfl)))
            refine value_ (w1 := w') (v := .pointer (some ⟨L.g, 0, none⟩)) (by rfl) rfl ?_ ?_
            · go_simp
              (try simp only [i64_w])
              try rfl
            refine hK.out _ _ ⟨(by rw [ha.out]; exact putSel_upk 6 hb_ rfl rfl rfl), Q_B0, fun h0_ => absurd ((hoff 14 (by kernel_rfl)).symm.trans h0_) (by decide)⟩
          refine steps_cons ?_ ?_
          · rintro b a w' ⟨ha, Q_B0, Q_FIN⟩ hb_ hon hoff
            refine ⟨_, rfl, fun K hK => ?_⟩
            have e40 : a.tmps[40]? = some (.pointer (some ⟨L.g, 0, none⟩)) := by rw [ha]; exact putSel_on (e := (6, 40, .pointer (some ⟨L.g, 0, none⟩))) 6 rfl rfl (hon 6 (by kernel_rfl)) rfl
            replace ha := Aside0.mk ha
            have B0 := Aside0.mk (Q_B0 (hoff 14 (by kernel_rfl)))
            refine value_ (w1 := w') (v := .pointer (some ⟨L.g, 6, none⟩)) (by rfl) rfl ?_ ?_
            · go_simp
              (try simp only [i64_w])
              try rfl
            refine hK.out _ _ ⟨(by rw [ha.out]; exact putSel_upk 7 hb_ rfl rfl rfl), Q_B0, fun h0_ => absurd ((hoff 14 (by kernel_rfl)).symm.trans h0_) (by decide)⟩
          refine steps_cons ?_ ?_
          · rintro b a w' ⟨ha, Q_B0, Q_FIN⟩ hb_ hon hoff
            refine ⟨_, rfl, fun K hK => ?_⟩
            have e41 : a.tmps[41]? = some (.pointer (some ⟨L.g, 6, none⟩)) := by rw [ha]; exact putSel_on (e := (7, 41, .pointer (some ⟨L.g, 6, none⟩))) 7 rfl rfl (hon 7 (by kernel_rfl)) rfl
            replace ha := Aside0.mk ha
            have B0 := Aside0.mk (Q_B0 (hoff 14 (by kernel_rfl)))
            have c_ := (xtop_cells (H11.out.below B0.out)).2.2.2.2.2.2.1
            refine value_ (w1 := w') (v := .slice (some ⟨L.gw, 0, none⟩) D.wear.length L.cw) (by rfl) rfl ?_ ?_
            · go_simp
              (try simp only [i64_w])
              try rfl
            refine hK.out _ _ ⟨(by rw [ha.out]; exact putSel_upk 8 hb_ rfl rfl rfl), Q_B0, fun h0_ => absurd ((hoff 14 (by kernel_rfl)).symm.trans h0_) (by decide)⟩
          refine steps_cons ?_ ?_
          · rintro b a w' ⟨ha, Q_B0, Q_FIN⟩ hb_ hon hoff
            refine ⟨_, rfl, fun K hK => ?_⟩
            have e1 : a.tmps[1]? = some (.int .i64 (n : Int)) := by rw [ha]; exact (putSel_off rfl).trans rfl
            replace ha := Aside0.mk ha
            have B0 := Aside0.mk (Q_B0 (hoff 14 (by kernel_rfl)))
            refine value_ (w1 := w') (v := .int .i64 (n : Int)) (by rfl) rfl ?_ ?_
            · go_simp
              (try simp only [i64_w])
              try rfl
            refine hK.out _ _ ⟨(by rw [ha.out]; exact putSel_upk 9 hb_ rfl rfl rfl), Q_B0, fun h0_ => absurd ((hoff 14 (by kernel_rfl)).symm.trans h0_) (by decide)⟩
          refine steps_cons ?_ ?_
          · rintro b a w' ⟨ha, Q_B0, Q_FIN⟩ hb_ hon hoff
            refine ⟨_, rfl, fun K hK => ?_⟩
            have e42 : a.tmps[42]? = some (.slice (some ⟨L.gw, 0, none⟩) D.wear.length L.cw) := by rw [ha]; exact putSel_on (e := (8, 42, .slice (some ⟨L.gw, 0, none⟩) D.wear.length L.cw)) 8 rfl rfl (hon 8 (by kernel_rfl)) rfl
            have e43 : a.tmps[43]? = some (.int .i64 (n : Int)) := by rw [ha]; exact putSel_on (e := (9, 43, .int .i64 (n : Int))) 9 rfl rfl (hon 9 (by kernel_rfl)) rfl
            replace ha := Aside0.mk ha
            have B0 := Aside0.mk (Q_B0 (hoff 14 (by kernel_rfl)))
            have p_ := HQW.out.1
            have q_ := HQW.out.2
            refine value_ (w1 := w') (v := .pointer (some ⟨L.gw, n, none⟩)) (by rfl) rfl ?_ ?_
            · go_simp
              (try simp only [i64_w])
              try rfl
            refine hK.out _ _ ⟨(by rw [ha.out]; exact putSel_upk 10 hb_ rfl rfl rfl), Q_B0, fun h0_ => absurd ((hoff 14 (by kernel_rfl)).symm.trans h0_) (by decide)⟩
          refine steps_cons ?_ ?_
          · rintro b a w' ⟨ha, Q_B0, Q_FIN⟩ hb_ hon hoff
            refine ⟨_, rfl, fun K hK => ?_⟩
            have e44 : a.tmps[44]? = some (.pointer (some ⟨L.gw, n, none⟩)) := by rw [ha]; exact putSel_on (e := (10, 44, .pointer (some ⟨L.gw, n, none⟩))) 10 rfl rfl (hon 10 (by kernel_rfl)) rfl
            replace ha := Aside0.mk ha
            have B0 := Aside0.mk (Q_B0 (hoff 14 (by kernel_rfl)))
            have c_ := (H11.out.below B0.out).we.cell HWC.out
            refine value_ (w1 := w') (v := .int .i64 wv) (by rfl) rfl ?_ ?_
            · go_simp
              (try simp only [i64_w])
              try rfl
            refine hK.out _ _ ⟨(by rw [ha.out]; exact putSel_upk 11 hb_ rfl rfl rfl), Q_B0, fun h0_ => absurd ((hoff 14 (by kernel_rfl)).symm.trans h0_) (by decide)⟩
          refine steps_cons ?_ ?_
          · rintro b a w' ⟨ha, Q_B0, Q_FIN⟩ hb_ hon hoff
            refine ⟨_, rfl, fun K hK => ?_⟩
            have e45 : a.tmps[45]? = some (.int .i64 wv) := by rw [ha]; exact putSel_on (e := (11, 45, .int .i64 wv)) 11 rfl rfl (hon 11 (by kernel_rfl)) rfl
            replace ha := Aside0.mk ha
            have B0 := Aside0.mk (Q_B0 (hoff 14 (by kernel_rfl)))
            refine value_ (w1 := w') (v := .int .i64 (wrap64 (wv + 1))) (by rfl) rfl ?_ ?_
            · go_simp
              (try simp only [i64_w])
              try rfl
            refine hK.out _ _ ⟨(by rw [ha.out]; exact putSel_upk 12 hb_ rfl rfl rfl), Q_B0, fun h0_ => absurd ((hoff 14 (by kernel_rfl)).symm.trans h0_) (by decide)⟩
          refine steps_cons ?_ ?_
          · rintro b a w' ⟨ha, Q_B0, Q_FIN⟩ hb_ hon hoff
            refine ⟨_, rfl, fun K hK => ?_⟩
            have e37 : a.tmps[37]? = some (.slice (some ⟨L.gw, 0, none⟩) D.wear.length L.cw) := by rw [ha]; exact putSel_on (e := (3, 37, .slice (some ⟨L.gw, 0, none⟩) D.wear.length L.cw)) 3 rfl rfl (hon 3 (by kernel_rfl)) rfl
            have e38 : a.tmps[38]? = some (.int .i64 (n : Int)) := by rw [ha]; exact putSel_on (e := (4, 38, .int .i64 (n : Int))) 4 rfl rfl (hon 4 (by kernel_rfl)) rfl
            replace ha := Aside0.mk ha
            have B0 := Aside0.mk (Q_B0 (hoff 14 (by kernel_rfl)))
            have p_ := HQW.out.1
            have q_ := HQW.out.2
            refine value_ (w1 := w') (v := .pointer (some ⟨L.gw, n, none⟩)) (by rfl) rfl ?_ ?_
            · go_simp
              (try simp only [i64_w])
              try rfl
            refine hK.out _ _ ⟨(by rw [ha.out]; exact putSel_upk 13 hb_ rfl rfl rfl), Q_B0, fun h0_ => absurd ((hoff 14 (by kernel_rfl)).symm.trans h0_) (by decide)⟩
          refine steps_cons ?_ ?_
          · rintro b a w' ⟨ha, Q_B0, Q_FIN⟩ hb_ hon hoff
            refine ⟨_, rfl, fun K hK => ?_⟩
            have e47 : a.tmps[47]? = some (.pointer (some ⟨L.gw, n, none⟩)) := by rw [ha]; exact putSel_on (e := (13, 47, .pointer (some ⟨L.gw, n, none⟩))) 13 rfl rfl (hon 13 (by kernel_rfl)) rfl
            have e46 : a.tmps[46]? = some (.int .i64 (wrap64 (wv + 1))) := by rw [ha]; exact putSel_on (e := (12, 46, .int .i64 (wrap64 (wv + 1)))) 12 rfl rfl (hon 12 (by kernel_rfl)) rfl
            replace ha := Aside0.mk ha
            have B0 := Aside0.mk (Q_B0 hb_)
            have c_ := (H11.out.below B0.out).we.cell HWC.out
            have fr_ := (H11.out.below B0.out).we.frozen n
            refine skip_ (w1 := ?_) (by rfl) rfl ?_ ?_
            rotate_left
            · go_simp
              rfl
            refine hK.out _ _ ⟨(by rw [ha.out]; exact putSel_none (v := undef) rfl), fun h0_ => absurd ((up_self b 14).symm.trans h0_) (by decide), fun _ => ⟨(H11.out.below B0.out).set_wear n (wrap64 (wv + 1)) HWR'.out, (Turn.of_below B0.out L.S).setCell (p := ⟨L.gw, n, none⟩) (.inl (.inr (.inr (.inr rfl)))) _⟩⟩
          exact steps_nil
        rintro b a w11 hall ⟨ha, Q_B0, Q_FIN⟩
        clear B0
        have hb0_ := hall 0 (by kernel_rfl)
        have hb1_ := hall 1 (by kernel_rfl)
        have hb2_ := hall 2 (by kernel_rfl)
        have hb3_ := hall 3 (by kernel_rfl)
        have hb4_ := hall 4 (by kernel_rfl)
        have hb5_ := hall 5 (by kernel_rfl)
        have hb6_ := hall 6 (by kernel_rfl)
        have hb7_ := hall 7 (by kernel_rfl)
        have hb8_ := hall 8 (by kernel_rfl)
        have hb9_ := hall 9 (by kernel_rfl)
        have hb10_ := hall 10 (by kernel_rfl)
        have hb11_ := hall 11 (by kernel_rfl)
        have hb12_ := hall 12 (by kernel_rfl)
        have hb13_ := hall 13 (by kernel_rfl)
        have hb14_ := hall 14 (by kernel_rfl)
        subst ha
        simp only [putSel, hb0_, hb1_, hb2_, hb3_, hb4_, hb5_, hb6_, hb7_, hb8_, hb9_, hb10_, hb11_, hb12_, hb13_, hb14_, if_true, Act.put, List.setIfInBounds_toArray, List.set_cons_zero, List.set_cons_succ]
        clear Q_B0
        have FIN := Aside0.mk (Q_FIN hb14_)
        clear Q_FIN
        clear hall hb0_ hb1_ hb2_ hb3_ hb4_ hb5_ hb6_ hb7_ hb8_ hb9_ hb10_ hb11_ hb12_ hb13_ hb14_
        obtain ⟨wr', hwr⟩ : ∃ x, x = D.wear.set n (wrap64 (wv + 1)) := ⟨_, rfl⟩
        have H12 : Aside0 (XV w11 ok L { D with ops := wrap64 (D.ops + 1), wear := wr' }) := ⟨by rw [hwr]; exact FIN.out.1⟩
        have HWR := Aside0.mk hwr
        have T12 := Aside0.mk (T11.out.trans FIN.out.2 (fun k hk => .inl hk))
        have F12 := Aside0.mk (F_turn F11.out FIN.out.2 (fun k hk _ => HNN.out k hk))
        have H13 := Aside0.mk (H12.out.set_next n 0 ⟨Int.le_refl _, by have := H00.out.ok.p1; show 0 ≤ D.P; omega⟩)
        have t13 := (Turn.refl w11 L.S).setCell (p := ⟨L.gn, n, none⟩) (.inl (.inr (.inr (.inl rfl)))) (.int .i64 0)
        have T13 := Aside0.mk (T12.out.trans t13 (fun k hk => .inl hk))
        have F13 := Aside0.mk (F_turn F12.out t13 (fun k hk _ => HNN.out k hk))
        have c5 := (xtop_cells H12.out).2.2.2.2.2.1
        have ce := H12.out.nx.cell (ints_at (l := D.next) (n := n) (by have := H00.out.ok.nl; have := HN.out; omega))
        have fe := H12.out.nx.frozen n
        have p1 := eq_true (show (0 : Int) ≤ (n : Int) by omega)
        have q1 := eq_true (show (n : Int) < ((D.next.length : Nat) : Int) by have := H00.out.ok.nl; have := HN.out; omega)
        clear hwr H11 T11 F11 FIN
        go_upto_region 10 with fail
        generalize w11.setCell ⟨L.gn, n, none⟩ (.int .i64 0) = W13 at H13 T13 F13 ⊢
        clear c5 ce fe p1 q1 t13 H12 T12 F12
        obtain ⟨Pn, hPn⟩ := Int.eq_ofNat_of_zero_le (show 0 ≤ D.P by have := H00.out.ok.p1; omega)
        have hmb := mul_lt_of (a := (n : Int)) (b := D.B) (p := 0) (P := D.P) (by omega) HN.out (Int.le_refl _) (by have := H00.out.ok.p1; omega)
        obtain ⟨i0, hi0⟩ := Int.eq_ofNat_of_zero_le (show 0 ≤ (n : Int) * D.P by omega)
        have hmb2 := mul_lt_of (a := (n : Int)) (b := D.B) (p := D.P - 1) (P := D.P) (by omega) HN.out (by have := H00.out.ok.p1; omega) (by omega)
        have HIX : Aside0 ((i0 : Int) = (n : Int) * D.P ∧ (Pn : Int) = D.P ∧ i0 + Pn ≤ D.pages.length ∧ Pn ≤ 32) := ⟨hi0.symm, hPn.symm, by have := H00.out.ok.pl; omega, by have := H00.out.ok.p2; omega⟩
        obtain ⟨i1, hi1⟩ : ∃ i1, i1 = i0 + Pn := ⟨_, rfl⟩
        have hI1 : ((n : Int) + 1) * D.P = (i1 : Int) := by rw [Int.add_mul, Int.one_mul, ← HIX.out.1, ← HIX.out.2.1]; omega
        have HWM : Aside0 ((IntKind.i64.wrap ((n : Int) * D.P) = (i0 : Int) ∧ wrap64 ((n : Int) * D.P) = (i0 : Int)) ∧ (IntKind.i64.wrap ((n : Int) + 1) = (n : Int) + 1 ∧ wrap64 ((n : Int) + 1) = (n : Int) + 1) ∧ (IntKind.i64.wrap (((n : Int) + 1) * D.P) = (i1 : Int) ∧ wrap64 (((n : Int) + 1) * D.P) = (i1 : Int))) := by
          have hs := H00.out.ok.size
          have hpl := H00.out.ok.pl
          have hx := HIX.out.2.2.1
          rw [hI1, hi0]
          exact ⟨wrap_id (by omega) (by omega), wrap_id (by omega) (by have := HN.out; have := H00.out.ok.b2; omega), wrap_id (by omega) (by omega)⟩
        have HI1 := Aside0.mk hi1
        clear hmb hmb2 hi0 hPn hI1 hi1
        by_cases hk0 : kd = 0
        case pos =>
          have tk : decide (kd > 0) = false := decide_eq_false (by omega)
          have tk' : decide (0 < kd) = false := decide_eq_false (by omega)
          have HK0 := Aside0.mk hk0
          clear hk0
          have H14 : Aside0 (XV W13 ok L { D with ops := wrap64 (D.ops + 1), wear := wr', next := D.next.set n 0 }) := H13
          obtain ⟨nx', hnx⟩ : ∃ x, x = D.next.set n 0 := ⟨_, rfl⟩
          rw [← hnx] at H14
          have HNX : Aside0 (nx' = D.next.set n (if D.fault.1 = 0 then 0 else D.P)) := ⟨by rw [if_pos (by rw [← HKD.out]; exact HK0.out)]; exact hnx⟩
          have T14 := T13
          have F14 := F13
          clear hnx H13 T13 F13
          go_upto_region 12 with fail
          clear tk tk'
          have c1 := (xtop_cells H14.out).2.1
          have hw1 := HWM.out.1.1
          have hw2 := HWM.out.1.2
          go_wp2_with fail
          clear c1 hw1 hw2
          go_loopg [7] (Pn + 1) (fun kq v7 w' => ∃ j k : Nat, v7 = .int .i64 (j : Int) ∧ Aside0 (j = i0 + k ∧ k ≤ Pn ∧ kq + k = Pn + 1) ∧ Aside0 (XV w' ok L { D with ops := wrap64 (D.ops + 1), wear := wr', next := nx', pages := wipedTo D.pages i0 m k }) ∧ Aside0 (Turn W13 w' L.S))
          case atStart => exact ⟨i0, 0, rfl, ⟨rfl, Nat.zero_le _, rfl⟩, ⟨by rw [wipedTo_zero]; exact H14.out⟩, ⟨Turn.refl _ _⟩⟩
          case round =>
            obtain ⟨j, k, rfl, HI, HD, HT⟩ := hrel
            have c1 := (xtop_cells HD.out).2.1
            have hw3 := HWM.out.2.1.1
            have hw4 := HWM.out.2.1.2
            have hw5 := HWM.out.2.2.1
            have hw6 := HWM.out.2.2.2
            by_cases hk : j < i1
            case neg =>
              have t1 : decide ((j : Int) < (i1 : Int)) = false := decide_eq_false (by omega)
              have t2 : decide (j < i1) = false := decide_eq_false hk
              have HKP : Aside0 (k = Pn) := ⟨by have := HI.out; have := HI1.out; omega⟩
              have HEN := Aside0.mk (xend_calls HD.out HD0.out kd (by rw [HKD.out]; exact fault_kind D))
              clear hk
              go_wp2_with (go_at_call 77; refine HEN.out.mono ?_; rintro e w18 ⟨rfl, hD18, hT18⟩; have H18 := Aside0.mk hD18; have T18 := Aside0.mk ((T14.out.trans HT.out (fun k hk => .inl hk)).trans hT18 (fun k hk => .inl hk)); clear hD18 hT18)
              go_ret
              rw [HR1.out]
              have hE : D.eraseD (n : Int) = { D with ops := wrap64 (D.ops + 1), wear := wr', next := nx', pages := wipedTo D.pages i0 m k, down := kd == 2 } := by
                unfold Dv.eraseD
                rw [HKP.out, wipedTo_all n i0 Pn m HIX.out.1 HIX.out.2.1, HWR.out, HWV.out, HNX.out, HM.out, HKD.out]
                rfl
              refine ⟨by rw [HKD.out]; rfl, ?_, T18.out⟩
              show XV w18 ok L (D.eraseD (n : Int))
              rw [hE]
              exact H18.out
            case pos =>
              have t1 : decide ((j : Int) < (i1 : Int)) = true := decide_eq_true (by omega)
              have t2 : decide (j < i1) = true := decide_eq_true hk
              have HKB : Aside0 (j < D.pages.length) := ⟨by have := HIX.out; have := HI1.out; omega⟩
              have HK2 : Aside0 (k < Pn) := ⟨by have := HI.out; have := HI1.out; omega⟩
              obtain ⟨hw7, hw8⟩ := wrap_id (x := (j : Int) + 1) (by omega) (by have := H00.out.ok.size; have := H00.out.ok.pl; have := HKB.out; omega)
              have hpo := page_ok H00.out.ok HKB.out
              have hmo := fault_mask H00.out.ok
              rw [← HM.out] at hmo
              obtain ⟨po, hpo'⟩ : ∃ x, x = D.pages.getD j [] := ⟨_, rfl⟩
              rw [← hpo'] at hpo
              obtain ⟨ps, hps⟩ : ∃ x, x = wipedTo D.pages i0 m k := ⟨_, rfl⟩
              have hpsl : ps.length = D.pages.length := by rw [hps]; exact wipedTo_len _ _ _ _
              have HDp : Aside0 (XV wr ok L { D with ops := wrap64 (D.ops + 1), wear := wr', next := nx', pages := ps }) := ⟨by rw [hps]; exact HD.out⟩
              obtain ⟨st, hst⟩ : ∃ x, x = strOfNums po := ⟨_, rfl⟩
              have HTX : Aside0 ((texts ps)[j]? = some (.string st)) := ⟨by rw [texts_at (by rw [hpsl]; exact HKB.out), hst, hpo', hps, HI.out.1, wipedTo_at]⟩
              have HKC : Aside0 (∀ W, (convert 9 38 (.string st)).run Try.prog W = .ok (.slice (some ⟨W.heap.size, 0, none⟩) 256 (grownCap W 256 0 5)) (Lib.bytesWorld W 5 st)) := ⟨fun W => by have := print_bytes (P := Try.prog) 9 38 5 Try.underlying9 Try.underlying38 Try.underlying5 st W; rwa [show st.size = 256 by rw [hst, str_len]; exact hpo.2] at this⟩
              have HTC : Aside0 (∀ W, Kd.C (Kd.int .u8) (Lib.bytesWorld W 5 st) (some ⟨W.heap.size, 0, none⟩) 256 po) := ⟨fun W => by rw [hst]; exact text_C hpo⟩
              obtain ⟨pn, hpn⟩ : ∃ x, x = wipeRow po m := ⟨_, rfl⟩
              have HPN : Aside0 (isBytes pn ∧ pn.length = 256) := ⟨by rw [hpn]; exact wipeRow_ok hpo.1 hmo.1 hpo.2⟩
              obtain ⟨sn, hsn⟩ : ∃ x, x = strOfNums pn := ⟨_, rfl⟩
              have GM := Aside0.mk (Kd.F_now (F_turn F14.out HT.out (fun k hk _ => HNN.out k hk)))
              have HWT : Aside0 (∀ W', Below wr.heap.size wr W' → ∀ A0 c0, 256 ≤ c0 → Kd.C (Kd.int .u8) W' A0 256 po → Calls Try.prog 78 #[.slice A0 256 c0, .slice A3 m.length c3] W' fun e w' => ∃ A c, e = .returned (.slice A 256 c) ∧ 256 ≤ c ∧ Kd.C (Kd.int .u8) w' A 256 pn ∧ Below W'.heap.size W' w') := ⟨fun W' hW A0 c0 h0 hC => by rw [hpn]; exact wipe_calls hpo hmo.1 h0 HC3.out hC (Kd.C_below GM.out hW)⟩
              have HSN : Aside0 (∀ W A c, Kd.C (Kd.int .u8) W A 256 pn → (convert 38 9 (.slice A 256 c)).run Try.prog W = .ok (.string sn) W) := ⟨fun W A c hC => by rw [hsn]; exact Kd.C_string Try.underlying38 Try.underlying5 Try.underlying9 hC⟩
              have HEQ := Aside0.mk (And.intro hpo' (And.intro hpn (And.intro hsn hps)))
              have HP := Aside0.mk (And.intro (eq_true (show (0 : Int) ≤ (j : Int) by omega)) (eq_true (show (j : Int) < ((ps.length : Nat) : Int) by have := HKB.out; omega)))
              have B0 := Aside0.mk (below_drew1 (Below.refl wr.heap.size wr))
              clear hk hpo hmo hpo' hst hpn hsn hps hpsl
              go_upto_region 15 with fail
              clear c1 hw3 hw4 hw5 hw6 t1 t2
              refine start_ (n := 18) (S := fun w' => True) (ds := []) #[false, false, false, false, false, false, false, false, false, false, false, false, false, false, false, false, false, false] (by kernel_rfl) rfl rfl trivial (fun hHeld => ?_)
              refine with_tabW xer15.tab15 xer15.bits15 (fun HT_ HW_ => ?_)
              generalize wr.drew = wq at B0 hHeld ⊢
              refine inv_at [0, 1, 2, 3, 4, 5, 6, 7, 8, 9, 10, 11, 12, 13, 14, 15, 16, 17] (fun a0_ b a w' => ∃ (gb : Nat) (cb : Nat) (A15 : Option Addr) (c15 : Nat) (m12_ : Value) (m14_ : Value), a = putSel a0_ b [(0, 86, .pointer (some ⟨L.g, 0, none⟩)), (1, 87, .pointer (some ⟨L.g, 0, none⟩)), (2, 88, .pointer (some ⟨L.g, 4, none⟩)), (3, 89, .slice (some ⟨L.gp, 0, none⟩) ps.length L.cp), (4, 90, .int .i64 (j : Int)), (5, 91, .pointer (some ⟨L.g, 0, none⟩)), (6, 92, .pointer (some ⟨L.g, 0, none⟩)), (7, 93, .pointer (some ⟨L.g, 4, none⟩)), (8, 94, .slice (some ⟨L.gp, 0, none⟩) ps.length L.cp), (9, 95, .int .i64 (j : Int)), (10, 96, .pointer (some ⟨L.gp, j, none⟩)), (11, 97, .string st), (12, 98, m12_), (13, 99, .slice A3 m.length c3), (14, 100, m14_), (15, 101, .string sn), (16, 102, .pointer (some ⟨L.gp, j, none⟩))] ∧ (b 17 = false → Below wr.heap.size wr w') ∧ (b 12 = true → b 14 = false → 256 ≤ cb ∧ Kd.C (Kd.int .u8) w' (some ⟨gb, 0, none⟩) 256 po) ∧ (b 14 = true → b 15 = false → 256 ≤ c15 ∧ Kd.C (Kd.int .u8) w' A15 256 pn) ∧ (b 17 = true → XV w' ok L { D with ops := wrap64 (D.ops + 1), wear := wr', next := nx', pages := ps.set j pn } ∧ Turn wr w' L.S) ∧ (b 12 = true → (m12_ : Value) = .slice (some ⟨gb, 0, none⟩) 256 cb) ∧ (b 14 = true → (m14_ : Value) = .slice A15 256 c15)) HT_.out HW_.out (by kernel_rfl) (by kernel_rfl) ?_ ?_ ?_
              · exact ⟨0, 0, none, 0, .bool false, .bool false, by simp only [putSel, Bool.false_eq_true, if_false], fun _ => B0.out, fun h_ => absurd h_ (by decide), fun h_ => absurd h_ (by decide), fun h_ => absurd h_ (by decide), fun h_ => absurd h_ (by decide), fun h_ => absurd h_ (by decide)⟩
              · skip
                clear B0
                refine steps_cons ?_ ?_
                · rintro b a w' ⟨gb, cb, A15, c15, m12_, m14_, ha, Q_B0, Q_CB, Q_CP, Q_FIN, Q_X12_, Q_X14_⟩ hb_ hon hoff
                  refine ⟨_, rfl, fun K hK => ?_⟩
                  have e0 : a.tmps[0]? = some (.pointer (some ⟨L.g, 0, none⟩)) := by rw [ha]; exact (putSel_off rfl).trans rfl
                  replace ha := Aside0.mk ha
                  have B0 := Aside0.mk (Q_B0 (hoff 17 (by kernel_rfl)))
                  refine value_ (w1 := w') (v := .pointer (some ⟨L.g, 0, none⟩)) (by rfl) rfl ?_ ?_
                  · go_simp
                    (try simp only [i64_w])
                    try rfl
                  refine hK.out _ _ ⟨gb, cb, A15, c15, m12_, m14_, (by rw [ha.out]; exact putSel_upk 0 hb_ rfl rfl rfl), Q_B0, Q_CB, Q_CP, fun h0_ => absurd ((hoff 17 (by kernel_rfl)).symm.trans h0_) (by decide), Q_X12_, Q_X14_⟩
                refine steps_cons ?_ ?_
                · rintro b a w' ⟨gb, cb, A15, c15, m12_, m14_, ha, Q_B0, Q_CB, Q_CP, Q_FIN, Q_X12_, Q_X14_⟩ hb_ hon hoff
                  refine ⟨_, rfl, fun K hK => ?_⟩
                  have e86 : a.tmps[86]? = some (.pointer (some ⟨L.g, 0, none⟩)) := by rw [ha]; exact putSel_on (e := (0, 86, .pointer (some ⟨L.g, 0, none⟩))) 0 rfl rfl (hon 0 (by kernel_rfl)) rfl
                  replace ha := Aside0.mk ha
                  have B0 := Aside0.mk (Q_B0 (hoff 17 (by kernel_rfl)))
                  refine value_ (w1 := w') (v := .pointer (some ⟨L.g, 0, none⟩)) (by rfl) rfl ?_ ?_
                  · go_simp
                    (try simp only [i64_w])
                    try rfl
                  refine hK.out _ _ ⟨gb, cb, A15, c15, m12_, m14_, (by rw [ha.out]; exact putSel_upk 1 hb_ rfl rfl rfl), Q_B0, Q_CB, Q_CP, fun h0_ => absurd ((hoff 17 (by kernel_rfl)).symm.trans h0_) (by decide), Q_X12_, Q_X14_⟩
                refine steps_cons ?_ ?_
                · rintro b a w' ⟨gb, cb, A15, c15, m12_, m14_, ha, Q_B0, Q_CB, Q_CP, Q_FIN, Q_X12_, Q_X14_⟩ hb_ hon hoff
                  refine ⟨_, rfl, fun K hK => ?_⟩
                  have e87 : a.tmps[87]? = some (.pointer (some ⟨L.g, 0, none⟩)) := by rw [ha]; exact putSel_on (e := (1, 87, .pointer (some ⟨L.g, 0, none⟩))) 1 rfl rfl (hon 1 (by kernel_rfl)) rfl
                  replace ha := Aside0.mk ha
                  have B0 := Aside0.mk (Q_B0 (hoff 17 (by kernel_rfl)))
                  refine value_ (w1 := w') (v := .pointer (some ⟨L.g, 4, none⟩)) (by rfl) rfl ?_ ?_
                  · go_simp
                    (try simp only [i64_w])
                    try rfl
                  refine hK.out _ _ ⟨gb, cb, A15, c15, m12_, m14_, (by rw [ha.out]; exact putSel_upk 2 hb_ rfl rfl rfl), Q_B0, Q_CB, Q_CP, fun h0_ => absurd ((hoff 17 (by kernel_rfl)).symm.trans h0_) (by decide), Q_X12_, Q_X14_⟩
                refine steps_cons ?_ ?_
                · rintro b a w' ⟨gb, cb, A15, c15, m12_, m14_, ha, Q_B0, Q_CB, Q_CP, Q_FIN, Q_X12_, Q_X14_⟩ hb_ hon hoff
                  refine ⟨_, rfl, fun K hK => ?_⟩
                  have e88 : a.tmps[88]? = some (.pointer (some ⟨L.g, 4, none⟩)) := by rw [ha]; exact putSel_on (e := (2, 88, .pointer (some ⟨L.g, 4, none⟩))) 2 rfl rfl (hon 2 (by kernel_rfl)) rfl
                  replace ha := Aside0.mk ha
                  have B0 := Aside0.mk (Q_B0 (hoff 17 (by kernel_rfl)))
                  have c_ := (xtop_cells (HDp.out.below B0.out)).2.2.2.2.1
                  refine value_ (w1 := w') (v := .slice (some ⟨L.gp, 0, none⟩) ps.length L.cp) (by rfl) rfl ?_ ?_
                  · go_simp
                    (try simp only [i64_w])
                    try rfl
                  refine hK.out _ _ ⟨gb, cb, A15, c15, m12_, m14_, (by rw [ha.out]; exact putSel_upk 3 hb_ rfl rfl rfl), Q_B0, Q_CB, Q_CP, fun h0_ => absurd ((hoff 17 (by kernel_rfl)).symm.trans h0_) (by decide), Q_X12_, Q_X14_⟩
                refine steps_cons ?_ ?_
                · rintro b a w' ⟨gb, cb, A15, c15, m12_, m14_, ha, Q_B0, Q_CB, Q_CP, Q_FIN, Q_X12_, Q_X14_⟩ hb_ hon hoff
                  refine ⟨_, rfl, fun K hK => ?_⟩
                  have e7 : a.tmps[7]? = some (.int .i64 (j : Int)) := by rw [ha]; exact (putSel_off rfl).trans rfl
                  replace ha := Aside0.mk ha
                  have B0 := Aside0.mk (Q_B0 (hoff 17 (by kernel_rfl)))
                  refine value_ (w1 := w') (v := .int .i64 (j : Int)) (by rfl) rfl ?_ ?_
                  · go_simp
                    (try simp only [i64_w])
                    try rfl
                  refine hK.out _ _ ⟨gb, cb, A15, c15, m12_, m14_, (by rw [ha.out]; exact putSel_upk 4 hb_ rfl rfl rfl), Q_B0, Q_CB, Q_CP, fun h0_ => absurd ((hoff 17 (by kernel_rfl)).symm.trans h0_) (by decide), Q_X12_, Q_X14_⟩
                refine steps_cons ?_ ?_
                · rintro b a w' ⟨gb, cb, A15, c15, m12_, m14_, ha, Q_B0, Q_CB, Q_CP, Q_FIN, Q_X12_, Q_X14_⟩ hb_ hon hoff
                  refine ⟨_, rfl, fun K hK => ?_⟩
                  have e0 : a.tmps[0]? = some (.pointer (some ⟨L.g, 0, none⟩)) := by rw [ha]; exact (putSel_off rfl).trans rfl
                  replace ha := Aside0.mk ha
                  have B0 := Aside0.mk (Q_B0 (hoff 17 (by kernel_rfl)))
                  refine value_ (w1 := w') (v := .pointer (some ⟨L.g, 0, none⟩)) (by rfl) rfl ?_ ?_
                  · go_simp
                    (try simp only [i64_w])
                    try rfl
                  refine hK.out _ _ ⟨gb, cb, A15, c15, m12_, m14_, (by rw [ha.out]; exact putSel_upk 5 hb_ rfl rfl rfl), Q_B0, fun h0_ _ => absurd ((hoff 12 (by kernel_rfl)).symm.trans h0_) (by decide), fun h0_ _ => absurd ((hoff 14 (by kernel_rfl)).symm.trans h0_) (by decide), fun h0_ => absurd ((hoff 17 (by kernel_rfl)).symm.trans h0_) (by decide), fun h0_ => absurd ((hoff 12 (by kernel_rfl)).symm.trans h0_) (by decide), fun h0_ => absurd ((hoff 14 (by kernel_rfl)).symm.trans h0_) (by decide)⟩
                refine steps_cons ?_ ?_
                · rintro b a w' ⟨gb, cb, A15, c15, m12_, m14_, ha, Q_B0, Q_CB, Q_CP, Q_FIN, Q_X12_, Q_X14_⟩ hb_ hon hoff
                  refine ⟨_, rfl, fun K hK => ?_⟩
                  have e91 : a.tmps[91]? = some (.pointer (some ⟨L.g, 0, none⟩)) := by rw [ha]; exact putSel_on (e := (5, 91, .pointer (some ⟨L.g, 0, none⟩))) 5 rfl rfl (hon 5 (by kernel_rfl)) rfl
                  replace ha := Aside0.mk ha
                  have B0 := Aside0.mk (Q_B0 (hoff 17 (by kernel_rfl)))
                  refine value_ (w1 := w') (v := .pointer (some ⟨L.g, 0, none⟩)) (by rfl) rfl ?_ ?_
                  · go_simp
                    (try simp only [i64_w])
                    try rfl
                  refine hK.out _ _ ⟨gb, cb, A15, c15, m12_, m14_, (by rw [ha.out]; exact putSel_upk 6 hb_ rfl rfl rfl), Q_B0, fun h0_ _ => absurd ((hoff 12 (by kernel_rfl)).symm.trans h0_) (by decide), fun h0_ _ => absurd ((hoff 14 (by kernel_rfl)).symm.trans h0_) (by decide), fun h0_ => absurd ((hoff 17 (by kernel_rfl)).symm.trans h0_) (by decide), fun h0_ => absurd ((hoff 12 (by kernel_rfl)).symm.trans h0_) (by decide), fun h0_ => absurd ((hoff 14 (by kernel_rfl)).symm.trans h0_) (by decide)⟩
                refine steps_cons ?_ ?_
                · rintro b a w' ⟨gb, cb, A15, c15, m12_, m14_, ha, Q_B0, Q_CB, Q_CP, Q_FIN, Q_X12_, Q_X14_⟩ hb_ hon hoff
                  refine ⟨_, rfl, fun K hK => ?_⟩
                  have e92 : a.tmps[92]? = some (.pointer (some ⟨L.g, 0, none⟩)) := by rw [ha]; exact putSel_on (e := (6, 92, .pointer (some ⟨L.g, 0, none⟩))) 6 rfl rfl (hon 6 (by kernel_rfl)) rfl
                  replace ha := Aside0.mk ha
                  have B0 := Aside0.mk (Q_B0 (hoff 17 (by kernel_rfl)))
                  refine value_ (w1 := w') (v := .pointer (some ⟨L.g, 4, none⟩)) (by rfl) rfl ?_ ?_
                  · go_simp
                    (try simp only [i64_w])
                    try rfl
                  refine hK.out _ _ ⟨gb, cb, A15, c15, m12_, m14_, (by rw [ha.out]; exact putSel_upk 7 hb_ rfl rfl rfl), Q_B0, fun h0_ _ => absurd ((hoff 12 (by kernel_rfl)).symm.trans h0_) (by decide), fun h0_ _ => absurd ((hoff 14 (by kernel_rfl)).symm.trans h0_) (by decide), fun h0_ => absurd ((hoff 17 (by kernel_rfl)).symm.trans h0_) (by decide), fun h0_ => absurd ((hoff 12 (by kernel_rfl)).symm.trans h0_) (by decide), fun h0_ => absurd ((hoff 14 (by kernel_rfl)).symm.trans h0_) (by decide)⟩
                refine steps_cons ?_ ?_
                · rintro b a w' ⟨gb, cb, A15, c15, m12_, m14_, ha, Q_B0, Q_CB, Q_CP, Q_FIN, Q_X12_, Q_X14_⟩ hb_ hon hoff
                  refine ⟨_, rfl, fun K hK => ?_⟩
                  have e93 : a.tmps[93]? = some (.pointer (some ⟨L.g, 4, none⟩)) := by rw [ha]; exact putSel_on (e := (7, 93, .pointer (some ⟨L.g, 4, none⟩))) 7 rfl rfl (hon 7 (by kernel_rfl)) rfl
                  replace ha := Aside0.mk ha
                  have B0 := Aside0.mk (Q_B0 (hoff 17 (by kernel_rfl)))
                  have c_ := (xtop_cells (HDp.out.below B0.out)).2.2.2.2.1
                  refine value_ (w1 := w') (v := .slice (some ⟨L.gp, 0, none⟩) ps.length L.cp) (by rfl) rfl ?_ ?_
                  · go_simp
                    (try simp only [i64_w])
                    try rfl
                  refine hK.out _ _ ⟨gb, cb, A15, c15, m12_, m14_, (by rw [ha.out]; exact putSel_upk 8 hb_ rfl rfl rfl), Q_B0, fun h0_ _ => absurd ((hoff 12 (by kernel_rfl)).symm.trans h0_) (by decide), fun h0_ _ => absurd ((hoff 14 (by kernel_rfl)).symm.trans h0_) (by decide), fun h0_ => absurd ((hoff 17 (by kernel_rfl)).symm.trans h0_) (by decide), fun h0_ => absurd ((hoff 12 (by kernel_rfl)).symm.trans h0_) (by decide), fun h0_ => absurd ((hoff 14 (by kernel_rfl)).symm.trans h0_) (by decide)⟩
                refine steps_cons ?_ ?_
                · rintro b a w' ⟨gb, cb, A15, c15, m12_, m14_, ha, Q_B0, Q_CB, Q_CP, Q_FIN, Q_X12_, Q_X14_⟩ hb_ hon hoff
                  refine ⟨_, rfl, fun K hK => ?_⟩
                  have e7 : a.tmps[7]? = some (.int .i64 (j : Int)) := by rw [ha]; exact (putSel_off rfl).trans rfl
                  replace ha := Aside0.mk ha
                  have B0 := Aside0.mk (Q_B0 (hoff 17 (by kernel_rfl)))
                  refine value_ (w1 := w') (v := .int .i64 (j : Int)) (by rfl) rfl ?_ ?_
                  · go_simp
                    (try simp only [i64_w])
                    try rfl
                  refine hK.out _ _ ⟨gb, cb, A15, c15, m12_, m14_, (by rw [ha.out]; exact putSel_upk 9 hb_ rfl rfl rfl), Q_B0, fun h0_ _ => absurd ((hoff 12 (by kernel_rfl)).symm.trans h0_) (by decide), fun h0_ _ => absurd ((hoff 14 (by kernel_rfl)).symm.trans h0_) (by decide), fun h0_ => absurd ((hoff 17 (by kernel_rfl)).symm.trans h0_) (by decide), fun h0_ => absurd ((hoff 12 (by kernel_rfl)).symm.trans h0_) (by decide), fun h0_ => absurd ((hoff 14 (by kernel_rfl)).symm.trans h0_) (by decide)⟩
                refine steps_cons ?_ ?_
                · rintro b a w' ⟨gb, cb, A15, c15, m12_, m14_, ha, Q_B0, Q_CB, Q_CP, Q_FIN, Q_X12_, Q_X14_⟩ hb_ hon hoff
                  refine ⟨_, rfl, fun K hK => ?_⟩
                  have e94 : a.tmps[94]? = some (.slice (some ⟨L.gp, 0, none⟩) ps.length L.cp) := by rw [ha]; exact putSel_on (e := (8, 94, .slice (some ⟨L.gp, 0, none⟩) ps.length L.cp)) 8 rfl rfl (hon 8 (by kernel_rfl)) rfl
                  have e95 : a.tmps[95]? = some (.int .i64 (j : Int)) := by rw [ha]; exact putSel_on (e := (9, 95, .int .i64 (j : Int))) 9 rfl rfl (hon 9 (by kernel_rfl)) rfl
                  replace ha := Aside0.mk ha
                  have B0 := Aside0.mk (Q_B0 (hoff 17 (by kernel_rfl)))
                  have p_ := HP.out.1
                  have q_ := HP.out.2
                  refine value_ (w1 := w') (v := .pointer (some ⟨L.gp, j, none⟩)) (by rfl) rfl ?_ ?_
                  · go_simp
                    (try simp only [i64_w])
                    try rfl
                  refine hK.out _ _ ⟨gb, cb, A15, c15, m12_, m14_, (by rw [ha.out]; exact putSel_upk 10 hb_ rfl rfl rfl), Q_B0, fun h0_ _ => absurd ((hoff 12 (by kernel_rfl)).symm.trans h0_) (by decide), fun h0_ _ => absurd ((hoff 14 (by kernel_rfl)).symm.trans h0_) (by decide), fun h0_ => absurd ((hoff 17 (by kernel_rfl)).symm.trans h0_) (by decide), fun h0_ => absurd ((hoff 12 (by kernel_rfl)).symm.trans h0_) (by decide), fun h0_ => absurd ((hoff 14 (by kernel_rfl)).symm.trans h0_) (by decide)⟩
                refine steps_cons ?_ ?_
                · rintro b a w' ⟨gb, cb, A15, c15, m12_, m14_, ha, Q_B0, Q_CB, Q_CP, Q_FIN, Q_X12_, Q_X14_⟩ hb_ hon hoff
                  refine ⟨_, rfl, fun K hK => ?_⟩
                  have e96 : a.tmps[96]? = some (.pointer (some ⟨L.gp, j, none⟩)) := by rw [ha]; exact putSel_on (e := (10, 96, .pointer (some ⟨L.gp, j, none⟩))) 10 rfl rfl (hon 10 (by kernel_rfl)) rfl
                  replace ha := Aside0.mk ha
                  have B0 := Aside0.mk (Q_B0 (hoff 17 (by kernel_rfl)))
                  have c_ := (HDp.out.below B0.out).pg.cell HTX.out
                  refine value_ (w1 := w') (v := .string st) (by rfl) rfl ?_ ?_
                  · go_simp
                    (try simp only [i64_w])
                    try rfl
                  refine hK.out _ _ ⟨gb, cb, A15, c15, m12_, m14_, (by rw [ha.out]; exact putSel_upk 11 hb_ rfl rfl rfl), Q_B0, fun h0_ _ => absurd ((hoff 12 (by kernel_rfl)).symm.trans h0_) (by decide), fun h0_ _ => absurd ((hoff 14 (by kernel_rfl)).symm.trans h0_) (by decide), fun h0_ => absurd ((hoff 17 (by kernel_rfl)).symm.trans h0_) (by decide), fun h0_ => absurd ((hoff 12 (by kernel_rfl)).symm.trans h0_) (by decide), fun h0_ => absurd ((hoff 14 (by kernel_rfl)).symm.trans h0_) (by decide)⟩
                refine steps_cons ?_ ?_
                · rintro b a w' ⟨gb, cb, A15, c15, m12_, m14_, ha, Q_B0, Q_CB, Q_CP, Q_FIN, Q_X12_, Q_X14_⟩ hb_ hon hoff
                  refine ⟨_, rfl, fun K hK => ?_⟩
                  have e97 : a.tmps[97]? = some (.string st) := by rw [ha]; exact putSel_on (e := (11, 97, .string st)) 11 rfl rfl (hon 11 (by kernel_rfl)) rfl
                  replace ha := Aside0.mk ha
                  have B0 := Aside0.mk (Q_B0 (hoff 17 (by kernel_rfl)))
                  have kb_ := HKC.out
                  refine value_ (w1 := Lib.bytesWorld w' 5 st) (v := .slice (some ⟨w'.heap.size, 0, none⟩) 256 (grownCap w' 256 0 5)) (by rfl) rfl (by first | (go_simp; done) | (go_simp; rfl)) ?_
                  refine hK.out _ _ ⟨w'.heap.size, (grownCap w' 256 0 5), A15, c15, (.slice (some ⟨w'.heap.size, 0, none⟩) 256 (grownCap w' 256 0 5)), m14_, (by rw [ha.out]; exact putSel_upk 12 hb_ rfl rfl rfl), fun _ => bytes_below B0.out B0.out.size 5 st, fun _ _ => ⟨grownCap_ge w' 256 0 5, HTC.out w'⟩, fun h0_ _ => absurd ((hoff 14 (by kernel_rfl)).symm.trans h0_) (by decide), fun h0_ => absurd ((hoff 17 (by kernel_rfl)).symm.trans h0_) (by decide), fun _ => rfl, fun h0_ => absurd ((hoff 14 (by kernel_rfl)).symm.trans h0_) (by decide)⟩
                refine steps_cons ?_ ?_
                · rintro b a w' ⟨gb, cb, A15, c15, m12_, m14_, ha, Q_B0, Q_CB, Q_CP, Q_FIN, Q_X12_, Q_X14_⟩ hb_ hon hoff
                  refine ⟨_, rfl, fun K hK => ?_⟩
                  have e6 : a.tmps[6]? = some (.slice A3 m.length c3) := by rw [ha]; exact (putSel_off rfl).trans rfl
                  replace ha := Aside0.mk ha
                  have B0 := Aside0.mk (Q_B0 (hoff 17 (by kernel_rfl)))
                  refine value_ (w1 := w') (v := .slice A3 m.length c3) (by rfl) rfl ?_ ?_
                  · go_simp
                    (try simp only [i64_w])
                    try rfl
                  refine hK.out _ _ ⟨gb, cb, A15, c15, m12_, m14_, (by rw [ha.out]; exact putSel_upk 13 hb_ rfl rfl rfl), Q_B0, Q_CB, fun h0_ _ => absurd ((hoff 14 (by kernel_rfl)).symm.trans h0_) (by decide), fun h0_ => absurd ((hoff 17 (by kernel_rfl)).symm.trans h0_) (by decide), Q_X12_, fun h0_ => absurd ((hoff 14 (by kernel_rfl)).symm.trans h0_) (by decide)⟩
                refine steps_cons ?_ ?_
                · rintro b a w' ⟨gb, cb, A15, c15, m12_, m14_, ha, Q_B0, Q_CB, Q_CP, Q_FIN, Q_X12_, Q_X14_⟩ hb_ hon hoff
                  refine ⟨_, rfl, fun K hK => ?_⟩
                  have e98 : a.tmps[98]? = some (m12_) := by rw [ha]; exact putSel_on (e := (12, 98, m12_)) 12 rfl rfl (hon 12 (by kernel_rfl)) rfl
                  rw [Q_X12_ (hon 12 (by kernel_rfl))] at e98
                  have e99 : a.tmps[99]? = some (.slice A3 m.length c3) := by rw [ha]; exact putSel_on (e := (13, 99, .slice A3 m.length c3)) 13 rfl rfl (hon 13 (by kernel_rfl)) rfl
                  replace ha := Aside0.mk ha
                  have B0 := Aside0.mk (Q_B0 (hoff 17 (by kernel_rfl)))
                  have CB := Aside0.mk (Q_CB (hon 12 (by kernel_rfl)) hb_)
                  refine goes_ Try.func78 (by kernel_rfl) rfl #[.slice (some ⟨gb, 0, none⟩) 256 cb, .slice A3 m.length c3] (by rfl) rfl rfl (by first | (simp only [List.map_toArray, List.map_cons, List.map_nil, Act.eval, Array.getD_eq_getD_getElem?, Option.getD_some, e98, e99]; done) | (simp only [List.map_toArray, List.map_cons, List.map_nil, Act.eval, Array.getD_eq_getD_getElem?, Option.getD_some, e98, e99]; rfl)) ?_
                  with_reducible refine (HWT.out _ B0.out _ cb CB.out.1 CB.out.2).mono ?_
                  rintro e w2 ⟨A_, c_, rfl, hc_, hC_, hb⟩
                  refine ⟨_, rfl, ?_⟩
                  refine hK.out _ _ ⟨gb, cb, A_, c_, m12_, (.slice A_ 256 c_), (by rw [ha.out]; exact putSel_upk 14 hb_ rfl rfl rfl), fun _ => below_then B0.out B0.out.size hb, fun _ h1_ => absurd ((up_self b 14).symm.trans h1_) (by decide), fun _ _ => ⟨hc_, hC_⟩, fun h0_ => absurd ((hoff 17 (by kernel_rfl)).symm.trans h0_) (by decide), Q_X12_, fun _ => rfl⟩
                refine steps_cons ?_ ?_
                · rintro b a w' ⟨gb, cb, A15, c15, m12_, m14_, ha, Q_B0, Q_CB, Q_CP, Q_FIN, Q_X12_, Q_X14_⟩ hb_ hon hoff
                  refine ⟨_, rfl, fun K hK => ?_⟩
                  have e100 : a.tmps[100]? = some (m14_) := by rw [ha]; exact putSel_on (e := (14, 100, m14_)) 14 rfl rfl (hon 14 (by kernel_rfl)) rfl
                  rw [Q_X14_ (hon 14 (by kernel_rfl))] at e100
                  replace ha := Aside0.mk ha
                  have B0 := Aside0.mk (Q_B0 (hoff 17 (by kernel_rfl)))
                  have CP := Aside0.mk (Q_CP (hon 14 (by kernel_rfl)) hb_)
                  have q_ := HSN.out w' A15 c15 CP.out.2
                  refine value_ (w1 := w') (v := .string sn) (by rfl) rfl ?_ ?_
                  · go_simp
                    (try simp only [i64_w])
                    try rfl
                  refine hK.out _ _ ⟨gb, cb, A15, c15, m12_, m14_, (by rw [ha.out]; exact putSel_upk 15 hb_ rfl rfl rfl), Q_B0, fun _ h1_ => absurd ((hon 14 (by kernel_rfl)).symm.trans h1_) (by decide), fun _ h1_ => absurd ((up_self b 15).symm.trans h1_) (by decide), fun h0_ => absurd ((hoff 17 (by kernel_rfl)).symm.trans h0_) (by decide), Q_X12_, Q_X14_⟩
                refine steps_cons ?_ ?_
                · rintro b a w' ⟨gb, cb, A15, c15, m12_, m14_, ha, Q_B0, Q_CB, Q_CP, Q_FIN, Q_X12_, Q_X14_⟩ hb_ hon hoff
                  refine ⟨_, rfl, fun K hK => ?_⟩
                  have e89 : a.tmps[89]? = some (.slice (some ⟨L.gp, 0, none⟩) ps.length L.cp) := by rw [ha]; exact putSel_on (e := (3, 89, .slice (some ⟨L.gp, 0, none⟩) ps.length L.cp)) 3 rfl rfl (hon 3 (by kernel_rfl)) rfl
                  have e90 : a.tmps[90]? = some (.int .i64 (j : Int)) := by rw [ha]; exact putSel_on (e := (4, 90, .int .i64 (j : Int))) 4 rfl rfl (hon 4 (by kernel_rfl)) rfl
                  replace ha := Aside0.mk ha
                  have B0 := Aside0.mk (Q_B0 (hoff 17 (by kernel_rfl)))
                  have p_ := HP.out.1
                  have q_ := HP.out.2
                  refine value_ (w1 := w') (v := .pointer (some ⟨L.gp, j, none⟩)) (by rfl) rfl ?_ ?_
                  · go_simp
                    (try simp only [i64_w])
                    try rfl
                  refine hK.out _ _ ⟨gb, cb, A15, c15, m12_, m14_, (by rw [ha.out]; exact putSel_upk 16 hb_ rfl rfl rfl), Q_B0, fun _ h1_ => absurd ((hon 14 (by kernel_rfl)).symm.trans h1_) (by decide), fun _ h1_ => absurd ((hon 15 (by kernel_rfl)).symm.trans h1_) (by decide), fun h0_ => absurd ((hoff 17 (by kernel_rfl)).symm.trans h0_) (by decide), Q_X12_, Q_X14_⟩
                refine steps_cons ?_ ?_
                · rintro b a w' ⟨gb, cb, A15, c15, m12_, m14_, ha, Q_B0, Q_CB, Q_CP, Q_FIN, Q_X12_, Q_X14_⟩ hb_ hon hoff
                  refine ⟨_, rfl, fun K hK => ?_⟩
                  have e102 : a.tmps[102]? = some (.pointer (some ⟨L.gp, j, none⟩)) := by rw [ha]; exact putSel_on (e := (16, 102, .pointer (some ⟨L.gp, j, none⟩))) 16 rfl rfl (hon 16 (by kernel_rfl)) rfl
                  have e101 : a.tmps[101]? = some (.string sn) := by rw [ha]; exact putSel_on (e := (15, 101, .string sn)) 15 rfl rfl (hon 15 (by kernel_rfl)) rfl
                  replace ha := Aside0.mk ha
                  have B0 := Aside0.mk (Q_B0 hb_)
                  have c_ := (HDp.out.below B0.out).pg.cell HTX.out
                  have fr_ := (HDp.out.below B0.out).pg.frozen j
                  refine skip_ (w1 := ?_) (by rfl) rfl ?_ ?_
                  rotate_left
                  · go_simp
                    rfl
                  refine hK.out _ _ ⟨gb, cb, A15, c15, m12_, m14_, (by rw [ha.out]; exact putSel_none (v := undef) rfl), fun h0_ => absurd ((up_self b 17).symm.trans h0_) (by decide), fun _ h1_ => absurd ((hon 14 (by kernel_rfl)).symm.trans h1_) (by decide), fun _ h1_ => absurd ((hon 15 (by kernel_rfl)).symm.trans h1_) (by decide), fun _ => ⟨by rw [HEQ.out.2.2.1]; exact (HDp.out.below B0.out).set_page j HPN.out, (Turn.of_below B0.out L.S).setCell (p := ⟨L.gp, j, none⟩) (.inl (.inr (.inl rfl))) _⟩, Q_X12_, Q_X14_⟩
                exact steps_nil
              rintro b a w16 hall ⟨gb, cb, A15, c15, m12_, m14_, ha, Q_B0, Q_CB, Q_CP, Q_FIN, Q_X12_, Q_X14_⟩
              clear B0
              have hb0_ := hall 0 (by kernel_rfl)
              have hb1_ := hall 1 (by kernel_rfl)
              have hb2_ := hall 2 (by kernel_rfl)
              have hb3_ := hall 3 (by kernel_rfl)
              have hb4_ := hall 4 (by kernel_rfl)
              have hb5_ := hall 5 (by kernel_rfl)
              have hb6_ := hall 6 (by kernel_rfl)
              have hb7_ := hall 7 (by kernel_rfl)
              have hb8_ := hall 8 (by kernel_rfl)
              have hb9_ := hall 9 (by kernel_rfl)
              have hb10_ := hall 10 (by kernel_rfl)
              have hb11_ := hall 11 (by kernel_rfl)
              have hb12_ := hall 12 (by kernel_rfl)
              have hb13_ := hall 13 (by kernel_rfl)
              have hb14_ := hall 14 (by kernel_rfl)
              have hb15_ := hall 15 (by kernel_rfl)
              have hb16_ := hall 16 (by kernel_rfl)
              have hb17_ := hall 17 (by kernel_rfl)
              subst ha
              obtain rfl := Q_X12_ hb12_
              obtain rfl := Q_X14_ hb14_
              simp only [putSel, hb0_, hb1_, hb2_, hb3_, hb4_, hb5_, hb6_, hb7_, hb8_, hb9_, hb10_, hb11_, hb12_, hb13_, hb14_, hb15_, hb16_, hb17_, if_true, Act.put, List.setIfInBounds_toArray, List.set_cons_zero, List.set_cons_succ]
              clear Q_B0
              clear Q_CB
              clear Q_CP
              have FIN := Aside0.mk (Q_FIN hb17_)
              clear Q_FIN
              clear hall hb0_ hb1_ hb2_ hb3_ hb4_ hb5_ hb6_ hb7_ hb8_ hb9_ hb10_ hb11_ hb12_ hb13_ hb14_ hb15_ hb16_ hb17_
              go_wp2_with fail
              go_roundg (Pn - k)
              case measure => have := HI.out; have := HK2.out; omega
              case rel =>
                refine ⟨j + 1, k + 1, by first | rfl | simp, ⟨by have := HI.out; omega, by have := HK2.out; omega, by have := HI.out; have := HK2.out; omega⟩, ⟨?_⟩, ⟨HT.out.trans FIN.out.2 (fun k hk => .inl hk)⟩⟩
                have h16 := FIN.out.1
                rw [HEQ.out.2.2.2, HEQ.out.2.1, HEQ.out.1, HI.out.1, wipedTo_succ _ _ _ _ (by rw [← HI.out.1]; exact HKB.out)] at h16
                exact h16
        case neg =>
          have hkp : 0 < kd := by have := fault_kind D; rw [← HKD.out] at this; omega
          have tk : decide (kd > 0) = true := decide_eq_true hkp
          have tk' : decide (0 < kd) = true := decide_eq_true hkp
          have B0 := Aside0.mk (below_drew1 (Below.refl W13.heap.size W13))
          have HQ2 := Aside0.mk (And.intro (eq_true (show (0 : Int) ≤ (n : Int) by omega)) (eq_true (show (n : Int) < ((D.next.length : Nat) : Int) by have := H00.out.ok.nl; have := HN.out; omega)))
          have HNC : Aside0 (((D.next.set n 0).map (Value.int .i64))[n]? = some (.int .i64 ((D.next.set n 0).getD n 0))) := ⟨ints_at (by rw [List.length_set]; have := H00.out.ok.nl; have := HN.out; omega)⟩
          have HPR := Aside0.mk (show 0 ≤ D.P ∧ D.P ≤ D.P by have := H00.out.ok.p1; omega)
          have HK0 := Aside0.mk hk0
          clear hk0 hkp
          go_upto_region 11 with fail
          clear tk tk'
          refine start_ (n := 12) (S := fun w' => True) (ds := []) #[false, false, false, false, false, false, false, false, false, false, false, false] (by kernel_rfl) rfl rfl trivial (fun hHeld => ?_)
          refine with_tabW xer11.tab11 xer11.bits11 (fun HT_ HW_ => ?_)
          generalize W13.drew = wq at B0 hHeld ⊢
          refine inv_at [0, 1, 2, 3, 4, 5, 6, 7, 8, 9, 10, 11] (fun a0_ b a w' => a = putSel a0_ b [(0, 56, .pointer (some ⟨L.g, 0, none⟩)), (1, 57, .pointer (some ⟨L.g, 0, none⟩)), (2, 58, .pointer (some ⟨L.g, 5, none⟩)), (3, 59, .slice (some ⟨L.gn, 0, none⟩) D.next.length L.cn), (4, 60, .int .i64 (n : Int)), (5, 61, .pointer (some ⟨L.g, 0, none⟩)), (6, 62, .pointer (some ⟨L.g, 0, none⟩)), (7, 63, .pointer (some ⟨L.g, 0, none⟩)), (8, 64, .pointer (some ⟨L.g, 1, none⟩)), (9, 65, .int .i64 D.P), (10, 66, .pointer (some ⟨L.gn, n, none⟩))] ∧ (b 11 = false → Below W13.heap.size W13 w') ∧ (b 11 = true → XV w' ok L { D with ops := wrap64 (D.ops + 1), wear := wr', next := (D.next.set n 0).set n D.P } ∧ Turn W13 w' L.S)) HT_.out HW_.out (by kernel_rfl) (by kernel_rfl) ?_ ?_ ?_
          · exact ⟨by simp only [putSel, Bool.false_eq_true, if_false], fun _ => B0.out, fun h_ => absurd h_ (by decide)⟩
          · skip
            clear B0
            refine steps_cons ?_ ?_
            · rintro b a w' ⟨ha, Q_B0, Q_FIN⟩ hb_ hon hoff
              refine ⟨_, rfl, fun K hK => ?_⟩
              have e0 : a.tmps[0]? = some (.pointer (some ⟨L.g, 0, none⟩)) := by rw [ha]; exact (putSel_off rfl).trans rfl
              replace ha := Aside0.mk ha
              have B0 := Aside0.mk (Q_B0 (hoff 11 (by kernel_rfl)))
              refine value_ (w1 := w') (v := .pointer (some ⟨L.g, 0, none⟩)) (by rfl) rfl ?_ ?_
              · go_simp
                (try simp only [i64_w])
                try rfl
              refine hK.out _ _ ⟨(by rw [ha.out]; exact putSel_upk 0 hb_ rfl rfl rfl), Q_B0, fun h0_ => absurd ((hoff 11 (by kernel_rfl)).symm.trans h0_) (by decide)⟩
            refine steps_cons ?_ ?_
            · rintro b a w' ⟨ha, Q_B0, Q_FIN⟩ hb_ hon hoff
              refine ⟨_, rfl, fun K hK => ?_⟩
              have e56 : a.tmps[56]? = some (.pointer (some ⟨L.g, 0, none⟩)) := by rw [ha]; exact putSel_on (e := (0, 56, .pointer (some ⟨L.g, 0, none⟩))) 0 rfl rfl (hon 0 (by kernel_rfl)) rfl
              replace ha := Aside0.mk ha
              have B0 := Aside0.mk (Q_B0 (hoff 11 (by kernel_rfl)))
              refine value_ (w1 := w') (v := .pointer (some ⟨L.g, 0, none⟩)) (by rfl) rfl ?_ ?_
              · go_simp
                (try simp only [i64_w])
                try rfl
              refine hK.out _ _ ⟨(by rw [ha.out]; exact putSel_upk 1 hb_ rfl rfl rfl), Q_B0, fun h0_ => absurd ((hoff 11 (by kernel_rfl)).symm.trans h0_) (by decide)⟩
            refine steps_cons ?_ ?_
            · rintro b a w' ⟨ha, Q_B0, Q_FIN⟩ hb_ hon hoff
              refine ⟨_, rfl, fun K hK => ?_⟩
              have e57 : a.tmps[57]? = some (.pointer (some ⟨L.g, 0, none⟩)) := by rw [ha]; exact putSel_on (e := (1, 57, .pointer (some ⟨L.g, 0, none⟩))) 1 rfl rfl (hon 1 (by kernel_rfl)) rfl
              replace ha := Aside0.mk ha
              have B0 := Aside0.mk (Q_B0 (hoff 11 (by kernel_rfl)))
              refine value_ (w1 := w') (v := .pointer (some ⟨L.g, 5, none⟩)) (by rfl) rfl ?_ ?_
              · go_simp
                (try simp only [i64_w])
                try rfl
              refine hK.out _ _ ⟨(by rw [ha.out]; exact putSel_upk 2 hb_ rfl rfl rfl), Q_B0, fun h0_ => absurd ((hoff 11 (by kernel_rfl)).symm.trans h0_) (by decide)⟩
            refine steps_cons ?_ ?_
            · rintro b a w' ⟨ha, Q_B0, Q_FIN⟩ hb_ hon hoff
              refine ⟨_, rfl, fun K hK => ?_⟩
              have e58 : a.tmps[58]? = some (.pointer (some ⟨L.g, 5, none⟩)) := by rw [ha]; exact putSel_on (e := (2, 58, .pointer (some ⟨L.g, 5, none⟩))) 2 rfl rfl (hon 2 (by kernel_rfl)) rfl
              replace ha := Aside0.mk ha
              have B0 := Aside0.mk (Q_B0 (hoff 11 (by kernel_rfl)))
              have c_ := (xtop_cells (H13.out.below B0.out)).2.2.2.2.2.1
              refine value_ (w1 := w') (v := .slice (some ⟨L.gn, 0, none⟩) D.next.length L.cn) (by rfl) rfl ?_ ?_
              · go_simp
                (try simp only [i64_w])
                try rfl
              refine hK.out _ _ ⟨(by rw [ha.out]; exact putSel_upk 3 hb_ rfl rfl rfl), Q_B0, fun h0_ => absurd ((hoff 11 (by kernel_rfl)).symm.trans h0_) (by decide)⟩
            refine steps_cons ?_ ?_
            · rintro b a w' ⟨ha, Q_B0, Q_FIN⟩ hb_ hon hoff
              refine ⟨_, rfl, fun K hK => ?_⟩
              have e1 : a.tmps[1]? = some (.int .i64 (n : Int)) := by rw [ha]; exact (putSel_off rfl).trans rfl
              replace ha := Aside0.mk ha
              have B0 := Aside0.mk (Q_B0 (hoff 11 (by kernel_rfl)))
              refine value_ (w1 := w') (v := .int .i64 (n : Int)) (by rfl) rfl ?_ ?_
              · go_simp
                (try simp only [i64_w])
                try rfl
              refine hK.out _ _ ⟨(by rw [ha.out]; exact putSel_upk 4 hb_ rfl rfl rfl), Q_B0, fun h0_ => absurd ((hoff 11 (by kernel_rfl)).symm.trans h0_) (by decide)⟩
            refine steps_cons ?_ ?_
            · rintro b a w' ⟨ha, Q_B0, Q_FIN⟩ hb_ hon hoff
              refine ⟨_, rfl, fun K hK => ?_⟩
              have e0 : a.tmps[0]? = some (.pointer (some ⟨L.g, 0, none⟩)) := by rw [ha]; exact (putSel_off rfl).trans rfl
              replace ha := Aside0.mk ha
              have B0 := Aside0.mk (Q_B0 (hoff 11 (by kernel_rfl)))
              refine value_ (w1 := w') (v := .pointer (some ⟨L.g, 0, none⟩)) (by rfl) rfl ?_ ?_
              · go_simp
                (try simp only [i64_w])
                try rfl
              refine hK.out _ _ ⟨(by rw [ha.out]; exact putSel_upk 5 hb_ rfl rfl rfl), Q_B0, fun h0_ => absurd ((hoff 11 (by kernel_rfl)).symm.trans h0_) (by decide)⟩
            refine steps_cons ?_ ?_
            · rintro b a w' ⟨ha, Q_B0, Q_FIN⟩ hb_ hon hoff
              refine ⟨_, rfl, fun K hK => ?_⟩
              have e61 : a.tmps[61]? = some (.pointer (some ⟨L.g, 0, none⟩)) := by rw [ha]; exact putSel_on (e := (5, 61, .pointer (some ⟨L.g, 0, none⟩))) 5 rfl rfl (hon 5 (by kernel_rfl)) rfl
              replace ha := Aside0.mk ha
              have B0 := Aside0.mk (Q_B0 (hoff 11 (by kernel_rfl)))
              refine value_ (w1 := w') (v := .pointer (some ⟨L.g, 0, none⟩)) (by rfl) rfl ?_ ?_
              · go_simp
                (try simp only [i64_w])
                try rfl
              refine hK.out _ _ ⟨(by rw [ha.out]; exact putSel_upk 6 hb_ rfl rfl rfl), Q_B0, fun h0_ => absurd ((hoff 11 (by kernel_rfl)).symm.trans h0_) (by decide)⟩
            refine steps_cons ?_ ?_
            · rintro b a w' ⟨ha, Q_B0, Q_FIN⟩ hb_ hon hoff
              refine ⟨_, rfl, fun K hK => ?_⟩
              have e62 : a.tmps[62]? = some (.pointer (some ⟨L.g, 0, none⟩)) := by rw [ha]; exact putSel_on (e := (6, 62, .pointer (some ⟨L.g, 0, none⟩))) 6 rfl rfl (hon 6 (by kernel_rfl)) rfl
              replace ha := Aside0.mk ha
              have B0 := Aside0.mk (Q_B0 (hoff 11 (by kernel_rfl)))
              refine value_ (w1 := w') (v := .pointer (some ⟨L.g, 0, none⟩)) (by rfl) rfl ?_ ?_
              · go_simp
                (try simp only [i64_w])
                try rfl
              refine hK.out _ _ ⟨(by rw [ha.out]; exact putSel_upk 7 hb_ rfl rfl rfl), Q_B0, fun h0_ => absurd ((hoff 11 (by kernel_rfl)).symm.trans h0_) (by decide)⟩
            refine steps_cons ?_ ?_
            · rintro b a w' ⟨ha, Q_B0, Q_FIN⟩ hb_ hon hoff
              refine ⟨_, rfl, fun K hK => ?_⟩
              have e63 : a.tmps[63]? = some (.pointer (some ⟨L.g, 0, none⟩)) := by rw [ha]; exact putSel_on (e := (7, 63, .pointer (some ⟨L.g, 0, none⟩))) 7 rfl rfl (hon 7 (by kernel_rfl)) rfl
              replace ha := Aside0.mk ha
              have B0 := Aside0.mk (Q_B0 (hoff 11 (by kernel_rfl)))
              refine value_ (w1 := w') (v := .pointer (some ⟨L.g, 1, none⟩)) (by rfl) rfl ?_ ?_
              · go_simp
                (try simp only [i64_w])
                try rfl
              refine hK.out _ _ ⟨(by rw [ha.out]; exact putSel_upk 8 hb_ rfl rfl rfl), Q_B0, fun h0_ => absurd ((hoff 11 (by kernel_rfl)).symm.trans h0_) (by decide)⟩
            refine steps_cons ?_ ?_
            · rintro b a w' ⟨ha, Q_B0, Q_FIN⟩ hb_ hon hoff
              refine ⟨_, rfl, fun K hK => ?_⟩
              have e64 : a.tmps[64]? = some (.pointer (some ⟨L.g, 1, none⟩)) := by rw [ha]; exact putSel_on (e := (8, 64, .pointer (some ⟨L.g, 1, none⟩))) 8 rfl rfl (hon 8 (by kernel_rfl)) rfl
              replace ha := Aside0.mk ha
              have B0 := Aside0.mk (Q_B0 (hoff 11 (by kernel_rfl)))
              have c_ := (xtop_cells (H13.out.below B0.out)).2.1
              refine value_ (w1 := w') (v := .int .i64 D.P) (by rfl) rfl ?_ ?_
              · go_simp
                (try simp only [i64_w])
                try rfl
              refine hK.out _ _ ⟨(by rw [ha.out]; exact putSel_upk 9 hb_ rfl rfl rfl), Q_B0, fun h0_ => absurd ((hoff 11 (by kernel_rfl)).symm.trans h0_) (by decide)⟩
            refine steps_cons ?_ ?_
            · rintro b a w' ⟨ha, Q_B0, Q_FIN⟩ hb_ hon hoff
              refine ⟨_, rfl, fun K hK => ?_⟩
              have e59 : a.tmps[59]? = some (.slice (some ⟨L.gn, 0, none⟩) D.next.length L.cn) := by rw [ha]; exact putSel_on (e := (3, 59, .slice (some ⟨L.gn, 0, none⟩) D.next.length L.cn)) 3 rfl rfl (hon 3 (by kernel_rfl)) rfl
              have e60 : a.tmps[60]? = some (.int .i64 (n : Int)) := by rw [ha]; exact putSel_on (e := (4, 60, .int .i64 (n : Int))) 4 rfl rfl (hon 4 (by kernel_rfl)) rfl
              replace ha := Aside0.mk ha
              have B0 := Aside0.mk (Q_B0 (hoff 11 (by kernel_rfl)))
              have p_ := HQ2.out.1
              have q_ := HQ2.out.2
              refine value_ (w1 := w') (v := .pointer (some ⟨L.gn, n, none⟩)) (by rfl) rfl ?_ ?_
              · go_simp
                (try simp only [i64_w])
                try rfl
              refine hK.out _ _ ⟨(by rw [ha.out]; exact putSel_upk 10 hb_ rfl rfl rfl), Q_B0, fun h0_ => absurd ((hoff 11 (by kernel_rfl)).symm.trans h0_) (by decide)⟩
            refine steps_cons ?_ ?_
            · rintro b a w' ⟨ha, Q_B0, Q_FIN⟩ hb_ hon hoff
              refine ⟨_, rfl, fun K hK => ?_⟩
              have e66 : a.tmps[66]? = some (.pointer (some ⟨L.gn, n, none⟩)) := by rw [ha]; exact putSel_on (e := (10, 66, .pointer (some ⟨L.gn, n, none⟩))) 10 rfl rfl (hon 10 (by kernel_rfl)) rfl
              have e65 : a.tmps[65]? = some (.int .i64 D.P) := by rw [ha]; exact putSel_on (e := (9, 65, .int .i64 D.P)) 9 rfl rfl (hon 9 (by kernel_rfl)) rfl
              replace ha := Aside0.mk ha
              have B0 := Aside0.mk (Q_B0 hb_)
              have c_ := (H13.out.below B0.out).nx.cell HNC.out
              have fr_ := (H13.out.below B0.out).nx.frozen n
              refine skip_ (w1 := ?_) (by rfl) rfl ?_ ?_
              rotate_left
              · go_simp
                rfl
              refine hK.out _ _ ⟨(by rw [ha.out]; exact putSel_none (v := undef) rfl), fun h0_ => absurd ((up_self b 11).symm.trans h0_) (by decide), fun _ => ⟨(H13.out.below B0.out).set_next n D.P HPR.out, (Turn.of_below B0.out L.S).setCell (p := ⟨L.gn, n, none⟩) (.inl (.inr (.inr (.inl rfl)))) _⟩⟩
            exact steps_nil
          rintro b a W14 hall ⟨ha, Q_B0, Q_FIN⟩
          clear B0
          have hb0_ := hall 0 (by kernel_rfl)
          have hb1_ := hall 1 (by kernel_rfl)
          have hb2_ := hall 2 (by kernel_rfl)
          have hb3_ := hall 3 (by kernel_rfl)
          have hb4_ := hall 4 (by kernel_rfl)
          have hb5_ := hall 5 (by kernel_rfl)
          have hb6_ := hall 6 (by kernel_rfl)
          have hb7_ := hall 7 (by kernel_rfl)
          have hb8_ := hall 8 (by kernel_rfl)
          have hb9_ := hall 9 (by kernel_rfl)
          have hb10_ := hall 10 (by kernel_rfl)
          have hb11_ := hall 11 (by kernel_rfl)
          subst ha
          simp only [putSel, hb0_, hb1_, hb2_, hb3_, hb4_, hb5_, hb6_, hb7_, hb8_, hb9_, hb10_, hb11_, if_true, Act.put, List.setIfInBounds_toArray, List.set_cons_zero, List.set_cons_succ]
          clear Q_B0
          have FIN := Aside0.mk (Q_FIN hb11_)
          clear Q_FIN
          clear hall hb0_ hb1_ hb2_ hb3_ hb4_ hb5_ hb6_ hb7_ hb8_ hb9_ hb10_ hb11_
          obtain ⟨nx', hnx⟩ : ∃ x, x = D.next.set n D.P := ⟨_, rfl⟩
          have H14 : Aside0 (XV W14 ok L { D with ops := wrap64 (D.ops + 1), wear := wr', next := nx' }) := ⟨by rw [hnx]; have := FIN.out.1; simp only [List.set_set] at this; exact this⟩
          have HNX : Aside0 (nx' = D.next.set n (if D.fault.1 = 0 then 0 else D.P)) := ⟨by rw [if_neg (by rw [← HKD.out]; exact HK0.out)]; exact hnx⟩
          have T14 := Aside0.mk (T13.out.trans FIN.out.2 (fun k hk => .inl hk))
          have F14 := Aside0.mk (F_turn F13.out FIN.out.2 (fun k hk _ => HNN.out k hk))
          clear hnx H13 T13 F13 FIN
          go_upto_region 12 with fail
          have c1 := (xtop_cells H14.out).2.1
          have hw1 := HWM.out.1.1
          have hw2 := HWM.out.1.2
          go_wp2_with fail
          clear c1 hw1 hw2
          go_loopg [7] (Pn + 1) (fun kq v7 w' => ∃ j k : Nat, v7 = .int .i64 (j : Int) ∧ Aside0 (j = i0 + k ∧ k ≤ Pn ∧ kq + k = Pn + 1) ∧ Aside0 (XV w' ok L { D with ops := wrap64 (D.ops + 1), wear := wr', next := nx', pages := wipedTo D.pages i0 m k }) ∧ Aside0 (Turn W14 w' L.S))
          case atStart => exact ⟨i0, 0, rfl, ⟨rfl, Nat.zero_le _, rfl⟩, ⟨by rw [wipedTo_zero]; exact H14.out⟩, ⟨Turn.refl _ _⟩⟩
          case round =>
            obtain ⟨j, k, rfl, HI, HD, HT⟩ := hrel
            have c1 := (xtop_cells HD.out).2.1
            have hw3 := HWM.out.2.1.1
            have hw4 := HWM.out.2.1.2
            have hw5 := HWM.out.2.2.1
            have hw6 := HWM.out.2.2.2
            by_cases hk : j < i1
            case neg =>
              have t1 : decide ((j : Int) < (i1 : Int)) = false := decide_eq_false (by omega)
              have t2 : decide (j < i1) = false := decide_eq_false hk
              have HKP : Aside0 (k = Pn) := ⟨by have := HI.out; have := HI1.out; omega⟩
              have HEN := Aside0.mk (xend_calls HD.out HD0.out kd (by rw [HKD.out]; exact fault_kind D))
              clear hk
              go_wp2_with (go_at_call 77; refine HEN.out.mono ?_; rintro e w18 ⟨rfl, hD18, hT18⟩; have H18 := Aside0.mk hD18; have T18 := Aside0.mk ((T14.out.trans HT.out (fun k hk => .inl hk)).trans hT18 (fun k hk => .inl hk)); clear hD18 hT18)
              go_ret
              rw [HR1.out]
              have hE : D.eraseD (n : Int) = { D with ops := wrap64 (D.ops + 1), wear := wr', next := nx', pages := wipedTo D.pages i0 m k, down := kd == 2 } := by
                unfold Dv.eraseD
                rw [HKP.out, wipedTo_all n i0 Pn m HIX.out.1 HIX.out.2.1, HWR.out, HWV.out, HNX.out, HM.out, HKD.out]
                rfl
              refine ⟨by rw [HKD.out]; rfl, ?_, T18.out⟩
              show XV w18 ok L (D.eraseD (n : Int))
              rw [hE]
              exact H18.out
            case pos =>
              have t1 : decide ((j : Int) < (i1 : Int)) = true := decide_eq_true (by omega)
              have t2 : decide (j < i1) = true := decide_eq_true hk
              have HKB : Aside0 (j < D.pages.length) := ⟨by have := HIX.out; have := HI1.out; omega⟩
              have HK2 : Aside0 (k < Pn) := ⟨by have := HI.out; have := HI1.out; omega⟩
              obtain ⟨hw7, hw8⟩ := wrap_id (x := (j : Int) + 1) (by omega) (by have := H00.out.ok.size; have := H00.out.ok.pl; have := HKB.out; omega)
              have hpo := page_ok H00.out.ok HKB.out
              have hmo := fault_mask H00.out.ok
              rw [← HM.out] at hmo
              obtain ⟨po, hpo'⟩ : ∃ x, x = D.pages.getD j [] := ⟨_, rfl⟩
              rw [← hpo'] at hpo
              obtain ⟨ps, hps⟩ : ∃ x, x = wipedTo D.pages i0 m k := ⟨_, rfl⟩
              have hpsl : ps.length = D.pages.length := by rw [hps]; exact wipedTo_len _ _ _ _
              have HDp : Aside0 (XV wr ok L { D with ops := wrap64 (D.ops + 1), wear := wr', next := nx', pages := ps }) := ⟨by rw [hps]; exact HD.out⟩
              obtain ⟨st, hst⟩ : ∃ x, x = strOfNums po := ⟨_, rfl⟩
              have HTX : Aside0 ((texts ps)[j]? = some (.string st)) := ⟨by rw [texts_at (by rw [hpsl]; exact HKB.out), hst, hpo', hps, HI.out.1, wipedTo_at]⟩
              have HKC : Aside0 (∀ W, (convert 9 38 (.string st)).run Try.prog W = .ok (.slice (some ⟨W.heap.size, 0, none⟩) 256 (grownCap W 256 0 5)) (Lib.bytesWorld W 5 st)) := ⟨fun W => by have := print_bytes (P := Try.prog) 9 38 5 Try.underlying9 Try.underlying38 Try.underlying5 st W; rwa [show st.size = 256 by rw [hst, str_len]; exact hpo.2] at this⟩
              have HTC : Aside0 (∀ W, Kd.C (Kd.int .u8) (Lib.bytesWorld W 5 st) (some ⟨W.heap.size, 0, none⟩) 256 po) := ⟨fun W => by rw [hst]; exact text_C hpo⟩
              obtain ⟨pn, hpn⟩ : ∃ x, x = wipeRow po m := ⟨_, rfl⟩
              have HPN : Aside0 (isBytes pn ∧ pn.length = 256) := ⟨by rw [hpn]; exact wipeRow_ok hpo.1 hmo.1 hpo.2⟩
              obtain ⟨sn, hsn⟩ : ∃ x, x = strOfNums pn := ⟨_, rfl⟩
              have GM := Aside0.mk (Kd.F_now (F_turn F14.out HT.out (fun k hk _ => HNN.out k hk)))
              have HWT : Aside0 (∀ W', Below wr.heap.size wr W' → ∀ A0 c0, 256 ≤ c0 → Kd.C (Kd.int .u8) W' A0 256 po → Calls Try.prog 78 #[.slice A0 256 c0, .slice A3 m.length c3] W' fun e w' => ∃ A c, e = .returned (.slice A 256 c) ∧ 256 ≤ c ∧ Kd.C (Kd.int .u8) w' A 256 pn ∧ Below W'.heap.size W' w') := ⟨fun W' hW A0 c0 h0 hC => by rw [hpn]; exact wipe_calls hpo hmo.1 h0 HC3.out hC (Kd.C_below GM.out hW)⟩
              have HSN : Aside0 (∀ W A c, Kd.C (Kd.int .u8) W A 256 pn → (convert 38 9 (.slice A 256 c)).run Try.prog W = .ok (.string sn) W) := ⟨fun W A c hC => by rw [hsn]; exact Kd.C_string Try.underlying38 Try.underlying5 Try.underlying9 hC⟩
              have HEQ := Aside0.mk (And.intro hpo' (And.intro hpn (And.intro hsn hps)))
              have HP := Aside0.mk (And.intro (eq_true (show (0 : Int) ≤ (j : Int) by omega)) (eq_true (show (j : Int) < ((ps.length : Nat) : Int) by have := HKB.out; omega)))
              have B0 := Aside0.mk (below_drew1 (Below.refl wr.heap.size wr))
              clear hk hpo hmo hpo' hst hpn hsn hps hpsl
              go_upto_region 15 with fail
              clear c1 hw3 hw4 hw5 hw6 t1 t2
              refine start_ (n := 18) (S := fun w' => True) (ds := []) #[false, false, false, false, false, false, false, false, false, false, false, false, false, false, false, false, false, false] (by kernel_rfl) rfl rfl trivial (fun hHeld => ?_)
              refine with_tabW xer15.tab15 xer15.bits15 (fun HT_ HW_ => ?_)
              generalize wr.drew = wq at B0 hHeld ⊢
              refine inv_at [0, 1, 2, 3, 4, 5, 6, 7, 8, 9, 10, 11, 12, 13, 14, 15, 16, 17] (fun a0_ b a w' => ∃ (gb : Nat) (cb : Nat) (A15 : Option Addr) (c15 : Nat) (m12_ : Value) (m14_ : Value), a = putSel a0_ b [(0, 86, .pointer (some ⟨L.g, 0, none⟩)), (1, 87, .pointer (some ⟨L.g, 0, none⟩)), (2, 88, .pointer (some ⟨L.g, 4, none⟩)), (3, 89, .slice (some ⟨L.gp, 0, none⟩) ps.length L.cp), (4, 90, .int .i64 (j : Int)), (5, 91, .pointer (some ⟨L.g, 0, none⟩)), (6, 92, .pointer (some ⟨L.g, 0, none⟩)), (7, 93, .pointer (some ⟨L.g, 4, none⟩)), (8, 94, .slice (some ⟨L.gp, 0, none⟩) ps.length L.cp), (9, 95, .int .i64 (j : Int)), (10, 96, .pointer (some ⟨L.gp, j, none⟩)), (11, 97, .string st), (12, 98, m12_), (13, 99, .slice A3 m.length c3), (14, 100, m14_), (15, 101, .string sn), (16, 102, .pointer (some ⟨L.gp, j, none⟩))] ∧ (b 17 = false → Below wr.heap.size wr w') ∧ (b 12 = true → b 14 = false → 256 ≤ cb ∧ Kd.C (Kd.int .u8) w' (some ⟨gb, 0, none⟩) 256 po) ∧ (b 14 = true → b 15 = false → 256 ≤ c15 ∧ Kd.C (Kd.int .u8) w' A15 256 pn) ∧ (b 17 = true → XV w' ok L { D with ops := wrap64 (D.ops + 1), wear := wr', next := nx', pages := ps.set j pn } ∧ Turn wr w' L.S) ∧ (b 12 = true → (m12_ : Value) = .slice (some ⟨gb, 0, none⟩) 256 cb) ∧ (b 14 = true → (m14_ : Value) = .slice A15 256 c15)) HT_.out HW_.out (by kernel_rfl) (by kernel_rfl) ?_ ?_ ?_
              · exact ⟨0, 0, none, 0, .bool false, .bool false, by simp only [putSel, Bool.false_eq_true, if_false], fun _ => B0.out, fun h_ => absurd h_ (by decide), fun h_ => absurd h_ (by decide), fun h_ => absurd h_ (by decide), fun h_ => absurd h_ (by decide), fun h_ => absurd h_ (by decide)⟩
              · skip
                clear B0
                refine steps_cons ?_ ?_
                · rintro b a w' ⟨gb, cb, A15, c15, m12_, m14_, ha, Q_B0, Q_CB, Q_CP, Q_FIN, Q_X12_, Q_X14_⟩ hb_ hon hoff
                  refine ⟨_, rfl, fun K hK => ?_⟩
                  have e0 : a.tmps[0]? = some (.pointer (some ⟨L.g, 0, none⟩)) := by rw [ha]; exact (putSel_off rfl).trans rfl
                  replace ha := Aside0.mk ha
                  have B0 := Aside0.mk (Q_B0 (hoff 17 (by kernel_rfl)))
                  refine value_ (w1 := w') (v := .pointer (some ⟨L.g, 0, none⟩)) (by rfl) rfl ?_ ?_
                  · go_simp
                    (try simp only [i64_w])
                    try rfl
                  refine hK.out _ _ ⟨gb, cb, A15, c15, m12_, m14_, (by rw [ha.out]; exact putSel_upk 0 hb_ rfl rfl rfl), Q_B0, Q_CB, Q_CP, fun h0_ => absurd ((hoff 17 (by kernel_rfl)).symm.trans h0_) (by decide), Q_X12_, Q_X14_⟩
                refine steps_cons ?_ ?_
                · rintro b a w' ⟨gb, cb, A15, c15, m12_, m14_, ha, Q_B0, Q_CB, Q_CP, Q_FIN, Q_X12_, Q_X14_⟩ hb_ hon hoff
                  refine ⟨_, rfl, fun K hK => ?_⟩
                  have e86 : a.tmps[86]? = some (.pointer (some ⟨L.g, 0, none⟩)) := by rw [ha]; exact putSel_on (e := (0, 86, .pointer (some ⟨L.g, 0, none⟩))) 0 rfl rfl (hon 0 (by kernel_rfl)) rfl
                  replace ha := Aside0.mk ha
                  have B0 := Aside0.mk (Q_B0 (hoff 17 (by kernel_rfl)))
                  refine value_ (w1 := w') (v := .pointer (some ⟨L.g, 0, none⟩)) (by rfl) rfl ?_ ?_
                  · go_simp
                    (try simp only [i64_w])
                    try rfl
                  refine hK.out _ _ ⟨gb, cb, A15, c15, m12_, m14_, (by rw [ha.out]; exact putSel_upk 1 hb_ rfl rfl rfl), Q_B0, Q_CB, Q_CP, fun h0_ => absurd ((hoff 17 (by kernel_rfl)).symm.trans h0_) (by decide), Q_X12_, Q_X14_⟩
                refine steps_cons ?_ ?_
                · rintro b a w' ⟨gb, cb, A15, c15, m12_, m14_, ha, Q_B0, Q_CB, Q_CP, Q_FIN, Q_X12_, Q_X14_⟩ hb_ hon hoff
                  refine ⟨_, rfl, fun K hK => ?_⟩
                  have e87 : a.tmps[87]? = some (.pointer (some ⟨L.g, 0, none⟩)) := by rw [ha]; exact putSel_on (e := (1, 87, .pointer (some ⟨L.g, 0, none⟩))) 1 rfl rfl (hon 1 (by kernel_rfl)) rfl
                  replace ha := Aside0.mk ha
                  have B0 := Aside0.mk (Q_B0 (hoff 17 (by kernel_rfl)))
                  refine value_ (w1 := w') (v := .pointer (some ⟨L.g, 4, none⟩)) (by rfl) rfl ?_ ?_
                  · go_simp
                    (try simp only [i64_w])
                    try rfl
                  refine hK.out _ _ ⟨gb, cb, A15, c15, m12_, m14_, (by rw [ha.out]; exact putSel_upk 2 hb_ rfl rfl rfl), Q_B0, Q_CB, Q_CP, fun h0_ => absurd ((hoff 17 (by kernel_rfl)).symm.trans h0_) (by decide), Q_X12_, Q_X14_⟩
                refine steps_cons ?_ ?_
                · rintro b a w' ⟨gb, cb, A15, c15, m12_, m14_, ha, Q_B0, Q_CB, Q_CP, Q_FIN, Q_X12_, Q_X14_⟩ hb_ hon hoff
                  refine ⟨_, rfl, fun K hK => ?_⟩
                  have e88 : a.tmps[88]? = some (.pointer (some ⟨L.g, 4, none⟩)) := by rw [ha]; exact putSel_on (e := (2, 88, .pointer (some ⟨L.g, 4, none⟩))) 2 rfl rfl (hon 2 (by kernel_rfl)) rfl
                  replace ha := Aside0.mk ha
                  have B0 := Aside0.mk (Q_B0 (hoff 17 (by kernel_rfl)))
                  have c_ := (xtop_cells (HDp.out.below B0.out)).2.2.2.2.1
                  refine value_ (w1 := w') (v := .slice (some ⟨L.gp, 0, none⟩) ps.length L.cp) (by rfl) rfl ?_ ?_
                  · go_simp
                    (try simp only [i64_w])
                    try rfl
                  refine hK.out _ _ ⟨gb, cb, A15, c15, m12_, m14_, (by rw [ha.out]; exact putSel_upk 3 hb_ rfl rfl rfl), Q_B0, Q_CB, Q_CP, fun h0_ => absurd ((hoff 17 (by kernel_rfl)).symm.trans h0_) (by decide), Q_X12_, Q_X14_⟩
                refine steps_cons ?_ ?_
                · rintro b a w' ⟨gb, cb, A15, c15, m12_, m14_, ha, Q_B0, Q_CB, Q_CP, Q_FIN, Q_X12_, Q_X14_⟩ hb_ hon hoff
                  refine ⟨_, rfl, fun K hK => ?_⟩
                  have e7 : a.tmps[7]? = some (.int .i64 (j : Int)) := by rw [ha]; exact (putSel_off rfl).trans rfl
                  replace ha := Aside0.mk ha
                  have B0 := Aside0.mk (Q_B0 (hoff 17 (by kernel_rfl)))
                  refine value_ (w1 := w') (v := .int .i64 (j : Int)) (by rfl) rfl ?_ ?_
                  · go_simp
                    (try simp only [i64_w])
                    try rfl
                  refine hK.out _ _ ⟨gb, cb, A15, c15, m12_, m14_, (by rw [ha.out]; exact putSel_upk 4 hb_ rfl rfl rfl), Q_B0, Q_CB, Q_CP, fun h0_ => absurd ((hoff 17 (by kernel_rfl)).symm.trans h0_) (by decide), Q_X12_, Q_X14_⟩
                refine steps_cons ?_ ?_
                · rintro b a w' ⟨gb, cb, A15, c15, m12_, m14_, ha, Q_B0, Q_CB, Q_CP, Q_FIN, Q_X12_, Q_X14_⟩ hb_ hon hoff
                  refine ⟨_, rfl, fun K hK => ?_⟩
                  have e0 : a.tmps[0]? = some (.pointer (some ⟨L.g, 0, none⟩)) := by rw [ha]; exact (putSel_off rfl).trans rfl
                  replace ha := Aside0.mk ha
                  have B0 := Aside0.mk (Q_B0 (hoff 17 (by kernel_rfl)))
                  refine value_ (w1 := w') (v := .pointer (some ⟨L.g, 0, none⟩)) (by rfl) rfl ?_ ?_
                  · go_simp
                    (try simp only [i64_w])
                    try rfl
                  refine hK.out _ _ ⟨gb, cb, A15, c15, m12_, m14_, (by rw [ha.out]; exact putSel_upk 5 hb_ rfl rfl rfl), Q_B0, fun h0_ _ => absurd ((hoff 12 (by kernel_rfl)).symm.trans h0_) (by decide), fun h0_ _ => absurd ((hoff 14 (by kernel_rfl)).symm.trans h0_) (by decide), fun h0_ => absurd ((hoff 17 (by kernel_rfl)).symm.trans h0_) (by decide), fun h0_ => absurd ((hoff 12 (by kernel_rfl)).symm.trans h0_) (by decide), fun h0_ => absurd ((hoff 14 (by kernel_rfl)).symm.trans h0_) (by decide)⟩
                refine steps_cons ?_ ?_
                · rintro b a w' ⟨gb, cb, A15, c15, m12_, m14_, ha, Q_B0, Q_CB, Q_CP, Q_FIN, Q_X12_, Q_X14_⟩ hb_ hon hoff
                  refine ⟨_, rfl, fun K hK => ?_⟩
                  have e91 : a.tmps[91]? = some (.pointer (some ⟨L.g, 0, none⟩)) := by rw [ha]; exact putSel_on (e := (5, 91, .pointer (some ⟨L.g, 0, none⟩))) 5 rfl rfl (hon 5 (by kernel_rfl)) rfl
                  replace ha := Aside0.mk ha
                  have B0 := Aside0.mk (Q_B0 (hoff 17 (by kernel_rfl)))
                  refine value_ (w1 := w') (v := .pointer (some ⟨L.g, 0, none⟩)) (by rfl) rfl ?_ ?_
                  · go_simp
                    (try simp only [i64_w])
                    try rfl
                  refine hK.out _ _ ⟨gb, cb, A15, c15, m12_, m14_, (by rw [ha.out]; exact putSel_upk 6 hb_ rfl rfl rfl), Q_B0, fun h0_ _ => absurd ((hoff 12 (by kernel_rfl)).symm.trans h0_) (by decide), fun h0_ _ => absurd ((hoff 14 (by kernel_rfl)).symm.trans h0_) (by decide), fun h0_ => absurd ((hoff 17 (by kernel_rfl)).symm.trans h0_) (by decide), fun h0_ => absurd ((hoff 12 (by kernel_rfl)).symm.trans h0_) (by decide), fun h0_ => absurd ((hoff 14 (by kernel_rfl)).symm.trans h0_) (by decide)⟩
                refine steps_cons ?_ ?_
                · rintro b a w' ⟨gb, cb, A15, c15, m12_, m14_, ha, Q_B0, Q_CB, Q_CP, Q_FIN, Q_X12_, Q_X14_⟩ hb_ hon hoff
                  refine ⟨_, rfl, fun K hK => ?_⟩
                  have e92 : a.tmps[92]? = some (.pointer (some ⟨L.g, 0, none⟩)) := by rw [ha]; exact putSel_on (e := (6, 92, .pointer (some ⟨L.g, 0, none⟩))) 6 rfl rfl (hon 6 (by kernel_rfl)) rfl
                  replace ha := Aside0.mk ha
                  have B0 := Aside0.mk (Q_B0 (hoff 17 (by kernel_rfl)))
                  refine value_ (w1 := w') (v := .pointer (some ⟨L.g, 4, none⟩)) (by rfl) rfl ?_ ?_
                  · go_simp
                    (try simp only [i64_w])
                    try rfl
                  refine hK.out _ _ ⟨gb, cb, A15, c15, m12_, m14_, (by rw [ha.out]; exact putSel_upk 7 hb_ rfl rfl rfl), Q_B0, fun h0_ _ => absurd ((hoff 12 (by kernel_rfl)).symm.trans h0_) (by decide), fun h0_ _ => absurd ((hoff 14 (by kernel_rfl)).symm.trans h0_) (by decide), fun h0_ => absurd ((hoff 17 (by kernel_rfl)).symm.trans h0_) (by decide), fun h0_ => absurd ((hoff 12 (by kernel_rfl)).symm.trans h0_) (by decide), fun h0_ => absurd ((hoff 14 (by kernel_rfl)).symm.trans h0_) (by decide)⟩
                refine steps_cons ?_ ?_
                · rintro b a w' ⟨gb, cb, A15, c15, m12_, m14_, ha, Q_B0, Q_CB, Q_CP, Q_FIN, Q_X12_, Q_X14_⟩ hb_ hon hoff
                  refine ⟨_, rfl, fun K hK => ?_⟩
                  have e93 : a.tmps[93]? = some (.pointer (some ⟨L.g, 4, none⟩)) := by rw [ha]; exact putSel_on (e := (7, 93, .pointer (some ⟨L.g, 4, none⟩))) 7 rfl rfl (hon 7 (by kernel_rfl)) rfl
                  replace ha := Aside0.mk ha
                  have B0 := Aside0.mk (Q_B0 (hoff 17 (by kernel_rfl)))
                  have c_ := (xtop_cells (HDp.out.below B0.out)).2.2.2.2.1
                  refine value_ (w1 := w') (v := .slice (some ⟨L.gp, 0, none⟩) ps.length L.cp) (by rfl) rfl ?_ ?_
                  · go_simp
                    (try simp only [i64_w])
                    try rfl
                  refine hK.out _ _ ⟨gb, cb, A15, c15, m12_, m14_, (by rw [ha.out]; exact putSel_upk 8 hb_ rfl rfl rfl), Q_B0, fun h0_ _ => absurd ((hoff 12 (by kernel_rfl)).symm.trans h0_) (by decide), fun h0_ _ => absurd ((hoff 14 (by kernel_rfl)).symm.trans h0_) (by decide), fun h0_ => absurd ((hoff 17 (by kernel_rfl)).symm.trans h0_) (by decide), fun h0_ => absurd ((hoff 12 (by kernel_rfl)).symm.trans h0_) (by decide), fun h0_ => absurd ((hoff 14 (by kernel_rfl)).symm.trans h0_) (by decide)⟩
                refine steps_cons ?_ ?_
                · rintro b a w' ⟨gb, cb, A15, c15, m12_, m14_, ha, Q_B0, Q_CB, Q_CP, Q_FIN, Q_X12_, Q_X14_⟩ hb_ hon hoff
                  refine ⟨_, rfl, fun K hK => ?_⟩
                  have e7 : a.tmps[7]? = some (.int .i64 (j : Int)) := by rw [ha]; exact (putSel_off rfl).trans rfl
                  replace ha := Aside0.mk ha
                  have B0 := Aside0.mk (Q_B0 (hoff 17 (by kernel_rfl)))
                  refine value_ (w1 := w') (v := .int .i64 (j : Int)) (by rfl) rfl ?_ ?_
                  · go_simp
                    (try simp only [i64_w])
                    try rfl
                  refine hK.out _ _ ⟨gb, cb, A15, c15, m12_, m14_, (by rw [ha.out]; exact putSel_upk 9 hb_ rfl rfl rfl), Q_B0, fun h0_ _ => absurd ((hoff 12 (by kernel_rfl)).symm.trans h0_) (by decide), fun h0_ _ => absurd ((hoff 14 (by kernel_rfl)).symm.trans h0_) (by decide), fun h0_ => absurd ((hoff 17 (by kernel_rfl)).symm.trans h0_) (by decide), fun h0_ => absurd ((hoff 12 (by kernel_rfl)).symm.trans h0_) (by decide), fun h0_ => absurd ((hoff 14 (by kernel_rfl)).symm.trans h0_) (by decide)⟩
                refine steps_cons ?_ ?_
                · rintro b a w' ⟨gb, cb, A15, c15, m12_, m14_, ha, Q_B0, Q_CB, Q_CP, Q_FIN, Q_X12_, Q_X14_⟩ hb_ hon hoff
                  refine ⟨_, rfl, fun K hK => ?_⟩
                  have e94 : a.tmps[94]? = some (.slice (some ⟨L.gp, 0, none⟩) ps.length L.cp) := by rw [ha]; exact putSel_on (e := (8, 94, .slice (some ⟨L.gp, 0, none⟩) ps.length L.cp)) 8 rfl rfl (hon 8 (by kernel_rfl)) rfl
                  have e95 : a.tmps[95]? = some (.int .i64 (j : Int)) := by rw [ha]; exact putSel_on (e := (9, 95, .int .i64 (j : Int))) 9 rfl rfl (hon 9 (by kernel_rfl)) rfl
                  replace ha := Aside0.mk ha
                  have B0 := Aside0.mk (Q_B0 (hoff 17 (by kernel_rfl)))
                  have p_ := HP.out.1
                  have q_ := HP.out.2
                  refine value_ (w1 := w') (v := .pointer (some ⟨L.gp, j, none⟩)) (by rfl) rfl ?_ ?_
                  · go_simp
                    (try simp only [i64_w])
                    try rfl
                  refine hK.out _ _ ⟨gb, cb, A15, c15, m12_, m14_, (by rw [ha.out]; exact putSel_upk 10 hb_ rfl rfl rfl), Q_B0, fun h0_ _ => absurd ((hoff 12 (by kernel_rfl)).symm.trans h0_) (by decide), fun h0_ _ => absurd ((hoff 14 (by kernel_rfl)).symm.trans h0_) (by decide), fun h0_ => absurd ((hoff 17 (by kernel_rfl)).symm.trans h0_) (by decide), fun h0_ => absurd ((hoff 12 (by kernel_rfl)).symm.trans h0_) (by decide), fun h0_ => absurd ((hoff 14 (by kernel_rfl)).symm.trans h0_) (by decide)⟩
                refine steps_cons ?_ ?_
                · rintro b a w' ⟨gb, cb, A15, c15, m12_, m14_, ha, Q_B0, Q_CB, Q_CP, Q_FIN, Q_X12_, Q_X14_⟩ hb_ hon hoff
                  refine ⟨_, rfl, fun K hK => ?_⟩
                  have e96 : a.tmps[96]? = some (.pointer (some ⟨L.gp, j, none⟩)) := by rw [ha]; exact putSel_on (e := (10, 96, .pointer (some ⟨L.gp, j, none⟩))) 10 rfl rfl (hon 10 (by kernel_rfl)) rfl
                  replace ha := Aside0.mk ha
                  have B0 := Aside0.mk (Q_B0 (hoff 17 (by kernel_rfl)))
                  have c_ := (HDp.out.below B0.out).pg.cell HTX.out
                  refine value_ (w1 := w') (v := .string st) (by rfl) rfl ?_ ?_
                  · go_simp
                    (try simp only [i64_w])
                    try rfl
                  refine hK.out _ _ ⟨gb, cb, A15, c15, m12_, m14_, (by rw [ha.out]; exact putSel_upk 11 hb_ rfl rfl rfl), Q_B0, fun h0_ _ => absurd ((hoff 12 (by kernel_rfl)).symm.trans h0_) (by decide), fun h0_ _ => absurd ((hoff 14 (by kernel_rfl)).symm.trans h0_) (by decide), fun h0_ => absurd ((hoff 17 (by kernel_rfl)).symm.trans h0_) (by decide), fun h0_ => absurd ((hoff 12 (by kernel_rfl)).symm.trans h0_) (by decide), fun h0_ => absurd ((hoff 14 (by kernel_rfl)).symm.trans h0_) (by decide)⟩
                refine steps_cons ?_ ?_
                · rintro b a w' ⟨gb, cb, A15, c15, m12_, m14_, ha, Q_B0, Q_CB, Q_CP, Q_FIN, Q_X12_, Q_X14_⟩ hb_ hon hoff
                  refine ⟨_, rfl, fun K hK => ?_⟩
                  have e97 : a.tmps[97]? = some (.string st) := by rw [ha]; exact putSel_on (e := (11, 97, .string st)) 11 rfl rfl (hon 11 (by kernel_rfl)) rfl
                  replace ha := Aside0.mk ha
                  have B0 := Aside0.mk (Q_B0 (hoff 17 (by kernel_rfl)))
                  have kb_ := HKC.out
                  refine value_ (w1 := Lib.bytesWorld w' 5 st) (v := .slice (some ⟨w'.heap.size, 0, none⟩) 256 (grownCap w' 256 0 5)) (by rfl) rfl (by first | (go_simp; done) | (go_simp; rfl)) ?_
                  refine hK.out _ _ ⟨w'.heap.size, (grownCap w' 256 0 5), A15, c15, (.slice (some ⟨w'.heap.size, 0, none⟩) 256 (grownCap w' 256 0 5)), m14_, (by rw [ha.out]; exact putSel_upk 12 hb_ rfl rfl rfl), fun _ => bytes_below B0.out B0.out.size 5 st, fun _ _ => ⟨grownCap_ge w' 256 0 5, HTC.out w'⟩, fun h0_ _ => absurd ((hoff 14 (by kernel_rfl)).symm.trans h0_) (by decide), fun h0_ => absurd ((hoff 17 (by kernel_rfl)).symm.trans h0_) (by decide), fun _ => rfl, fun h0_ => absurd ((hoff 14 (by kernel_rfl)).symm.trans h0_) (by decide)⟩
                refine steps_cons ?_ ?_
                · rintro b a w' ⟨gb, cb, A15, c15, m12_, m14_, ha, Q_B0, Q_CB, Q_CP, Q_FIN, Q_X12_, Q_X14_⟩ hb_ hon hoff
                  refine ⟨_, rfl, fun K hK => ?_⟩
                  have e6 : a.tmps[6]? = some (.slice A3 m.length c3) := by rw [ha]; exact (putSel_off rfl).trans rfl
                  replace ha := Aside0.mk ha
                  have B0 := Aside0.mk (Q_B0 (hoff 17 (by kernel_rfl)))
                  refine value_ (w1 := w') (v := .slice A3 m.length c3) (by rfl) rfl ?_ ?_
                  · go_simp
                    (try simp only [i64_w])
                    try rfl
                  refine hK.out _ _ ⟨gb, cb, A15, c15, m12_, m14_, (by rw [ha.out]; exact putSel_upk 13 hb_ rfl rfl rfl), Q_B0, Q_CB, fun h0_ _ => absurd ((hoff 14 (by kernel_rfl)).symm.trans h0_) (by decide), fun h0_ => absurd ((hoff 17 (by kernel_rfl)).symm.trans h0_) (by decide), Q_X12_, fun h0_ => absurd ((hoff 14 (by kernel_rfl)).symm.trans h0_) (by decide)⟩
                refine steps_cons ?_ ?_
                · rintro b a w' ⟨gb, cb, A15, c15, m12_, m14_, ha, Q_B0, Q_CB, Q_CP, Q_FIN, Q_X12_, Q_X14_⟩ hb_ hon hoff
                  refine ⟨_, rfl, fun K hK => ?_⟩
                  have e98 : a.tmps[98]? = some (m12_) := by rw [ha]; exact putSel_on (e := (12, 98, m12_)) 12 rfl rfl (hon 12 (by kernel_rfl)) rfl
                  rw [Q_X12_ (hon 12 (by kernel_rfl))] at e98
                  have e99 : a.tmps[99]? = some (.slice A3 m.length c3) := by rw [ha]; exact putSel_on (e := (13, 99, .slice A3 m.length c3)) 13 rfl rfl (hon 13 (by kernel_rfl)) rfl
                  replace ha := Aside0.mk ha
                  have B0 := Aside0.mk (Q_B0 (hoff 17 (by kernel_rfl)))
                  have CB := Aside0.mk (Q_CB (hon 12 (by kernel_rfl)) hb_)
                  refine goes_ Try.func78 (by kernel_rfl) rfl #[.slice (some ⟨gb, 0, none⟩) 256 cb, .slice A3 m.length c3] (by rfl) rfl rfl (by first | (simp only [List.map_toArray, List.map_cons, List.map_nil, Act.eval, Array.getD_eq_getD_getElem?, Option.getD_some, e98, e99]; done) | (simp only [List.map_toArray, List.map_cons, List.map_nil, Act.eval, Array.getD_eq_getD_getElem?, Option.getD_some, e98, e99]; rfl)) ?_
                  with_reducible refine (HWT.out _ B0.out _ cb CB.out.1 CB.out.2).mono ?_
                  rintro e w2 ⟨A_, c_, rfl, hc_, hC_, hb⟩
                  refine ⟨_, rfl, ?_⟩
                  refine hK.out _ _ ⟨gb, cb, A_, c_, m12_, (.slice A_ 256 c_), (by rw [ha.out]; exact putSel_upk 14 hb_ rfl rfl rfl), fun _ => below_then B0.out B0.out.size hb, fun _ h1_ => absurd ((up_self b 14).symm.trans h1_) (by decide), fun _ _ => ⟨hc_, hC_⟩, fun h0_ => absurd ((hoff 17 (by kernel_rfl)).symm.trans h0_) (by decide), Q_X12_, fun _ => rfl⟩
                refine steps_cons ?_ ?_
                · rintro b a w' ⟨gb, cb, A15, c15, m12_, m14_, ha, Q_B0, Q_CB, Q_CP, Q_FIN, Q_X12_, Q_X14_⟩ hb_ hon hoff
                  refine ⟨_, rfl, fun K hK => ?_⟩
                  have e100 : a.tmps[100]? = some (m14_) := by rw [ha]; exact putSel_on (e := (14, 100, m14_)) 14 rfl rfl (hon 14 (by kernel_rfl)) rfl
                  rw [Q_X14_ (hon 14 (by kernel_rfl))] at e100
                  replace ha := Aside0.mk ha
                  have B0 := Aside0.mk (Q_B0 (hoff 17 (by kernel_rfl)))
                  have CP := Aside0.mk (Q_CP (hon 14 (by kernel_rfl)) hb_)
                  have q_ := HSN.out w' A15 c15 CP.out.2
                  refine value_ (w1 := w') (v := .string sn) (by rfl) rfl ?_ ?_
                  · go_simp
                    (try simp only [i64_w])
                    try rfl
                  refine hK.out _ _ ⟨gb, cb, A15, c15, m12_, m14_, (by rw [ha.out]; exact putSel_upk 15 hb_ rfl rfl rfl), Q_B0, fun _ h1_ => absurd ((hon 14 (by kernel_rfl)).symm.trans h1_) (by decide), fun _ h1_ => absurd ((up_self b 15).symm.trans h1_) (by decide), fun h0_ => absurd ((hoff 17 (by kernel_rfl)).symm.trans h0_) (by decide), Q_X12_, Q_X14_⟩
                refine steps_cons ?_ ?_
                · rintro b a w' ⟨gb, cb, A15, c15, m12_, m14_, ha, Q_B0, Q_CB, Q_CP, Q_FIN, Q_X12_, Q_X14_⟩ hb_ hon hoff
                  refine ⟨_, rfl, fun K hK => ?_⟩
                  have e89 : a.tmps[89]? = some (.slice (some ⟨L.gp, 0, none⟩) ps.length L.cp) := by rw [ha]; exact putSel_on (e := (3, 89, .slice (some ⟨L.gp, 0, none⟩) ps.length L.cp)) 3 rfl rfl (hon 3 (by kernel_rfl)) rfl
                  have e90 : a.tmps[90]? = some (.int .i64 (j : Int)) := by rw [ha]; exact putSel_on (e := (4, 90, .int .i64 (j : Int))) 4 rfl rfl (hon 4 (by kernel_rfl)) rfl
                  replace ha := Aside0.mk ha
                  have B0 := Aside0.mk (Q_B0 (hoff 17 (by kernel_rfl)))
                  have p_ := HP.out.1
                  have q_ := HP.out.2
                  refine value_ (w1 := w') (v := .pointer (some ⟨L.gp, j, none⟩)) (by rfl) rfl ?_ ?_
                  · go_simp
                    (try simp only [i64_w])
                    try rfl
                  refine hK.out _ _ ⟨gb, cb, A15, c15, m12_, m14_, (by rw [ha.out]; exact putSel_upk 16 hb_ rfl rfl rfl), Q_B0, fun _ h1_ => absurd ((hon 14 (by kernel_rfl)).symm.trans h1_) (by decide), fun _ h1_ => absurd ((hon 15 (by kernel_rfl)).symm.trans h1_) (by decide), fun h0_ => absurd ((hoff 17 (by kernel_rfl)).symm.trans h0_) (by decide), Q_X12_, Q_X14_⟩
                refine steps_cons ?_ ?_
                · rintro b a w' ⟨gb, cb, A15, c15, m12_, m14_, ha, Q_B0, Q_CB, Q_CP, Q_FIN, Q_X12_, Q_X14_⟩ hb_ hon hoff
                  refine ⟨_, rfl, fun K hK => ?_⟩
                  have e102 : a.tmps[102]? = some (.pointer (some ⟨L.gp, j, none⟩)) := by rw [ha]; exact putSel_on (e := (16, 102, .pointer (some ⟨L.gp, j, none⟩))) 16 rfl rfl (hon 16 (by kernel_rfl)) rfl
                  have e101 : a.tmps[101]? = some (.string sn) := by rw [ha]; exact putSel_on (e := (15, 101, .string sn)) 15 rfl rfl (hon 15 (by kernel_rfl)) rfl
                  replace ha := Aside0.mk ha
                  have B0 := Aside0.mk (Q_B0 hb_)
                  have c_ := (HDp.out.below B0.out).pg.cell HTX.out
                  have fr_ := (HDp.out.below B0.out).pg.frozen j
                  refine skip_ (w1 := ?_) (by rfl) rfl ?_ ?_
                  rotate_left
                  · go_simp
                    rfl
                  refine hK.out _ _ ⟨gb, cb, A15, c15, m12_, m14_, (by rw [ha.out]; exact putSel_none (v := undef) rfl), fun h0_ => absurd ((up_self b 17).symm.trans h0_) (by decide), fun _ h1_ => absurd ((hon 14 (by kernel_rfl)).symm.trans h1_) (by decide), fun _ h1_ => absurd ((hon 15 (by kernel_rfl)).symm.trans h1_) (by decide), fun _ => ⟨by rw [HEQ.out.2.2.1]; exact (HDp.out.below B0.out).set_page j HPN.out, (Turn.of_below B0.out L.S).setCell (p := ⟨L.gp, j, none⟩) (.inl (.inr (.inl rfl))) _⟩, Q_X12_, Q_X14_⟩
                exact steps_nil
              rintro b a w16 hall ⟨gb, cb, A15, c15, m12_, m14_, ha, Q_B0, Q_CB, Q_CP, Q_FIN, Q_X12_, Q_X14_⟩
              clear B0
              have hb0_ := hall 0 (by kernel_rfl)
              have hb1_ := hall 1 (by kernel_rfl)
              have hb2_ := hall 2 (by kernel_rfl)
              have hb3_ := hall 3 (by kernel_rfl)
              have hb4_ := hall 4 (by kernel_rfl)
              have hb5_ := hall 5 (by kernel_rfl)
              have hb6_ := hall 6 (by kernel_rfl)
              have hb7_ := hall 7 (by kernel_rfl)
              have hb8_ := hall 8 (by kernel_rfl)
              have hb9_ := hall 9 (by kernel_rfl)
              have hb10_ := hall 10 (by kernel_rfl)
              have hb11_ := hall 11 (by kernel_rfl)
              have hb12_ := hall 12 (by kernel_rfl)
              have hb13_ := hall 13 (by kernel_rfl)
              have hb14_ := hall 14 (by kernel_rfl)
              have hb15_ := hall 15 (by kernel_rfl)
              have hb16_ := hall 16 (by kernel_rfl)
              have hb17_ := hall 17 (by kernel_rfl)
              subst ha
              obtain rfl := Q_X12_ hb12_
              obtain rfl := Q_X14_ hb14_
              simp only [putSel, hb0_, hb1_, hb2_, hb3_, hb4_, hb5_, hb6_, hb7_, hb8_, hb9_, hb10_, hb11_, hb12_, hb13_, hb14_, hb15_, hb16_, hb17_, if_true, Act.put, List.setIfInBounds_toArray, List.set_cons_zero, List.set_cons_succ]
              clear Q_B0
              clear Q_CB
              clear Q_CP
              have FIN := Aside0.mk (Q_FIN hb17_)
              clear Q_FIN
              clear hall hb0_ hb1_ hb2_ hb3_ hb4_ hb5_ hb6_ hb7_ hb8_ hb9_ hb10_ hb11_ hb12_ hb13_ hb14_ hb15_ hb16_ hb17_
              go_wp2_with fail
              go_roundg (Pn - k)
              case measure => have := HI.out; have := HK2.out; omega
              case rel =>
                refine ⟨j + 1, k + 1, by first | rfl | simp, ⟨by have := HI.out; omega, by have := HK2.out; omega, by have := HI.out; have := HK2.out; omega⟩, ⟨?_⟩, ⟨HT.out.trans FIN.out.2 (fun k hk => .inl hk)⟩⟩
                have h16 := FIN.out.1
                rw [HEQ.out.2.2.2, HEQ.out.2.1, HEQ.out.1, HI.out.1, wipedTo_succ _ _ _ _ (by rw [← HI.out.1]; exact HKB.out)] at h16
                exact h16
end Go.Proofs.Ytnchdmidaigheaa.ND
namespace Go.Proofs.Ytnchdmidaigheaa.ND
set_option linter.unusedVariables false
set_option linter.unusedSimpArgs false
open Go.RowKit Go.Proofs.Ytnchdmidaigheaa.Hp Go.Proofs.YtnchdmidaigheaaW.PrintWords Go.Proofs.YtnchdmidaigheaaW.PrintLast Go.Proofs.YtnchdmidaigheaaW.PrintMore
def xread5.T5 : Bool × List (List Nat × List Nat) := (true, [([], []), ([0], [0]), ([1], [1]), ([2], [2]), ([], []), ([4], [4]), ([], []), ([6], [6]), ([7], [7]), ([8], [8]), ([9], [9]), ([5, 10], [5, 10]), ([], []), ([12], [12]), ([11, 13], [11, 13]), ([3, 14], [3, 14]), ([15], [15]), ([16, 0, 1, 2, 3, 4, 5, 6, 7, 8, 9, 10, 11, 12, 13, 14, 15, 16], [16]), ([17, 0, 1, 2, 3, 4, 5, 6, 7, 8, 9, 10, 11, 12, 13, 14, 15, 16, 17], [])])
def xread5.B5 : List Nat := [0, 1, 3, 7, 0, 16, 0, 64, 192, 448, 960, 2032, 0, 4096, 16368, 32767, 65535, 131071, 262143]
theorem xread5.tab5 : rtab .any (opsOf Try.f27 5) = xread5.T5 := by kernel_rfl
theorem xread5.bits5 : waitsOk xread5.T5.2 xread5.B5 = true := by kernel_rfl
set_option maxHeartbeats 1000000 in
set_option maxRecDepth 100000 in
theorem xread_calls {W : World} {ok : Nat → Prop} {L : XLay} {D : Dv} (h : XV W ok L D) (bk pg : Int) :
    Calls Try.prog 27 #[.pointer (some ⟨L.g, 0, none⟩), .agg #[.int .i64 bk, .int .i64 pg]] W fun e w' => e = .returned (.tuple #[.string (strOfNums (D.read bk pg).1), .int .i64 (D.read bk pg).2]) ∧ Below W.heap.size W w' := by
  have H00 := Aside0.mk h
  obtain ⟨r, hr⟩ : ∃ r, r = D.read bk pg := ⟨_, rfl⟩
  rw [← hr]
  have HRR := Aside0.mk hr
  have hz4 := heap_alloc_new W (.cells #[.int .i64 bk, .int .i64 pg] 37)
  have hb4 := below_alloc (Below.refl W.heap.size W) (.cells #[.int .i64 bk, .int .i64 pg] 37)
  obtain ⟨g4, hg4⟩ : ∃ g, g = W.heap.size := ⟨_, rfl⟩
  clear hr h
  go_enter Try.func27, Try.ntmps27
  go_upto_region 1 with fail
  generalize W.alloc (.cells #[.int .i64 bk, .int .i64 pg] 37) = W2 at hz4 hb4 ⊢
  rw [← hg4] at hz4 ⊢
  have HB2 := Aside0.mk hb4
  have HZ4 := Aside0.mk hz4
  have H2 := Aside0.mk (H00.out.below hb4)
  have c9 := (xtop_cells H2.out).2.2.2.2.2.2.2.2.2
  clear hg4 hz4 hb4
  cases hd : D.down with
  | true =>
    rw [hd] at c9
    have HR1 : Aside0 (r = ([], 9)) := ⟨by rw [HRR.out]; unfold Dv.read; rw [if_pos hd]⟩
    clear hd
    go_wp2_with fail
    go_ret2
    rw [HR1.out]
    exact ⟨rfl, HB2.out⟩
  | false =>
    rw [hd] at c9
    have HHE := Aside0.mk (xhere_calls H2.out bk pg)
    have z0 := blk_cell HZ4.out 0
    have z1 := blk_cell HZ4.out 1
    cases hh : D.here bk pg with
    | false =>
      rw [hh] at HHE
      have HR1 : Aside0 (r = ([], 3)) := ⟨by rw [HRR.out]; unfold Dv.read; rw [if_neg (by rw [hd]; decide), if_pos hh]⟩
      clear hh hd
      go_wp2_with (go_at_call 74; refine HHE.out.mono ?_; rintro e w3 ⟨rfl, hb⟩; have HB3 := Aside0.mk (below_then HB2.out HB2.out.size hb); clear hb z0 z1 c9)
      go_ret2
      rw [HR1.out]
      exact ⟨rfl, HB3.out⟩
    | true =>
      rw [hh] at HHE
      have hix := H00.out.ok.idx hh
      obtain ⟨i, hi⟩ : ∃ i, i = D.idx bk pg := ⟨_, rfl⟩
      rw [← hi] at hix
      have HR1 : Aside0 (r = (D.pages.getD i [], 0)) := ⟨by rw [HRR.out]; unfold Dv.read; rw [if_neg (by rw [hd]; decide), if_neg (by rw [hh]; decide), hi]⟩
      obtain ⟨⟨h1, h2⟩, h3, h4⟩ := here_iff.1 hh
      have HIX : Aside0 (IntKind.i64.wrap (bk * D.P) = bk * D.P ∧ wrap64 (bk * D.P) = bk * D.P ∧ IntKind.i64.wrap (bk * D.P + pg) = (i : Int) ∧ wrap64 (bk * D.P + pg) = (i : Int)) := by
        have hs := H00.out.ok.size
        have hpl := H00.out.ok.pl
        have h0 : 0 ≤ bk * D.P := Int.mul_nonneg (by omega) (by omega)
        have e1 := wrap_id (x := bk * D.P) (by omega) (by have := hix.1; omega)
        have e2 := wrap_id (x := bk * D.P + pg) (by omega) (by have := hix.1; omega)
        exact ⟨e1.1, e1.2, by rw [e2.1]; exact hix.1.symm, by rw [e2.2]; exact hix.1.symm⟩
      obtain ⟨st, hst⟩ : ∃ x, x = strOfNums (D.pages.getD i []) := ⟨_, rfl⟩
      have HTX : Aside0 ((texts D.pages)[i]? = some (.string st)) := ⟨by rw [hst]; exact texts_at hix.2⟩
      have HST := Aside0.mk hst
      have HP := Aside0.mk (And.intro (eq_true (show (0 : Int) ≤ (i : Int) by omega)) (eq_true (show (i : Int) < ((D.pages.length : Nat) : Int) by have := hix.2; omega)))
      clear hi hix hd hh h1 h2 h3 h4 hst
      go_upto_region 5 with (go_at_call 74; refine HHE.out.mono ?_; rintro e w3 ⟨rfl, hb⟩; have HB3 := Aside0.mk (below_then HB2.out HB2.out.size hb); have HZ3 := Aside0.mk (blk_below HZ4.out hb); clear hb z0 z1 c9)
      have H3 := Aside0.mk (H00.out.below HB3.out)
      have B0 := Aside0.mk (below_drew1 (Below.refl w3.heap.size w3))
      refine start_ (n := 19) (S := fun w' => True) (ds := []) #[false, false, false, false, false, false, false, false, false, false, false, false, false, false, false, false, false, false, false] (by kernel_rfl) rfl rfl trivial (fun hHeld => ?_)
      refine with_tabW xread5.tab5 xread5.bits5 (fun HT_ HW_ => ?_)
      generalize w3.drew = wq at B0 hHeld ⊢
      refine inv_at [0, 1, 2, 3, 4, 5, 6, 7, 8, 9, 10, 11, 12, 13, 14, 15, 16, 17, 18] (fun a0_ b a w' => a = putSel a0_ b [(0, 14, .pointer (some ⟨L.g, 0, none⟩)), (1, 15, .pointer (some ⟨L.g, 0, none⟩)), (2, 16, .pointer (some ⟨L.g, 4, none⟩)), (3, 17, .slice (some ⟨L.gp, 0, none⟩) D.pages.length L.cp), (4, 18, .pointer (some ⟨g4, 0, none⟩)), (5, 19, .int .i64 bk), (6, 20, .pointer (some ⟨L.g, 0, none⟩)), (7, 21, .pointer (some ⟨L.g, 0, none⟩)), (8, 22, .pointer (some ⟨L.g, 0, none⟩)), (9, 23, .pointer (some ⟨L.g, 1, none⟩)), (10, 24, .int .i64 D.P), (11, 25, .int .i64 (bk * D.P)), (12, 26, .pointer (some ⟨g4, 1, none⟩)), (13, 27, .int .i64 pg), (14, 28, .int .i64 (i : Int)), (15, 29, .pointer (some ⟨L.gp, i, none⟩)), (16, 30, .string st), (17, 4, .string st), (18, 5, .int .i64 0)] ∧ (Below w3.heap.size w3 w')) HT_.out HW_.out (by kernel_rfl) (by kernel_rfl) ?_ ?_ ?_
      · exact ⟨by simp only [putSel, Bool.false_eq_true, if_false], B0.out⟩
      · skip
        clear B0
        refine steps_cons ?_ ?_
        · rintro b a w' ⟨ha, Q_B0⟩ hb_ hon hoff
          refine ⟨_, rfl, fun K hK => ?_⟩
          have e0 : a.tmps[0]? = some (.pointer (some ⟨L.g, 0, none⟩)) := by rw [ha]; exact (putSel_off rfl).trans rfl
          replace ha := Aside0.mk ha
          have B0 := Aside0.mk Q_B0
          refine value_ (w1 := w') (v := .pointer (some ⟨L.g, 0, none⟩)) (by rfl) rfl ?_ ?_
          · go_simp
            (try simp only [i64_w])
            try rfl
          refine hK.out _ _ ⟨(by rw [ha.out]; exact putSel_upk 0 hb_ rfl rfl rfl), Q_B0⟩
        refine steps_cons ?_ ?_
        · rintro b a w' ⟨ha, Q_B0⟩ hb_ hon hoff
          refine ⟨_, rfl, fun K hK => ?_⟩
          have e14 : a.tmps[14]? = some (.pointer (some ⟨L.g, 0, none⟩)) := by rw [ha]; exact putSel_on (e := (0, 14, .pointer (some ⟨L.g, 0, none⟩))) 0 rfl rfl (hon 0 (by kernel_rfl)) rfl
          replace ha := Aside0.mk ha
          have B0 := Aside0.mk Q_B0
          refine value_ (w1 := w') (v := .pointer (some ⟨L.g, 0, none⟩)) (by rfl) rfl ?_ ?_
          · go_simp
            (try simp only [i64_w])
            try rfl
          refine hK.out _ _ ⟨(by rw [ha.out]; exact putSel_upk 1 hb_ rfl rfl rfl), Q_B0⟩
        refine steps_cons ?_ ?_
        · rintro b a w' ⟨ha, Q_B0⟩ hb_ hon hoff
          refine ⟨_, rfl, fun K hK => ?_⟩
          have e15 : a.tmps[15]? = some (.pointer (some ⟨L.g, 0, none⟩)) := by rw [ha]; exact putSel_on (e := (1, 15, .pointer (some ⟨L.g, 0, none⟩))) 1 rfl rfl (hon 1 (by kernel_rfl)) rfl
          replace ha := Aside0.mk ha
          have B0 := Aside0.mk Q_B0
          refine value_ (w1 := w') (v := .pointer (some ⟨L.g, 4, none⟩)) (by rfl) rfl ?_ ?_
          · go_simp
            (try simp only [i64_w])
            try rfl
          refine hK.out _ _ ⟨(by rw [ha.out]; exact putSel_upk 2 hb_ rfl rfl rfl), Q_B0⟩
        refine steps_cons ?_ ?_
        · rintro b a w' ⟨ha, Q_B0⟩ hb_ hon hoff
          refine ⟨_, rfl, fun K hK => ?_⟩
          have e16 : a.tmps[16]? = some (.pointer (some ⟨L.g, 4, none⟩)) := by rw [ha]; exact putSel_on (e := (2, 16, .pointer (some ⟨L.g, 4, none⟩))) 2 rfl rfl (hon 2 (by kernel_rfl)) rfl
          replace ha := Aside0.mk ha
          have B0 := Aside0.mk Q_B0
          have c_ := (xtop_cells (H3.out.below B0.out)).2.2.2.2.1
          refine value_ (w1 := w') (v := .slice (some ⟨L.gp, 0, none⟩) D.pages.length L.cp) (by rfl) rfl ?_ ?_
          · go_simp
            (try simp only [i64_w])
            try rfl
          refine hK.out _ _ ⟨(by rw [ha.out]; exact putSel_upk 3 hb_ rfl rfl rfl), Q_B0⟩
        refine steps_cons ?_ ?_
        · rintro b a w' ⟨ha, Q_B0⟩ hb_ hon hoff
          refine ⟨_, rfl, fun K hK => ?_⟩
          have e3 : a.tmps[3]? = some (.pointer (some ⟨g4, 0, none⟩)) := by rw [ha]; exact (putSel_off rfl).trans rfl
          replace ha := Aside0.mk ha
          have B0 := Aside0.mk Q_B0
          refine value_ (w1 := w') (v := .pointer (some ⟨g4, 0, none⟩)) (by rfl) rfl ?_ ?_
          · go_simp
            (try simp only [i64_w])
            try rfl
          refine hK.out _ _ ⟨(by rw [ha.out]; exact putSel_upk 4 hb_ rfl rfl rfl), Q_B0⟩
        refine steps_cons ?_ ?_
        · rintro b a w' ⟨ha, Q_B0⟩ hb_ hon hoff
          refine ⟨_, rfl, fun K hK => ?_⟩
          have e18 : a.tmps[18]? = some (.pointer (some ⟨g4, 0, none⟩)) := by rw [ha]; exact putSel_on (e := (4, 18, .pointer (some ⟨g4, 0, none⟩))) 4 rfl rfl (hon 4 (by kernel_rfl)) rfl
          replace ha := Aside0.mk ha
          have B0 := Aside0.mk Q_B0
          have c_ := blk_cell (blk_below HZ3.out B0.out) 0
          refine value_ (w1 := w') (v := .int .i64 bk) (by rfl) rfl ?_ ?_
          · go_simp
            (try simp only [i64_w])
            try rfl
          refine hK.out _ _ ⟨(by rw [ha.out]; exact putSel_upk 5 hb_ rfl rfl rfl), Q_B0⟩
        refine steps_cons ?_ ?_
        · rintro b a w' ⟨ha, Q_B0⟩ hb_ hon hoff
          refine ⟨_, rfl, fun K hK => ?_⟩
          have e0 : a.tmps[0]? = some (.pointer (some ⟨L.g, 0, none⟩)) := by rw [ha]; exact (putSel_off rfl).trans rfl
          replace ha := Aside0.mk ha
          have B0 := Aside0.mk Q_B0
          refine value_ (w1 := w') (v := .pointer (some ⟨L.g, 0, none⟩)) (by rfl) rfl ?_ ?_
          · go_simp
            (try simp only [i64_w])
            try rfl
          refine hK.out _ _ ⟨(by rw [ha.out]; exact putSel_upk 6 hb_ rfl rfl rfl), Q_B0⟩
        refine steps_cons ?_ ?_
        · rintro b a w' ⟨ha, Q_B0⟩ hb_ hon hoff
          refine ⟨_, rfl, fun K hK => ?_⟩
          have e20 : a.tmps[20]? = some (.pointer (some ⟨L.g, 0, none⟩)) := by rw [ha]; exact putSel_on (e := (6, 20, .pointer (some ⟨L.g, 0, none⟩))) 6 rfl rfl (hon 6 (by kernel_rfl)) rfl
          replace ha := Aside0.mk ha
          have B0 := Aside0.mk Q_B0
          refine value_ (w1 := w') (v := .pointer (some ⟨L.g, 0, none⟩)) (by rfl) rfl ?_ ?_
          · go_simp
            (try simp only [i64_w])
            try rfl
          refine hK.out _ _ ⟨(by rw [ha.out]; exact putSel_upk 7 hb_ rfl rfl rfl), Q_B0⟩
        refine steps_cons ?_ ?_
        · rintro b a w' ⟨ha, Q_B0⟩ hb_ hon hoff
          refine ⟨_, rfl, fun K hK => ?_⟩
          have e21 : a.tmps[21]? = some (.pointer (some ⟨L.g, 0, none⟩)) := by rw [ha]; exact putSel_on (e := (7, 21, .pointer (some ⟨L.g, 0, none⟩))) 7 rfl rfl (hon 7 (by kernel_rfl)) rfl
          replace ha := Aside0.mk ha
          have B0 := Aside0.mk Q_B0
          refine value_ (w1 := w') (v := .pointer (some ⟨L.g, 0, none⟩)) (by rfl) rfl ?_ ?_
          · go_simp
            (try simp only [i64_w])
            try rfl
          refine hK.out _ _ ⟨(by rw [ha.out]; exact putSel_upk 8 hb_ rfl rfl rfl), Q_B0⟩
        refine steps_cons ?_ ?_
        · rintro b a w' ⟨ha, Q_B0⟩ hb_ hon hoff
          refine ⟨_, rfl, fun K hK => ?_⟩
          have e22 : a.tmps[22]? = some (.pointer (some ⟨L.g, 0, none⟩)) := by rw [ha]; exact putSel_on (e := (8, 22, .pointer (some ⟨L.g, 0, none⟩))) 8 rfl rfl (hon 8 (by kernel_rfl)) rfl
          replace ha := Aside0.mk ha
          have B0 := Aside0.mk Q_B0
          refine value_ (w1 := w') (v := .pointer (some ⟨L.g, 1, none⟩)) (by rfl) rfl ?_ ?_
          · go_simp
            (try simp only [i64_w])
            try rfl
          refine hK.out _ _ ⟨(by rw [ha.out]; exact putSel_upk 9 hb_ rfl rfl rfl), Q_B0⟩
        refine steps_cons ?_ ?_
        · rintro b a w' ⟨ha, Q_B0⟩ hb_ hon hoff
          refine ⟨_, rfl, fun K hK => ?_⟩
          have e23 : a.tmps[23]? = some (.pointer (some ⟨L.g, 1, none⟩)) := by rw [ha]; exact putSel_on (e := (9, 23, .pointer (some ⟨L.g, 1, none⟩))) 9 rfl rfl (hon 9 (by kernel_rfl)) rfl
          replace ha := Aside0.mk ha
          have B0 := Aside0.mk Q_B0
          have c_ := (xtop_cells (H3.out.below B0.out)).2.1
          refine value_ (w1 := w') (v := .int .i64 D.P) (by rfl) rfl ?_ ?_
          · go_simp
            (try simp only [i64_w])
            try rfl
          refine hK.out _ _ ⟨(by rw [ha.out]; exact putSel_upk 10 hb_ rfl rfl rfl), Q_B0⟩
        refine steps_cons ?_ ?_
        · rintro b a w' ⟨ha, Q_B0⟩ hb_ hon hoff
          refine ⟨_, rfl, fun K hK => ?_⟩
          have e19 : a.tmps[19]? = some (.int .i64 bk) := by rw [ha]; exact putSel_on (e := (5, 19, .int .i64 bk)) 5 rfl rfl (hon 5 (by kernel_rfl)) rfl
          have e24 : a.tmps[24]? = some (.int .i64 D.P) := by rw [ha]; exact putSel_on (e := (10, 24, .int .i64 D.P)) 10 rfl rfl (hon 10 (by kernel_rfl)) rfl
          replace ha := Aside0.mk ha
          have B0 := Aside0.mk Q_B0
          have q_ := HIX.out.1
          have q2_ := HIX.out.2.1
          refine value_ (w1 := w') (v := .int .i64 (bk * D.P)) (by rfl) rfl ?_ ?_
          · go_simp
            (try simp only [i64_w])
            try rfl
          refine hK.out _ _ ⟨(by rw [ha.out]; exact putSel_upk 11 hb_ rfl rfl rfl), Q_B0⟩
        refine steps_cons ?_ ?_
        · rintro b a w' ⟨ha, Q_B0⟩ hb_ hon hoff
          refine ⟨_, rfl, fun K hK => ?_⟩
          have e3 : a.tmps[3]? = some (.pointer (some ⟨g4, 0, none⟩)) := by rw [ha]; exact (putSel_off rfl).trans rfl
          replace ha := Aside0.mk ha
          have B0 := Aside0.mk Q_B0
          refine value_ (w1 := w') (v := .pointer (some ⟨g4, 1, none⟩)) (by rfl) rfl ?_ ?_
          · go_simp
            (try simp only [i64_w])
            try rfl
          refine hK.out _ _ ⟨(by rw [ha.out]; exact putSel_upk 12 hb_ rfl rfl rfl), Q_B0⟩
        refine steps_cons ?_ ?_
        · rintro b a w' ⟨ha, Q_B0⟩ hb_ hon hoff
          refine ⟨_, rfl, fun K hK => ?_⟩
          have e26 : a.tmps[26]? = some (.pointer (some ⟨g4, 1, none⟩)) := by rw [ha]; exact putSel_on (e := (12, 26, .pointer (some ⟨g4, 1, none⟩))) 12 rfl rfl (hon 12 (by kernel_rfl)) rfl
          replace ha := Aside0.mk ha
          have B0 := Aside0.mk Q_B0
          have c_ := blk_cell (blk_below HZ3.out B0.out) 1
          refine value_ (w1 := w') (v := .int .i64 pg) (by rfl) rfl ?_ ?_
          · go_simp
            (try simp only [i64_w])
            try rfl
          refine hK.out _ _ ⟨(by rw [ha.out]; exact putSel_upk 13 hb_ rfl rfl rfl), Q_B0⟩
        refine steps_cons ?_ ?_
        · rintro b a w' ⟨ha, Q_B0⟩ hb_ hon hoff
          refine ⟨_, rfl, fun K hK => ?_⟩
          have e25 : a.tmps[25]? = some (.int .i64 (bk * D.P)) := by rw [ha]; exact putSel_on (e := (11, 25, .int .i64 (bk * D.P))) 11 rfl rfl (hon 11 (by kernel_rfl)) rfl
          have e27 : a.tmps[27]? = some (.int .i64 pg) := by rw [ha]; exact putSel_on (e := (13, 27, .int .i64 pg)) 13 rfl rfl (hon 13 (by kernel_rfl)) rfl
          replace ha := Aside0.mk ha
          have B0 := Aside0.mk Q_B0
          have q_ := HIX.out.2.2.1
          have q2_ := HIX.out.2.2.2
          refine value_ (w1 := w') (v := .int .i64 (i : Int)) (by rfl) rfl ?_ ?_
          · go_simp
            (try simp only [i64_w])
            try rfl
          refine hK.out _ _ ⟨(by rw [ha.out]; exact putSel_upk 14 hb_ rfl rfl rfl), Q_B0⟩
        refine steps_cons ?_ ?_
        · rintro b a w' ⟨ha, Q_B0⟩ hb_ hon hoff
          refine ⟨_, rfl, fun K hK => ?_⟩
          have e17 : a.tmps[17]? = some (.slice (some ⟨L.gp, 0, none⟩) D.pages.length L.cp) := by rw [ha]; exact putSel_on (e := (3, 17, .slice (some ⟨L.gp, 0, none⟩) D.pages.length L.cp)) 3 rfl rfl (hon 3 (by kernel_rfl)) rfl
          have e28 : a.tmps[28]? = some (.int .i64 (i : Int)) := by rw [ha]; exact putSel_on (e := (14, 28, .int .i64 (i : Int))) 14 rfl rfl (hon 14 (by kernel_rfl)) rfl
          replace ha := Aside0.mk ha
          have B0 := Aside0.mk Q_B0
          have p_ := HP.out.1
          have q_ := HP.out.2
          refine value_ (w1 := w') (v := .pointer (some ⟨L.gp, i, none⟩)) (by rfl) rfl ?_ ?_
          · go_simp
            (try simp only [i64_w])
            try rfl
          refine hK.out _ _ ⟨(by rw [ha.out]; exact putSel_upk 15 hb_ rfl rfl rfl), Q_B0⟩
        refine steps_cons ?_ ?_
        · rintro b a w' ⟨ha, Q_B0⟩ hb_ hon hoff
          refine ⟨_, rfl, fun K hK => ?_⟩
          have e29 : a.tmps[29]? = some (.pointer (some ⟨L.gp, i, none⟩)) := by rw [ha]; exact putSel_on (e := (15, 29, .pointer (some ⟨L.gp, i, none⟩))) 15 rfl rfl (hon 15 (by kernel_rfl)) rfl
          replace ha := Aside0.mk ha
          have B0 := Aside0.mk Q_B0
          have c_ := (H3.out.below B0.out).pg.cell HTX.out
          refine value_ (w1 := w') (v := .string st) (by rfl) rfl ?_ ?_
          · go_simp
            (try simp only [i64_w])
            try rfl
          refine hK.out _ _ ⟨(by rw [ha.out]; exact putSel_upk 16 hb_ rfl rfl rfl), Q_B0⟩
        refine steps_cons ?_ ?_
        · rintro b a w' ⟨ha, Q_B0⟩ hb_ hon hoff
          refine ⟨_, rfl, fun K hK => ?_⟩
          have e30 : a.tmps[30]? = some (.string st) := by rw [ha]; exact putSel_on (e := (16, 30, .string st)) 16 rfl rfl (hon 16 (by kernel_rfl)) rfl
          replace ha := Aside0.mk ha
          have B0 := Aside0.mk Q_B0
          refine value_ (w1 := w') (v := .string st) (by rfl) rfl ?_ ?_
          · go_simp
            (try simp only [i64_w])
            try rfl
          refine hK.out _ _ ⟨(by rw [ha.out]; exact putSel_upk 17 hb_ rfl rfl rfl), Q_B0⟩
        refine steps_cons ?_ ?_
        · rintro b a w' ⟨ha, Q_B0⟩ hb_ hon hoff
          refine ⟨_, rfl, fun K hK => ?_⟩
          replace ha := Aside0.mk ha
          have B0 := Aside0.mk Q_B0
          refine value_ (w1 := w') (v := .int .i64 0) (by rfl) rfl ?_ ?_
          · go_simp
            (try simp only [i64_w])
            try rfl
          refine hK.out _ _ ⟨(by rw [ha.out]; exact putSel_upk 18 hb_ rfl rfl rfl), Q_B0⟩
        exact steps_nil
      rintro b a w5 hall ⟨ha, Q_B0⟩
      clear B0
      have hb0_ := hall 0 (by kernel_rfl)
      have hb1_ := hall 1 (by kernel_rfl)
      have hb2_ := hall 2 (by kernel_rfl)
      have hb3_ := hall 3 (by kernel_rfl)
      have hb4_ := hall 4 (by kernel_rfl)
      have hb5_ := hall 5 (by kernel_rfl)
      have hb6_ := hall 6 (by kernel_rfl)
      have hb7_ := hall 7 (by kernel_rfl)
      have hb8_ := hall 8 (by kernel_rfl)
      have hb9_ := hall 9 (by kernel_rfl)
      have hb10_ := hall 10 (by kernel_rfl)
      have hb11_ := hall 11 (by kernel_rfl)
      have hb12_ := hall 12 (by kernel_rfl)
      have hb13_ := hall 13 (by kernel_rfl)
      have hb14_ := hall 14 (by kernel_rfl)
      have hb15_ := hall 15 (by kernel_rfl)
      have hb16_ := hall 16 (by kernel_rfl)
      have hb17_ := hall 17 (by kernel_rfl)
      have hb18_ := hall 18 (by kernel_rfl)
      subst ha
      simp only [putSel, hb0_, hb1_, hb2_, hb3_, hb4_, hb5_, hb6_, hb7_, hb8_, hb9_, hb10_, hb11_, hb12_, hb13_, hb14_, hb15_, hb16_, hb17_, hb18_, if_true, Act.put, List.setIfInBounds_toArray, List.set_cons_zero, List.set_cons_succ]
      have B0 := Aside0.mk Q_B0
      clear Q_B0
      clear hall hb0_ hb1_ hb2_ hb3_ hb4_ hb5_ hb6_ hb7_ hb8_ hb9_ hb10_ hb11_ hb12_ hb13_ hb14_ hb15_ hb16_ hb17_ hb18_
      go_wp2_with fail
      go_ret2
      rw [HR1.out]
      refine ⟨?_, below_then HB3.out HB3.out.size B0.out⟩
      show _ = Ending.returned (.tuple #[.string (strOfNums (D.pages.getD i [])), .int .i64 0])
      rw [← HST.out]
      rfl
end Go.Proofs.Ytnchdmidaigheaa.ND
namespace Go.Proofs.Ytnchdmidaigheaa.ND
set_option linter.unusedVariables false
set_option linter.unusedSimpArgs false
open Go.RowKit Go.Proofs.Ytnchdmidaigheaa.Hp Go.Proofs.YtnchdmidaigheaaW.PrintWords Go.Proofs.YtnchdmidaigheaaW.PrintLast Go.Proofs.YtnchdmidaigheaaW.PrintMore
def read4.T4 : Bool × List (List Nat × List Nat) := (true, [([], []), ([0], [0]), ([1], [1]), ([2], [2]), ([], []), ([3, 4], [3, 4]), ([5, 5, 0, 1, 2, 3, 4, 5], [5])])
def read4.B4 : List Nat := [0, 1, 3, 7, 0, 31, 63]
theorem read4.tab4 : rtab .any (opsOf Try.f21 4) = read4.T4 := by kernel_rfl
theorem read4.bits4 : waitsOk read4.T4.2 read4.B4 = true := by kernel_rfl
def ReadsTo (W w' : World) (e : Ending) (r : List Int × Int) : Prop := ∃ A c, e = .returned (.tuple #[.slice A r.1.length c, .int .i64 r.2]) ∧ r.1.length ≤ c ∧ Kd.F (Kd.int .u8) w' (fun k => W.heap.size ≤ k) A r.1.length r.1 ∧ Below W.heap.size W w'
set_option maxHeartbeats 2000000 in
set_option maxRecDepth 100000 in
theorem read_calls {W : World} {ok : Nat → Prop} {L : Lay} {D : Dv} (h : DV W ok L D) (bk pg : Int) :
    Calls Try.prog 21 #[.pointer (some ⟨L.g, 0, none⟩), .agg #[.int .i64 bk, .int .i64 pg]] W fun e w' => ReadsTo W w' e (D.read bk pg) := by
  have H00 := Aside0.mk h
  obtain ⟨r, hr⟩ : ∃ r, r = D.read bk pg := ⟨_, rfl⟩
  rw [← hr]
  have HRR := Aside0.mk hr
  have hz4 := heap_alloc_new W (.cells #[.int .i64 bk, .int .i64 pg] 37)
  have hb4 := below_alloc (Below.refl W.heap.size W) (.cells #[.int .i64 bk, .int .i64 pg] 37)
  obtain ⟨g4, hg4⟩ : ∃ g, g = W.heap.size := ⟨_, rfl⟩
  clear hr h
  go_enter Try.func21, Try.ntmps21
  go_upto_region 1 with fail
  generalize (W.alloc (.cells #[.int .i64 bk, .int .i64 pg] 37)) = W2 at hz4 hb4 ⊢
  rw [← hg4] at hz4 ⊢
  have HG := Aside0.mk hg4
  have HB2 := Aside0.mk hb4
  have HZ4 := Aside0.mk hz4
  have H2 := Aside0.mk (H00.out.below hb4)
  clear hg4 hz4 hb4
  cases hd : D.down with
  | true =>
    have HU := Aside0.mk (up_calls H2.out)
    rw [hd, if_pos rfl] at HU
    have HR1 : Aside0 (r = ([], 9)) := ⟨by rw [HRR.out]; unfold Dv.read; rw [if_pos hd]⟩
    clear hd
    go_wp2_with (go_at_call 63; refine HU.out.mono ?_; rintro e w3 ⟨rfl, hb⟩; have HB3 := Aside0.mk (below_then HB2.out HB2.out.size hb); clear hb)
    go_ret2
    rw [HR1.out]
    exact ⟨none, 0, rfl, Nat.le_refl _, Kd.F_nil _ _ _, HB3.out⟩
  | false =>
    have HU := Aside0.mk (up_calls H2.out)
    rw [hd, if_neg (by decide)] at HU
    go_upto_region 4 with (go_at_call 63; refine HU.out.mono ?_; rintro e w3 ⟨rfl, hb⟩; have HB3 := Aside0.mk (below_then HB2.out HB2.out.size hb); have HB23 := Aside0.mk hb; clear hb)
    have H3 := Aside0.mk (H2.out.below HB23.out)
    have HZ4_3 := Aside0.mk (blk_below HZ4.out HB23.out)
    have B0 := Aside0.mk (below_drew1 (Below.refl w3.heap.size w3))
    obtain ⟨pl, hpl⟩ : ∃ pl : Int, pl = if D.here bk pg = true then (D.idx bk pg : Int) else -1 := ⟨_, rfl⟩
    have HPL := Aside0.mk (fun w => geom_Place.calls D.B D.P D.C bk pg pl w (by rw [hpl]; exact place_f H00.out.ok bk pg))
    clear HU HZ4 H2 HB23
    refine start_ (n := 7) (S := fun w' => True) (ds := []) #[false, false, false, false, false, false, false] (by kernel_rfl) rfl rfl trivial (fun hHeld => ?_)
    refine with_tabW read4.tab4 read4.bits4 (fun HT_ HW_ => ?_)
    generalize w3.drew = wq at B0 hHeld ⊢
    refine inv_at [0, 1, 2, 3, 4, 5, 6] (fun a0_ b a w' => a = putSel a0_ b [(0, 14, .pointer (some ⟨L.g, 0, none⟩)), (1, 15, .pointer (some ⟨L.g, 0, none⟩)), (2, 16, .pointer (some ⟨L.g, 0, none⟩)), (3, 17, .agg #[.int .i64 D.B, .int .i64 D.P, .int .i64 D.C]), (4, 18, .agg #[.int .i64 bk, .int .i64 pg]), (5, 19, .int .i64 pl), (6, 7, .int .i64 pl)] ∧ (Below w3.heap.size w3 w')) HT_.out HW_.out (by kernel_rfl) (by kernel_rfl) ?_ ?_ ?_
    · exact ⟨by simp only [putSel, Bool.false_eq_true, if_false], B0.out⟩
    · skip
      clear B0
      refine steps_cons ?_ ?_
      · rintro b a w' ⟨ha, Q_B0⟩ hb_ hon hoff
        refine ⟨_, rfl, fun K hK => ?_⟩
        have e0 : a.tmps[0]? = some (.pointer (some ⟨L.g, 0, none⟩)) := by rw [ha]; exact (putSel_off rfl).trans rfl
        replace ha := Aside0.mk ha
        have B0 := Aside0.mk Q_B0
        refine value_ (w1 := w') (v := .pointer (some ⟨L.g, 0, none⟩)) (by rfl) rfl ?_ ?_
        · go_simp
          (try simp only [i64_w])
          try rfl
        refine hK.out _ _ ⟨(by rw [ha.out]; exact putSel_upk 0 hb_ rfl rfl rfl), Q_B0⟩
      refine steps_cons ?_ ?_
      · rintro b a w' ⟨ha, Q_B0⟩ hb_ hon hoff
        refine ⟨_, rfl, fun K hK => ?_⟩
        have e14 : a.tmps[14]? = some (.pointer (some ⟨L.g, 0, none⟩)) := by rw [ha]; exact putSel_on (e := (0, 14, .pointer (some ⟨L.g, 0, none⟩))) 0 rfl rfl (hon 0 (by kernel_rfl)) rfl
        replace ha := Aside0.mk ha
        have B0 := Aside0.mk Q_B0
        refine value_ (w1 := w') (v := .pointer (some ⟨L.g, 0, none⟩)) (by rfl) rfl ?_ ?_
        · go_simp
          (try simp only [i64_w])
          try rfl
        refine hK.out _ _ ⟨(by rw [ha.out]; exact putSel_upk 1 hb_ rfl rfl rfl), Q_B0⟩
      refine steps_cons ?_ ?_
      · rintro b a w' ⟨ha, Q_B0⟩ hb_ hon hoff
        refine ⟨_, rfl, fun K hK => ?_⟩
        have e15 : a.tmps[15]? = some (.pointer (some ⟨L.g, 0, none⟩)) := by rw [ha]; exact putSel_on (e := (1, 15, .pointer (some ⟨L.g, 0, none⟩))) 1 rfl rfl (hon 1 (by kernel_rfl)) rfl
        replace ha := Aside0.mk ha
        have B0 := Aside0.mk Q_B0
        refine value_ (w1 := w') (v := .pointer (some ⟨L.g, 0, none⟩)) (by rfl) rfl ?_ ?_
        · go_simp
          (try simp only [i64_w])
          try rfl
        refine hK.out _ _ ⟨(by rw [ha.out]; exact putSel_upk 2 hb_ rfl rfl rfl), Q_B0⟩
      refine steps_cons ?_ ?_
      · rintro b a w' ⟨ha, Q_B0⟩ hb_ hon hoff
        refine ⟨_, rfl, fun K hK => ?_⟩
        have e16 : a.tmps[16]? = some (.pointer (some ⟨L.g, 0, none⟩)) := by rw [ha]; exact putSel_on (e := (2, 16, .pointer (some ⟨L.g, 0, none⟩))) 2 rfl rfl (hon 2 (by kernel_rfl)) rfl
        replace ha := Aside0.mk ha
        have B0 := Aside0.mk Q_B0
        have hh_ := top_cells (H3.out.below B0.out)
        have c0_ := hh_.1
        have c1_ := hh_.2.1
        have c2_ := hh_.2.2.1
        clear hh_
        refine value_ (w1 := w') (v := .agg #[.int .i64 D.B, .int .i64 D.P, .int .i64 D.C]) (by rfl) rfl ?_ ?_
        · go_simp
          (try simp only [i64_w])
          try rfl
        refine hK.out _ _ ⟨(by rw [ha.out]; exact putSel_upk 3 hb_ rfl rfl rfl), Q_B0⟩
      refine steps_cons ?_ ?_
      · rintro b a w' ⟨ha, Q_B0⟩ hb_ hon hoff
        refine ⟨_, rfl, fun K hK => ?_⟩
        have e3 : a.tmps[3]? = some (.pointer (some ⟨g4, 0, none⟩)) := by rw [ha]; exact (putSel_off rfl).trans rfl
        replace ha := Aside0.mk ha
        have B0 := Aside0.mk Q_B0
        have c0_ := blk_cell (blk_below HZ4_3.out B0.out) 0
        have c1_ := blk_cell (blk_below HZ4_3.out B0.out) 1
        refine value_ (w1 := w') (v := .agg #[.int .i64 bk, .int .i64 pg]) (by rfl) rfl ?_ ?_
        · go_simp
          (try simp only [i64_w])
          try rfl
        refine hK.out _ _ ⟨(by rw [ha.out]; exact putSel_upk 4 hb_ rfl rfl rfl), Q_B0⟩
      refine steps_cons ?_ ?_
      · rintro b a w' ⟨ha, Q_B0⟩ hb_ hon hoff
        refine ⟨_, rfl, fun K hK => ?_⟩
        have e17 : a.tmps[17]? = some (.agg #[.int .i64 D.B, .int .i64 D.P, .int .i64 D.C]) := by rw [ha]; exact putSel_on (e := (3, 17, .agg #[.int .i64 D.B, .int .i64 D.P, .int .i64 D.C])) 3 rfl rfl (hon 3 (by kernel_rfl)) rfl
        have e18 : a.tmps[18]? = some (.agg #[.int .i64 bk, .int .i64 pg]) := by rw [ha]; exact putSel_on (e := (4, 18, .agg #[.int .i64 bk, .int .i64 pg])) 4 rfl rfl (hon 4 (by kernel_rfl)) rfl
        replace ha := Aside0.mk ha
        have B0 := Aside0.mk Q_B0
        refine goes_ Try.func69 (by kernel_rfl) rfl #[.agg #[.int .i64 D.B, .int .i64 D.P, .int .i64 D.C], .agg #[.int .i64 bk, .int .i64 pg]] (by rfl) rfl rfl (by first | (simp only [List.map_toArray, List.map_cons, List.map_nil, Act.eval, Array.getD_eq_getD_getElem?, Option.getD_some, e17, e18]; done) | (simp only [List.map_toArray, List.map_cons, List.map_nil, Act.eval, Array.getD_eq_getD_getElem?, Option.getD_some, e17, e18]; rfl)) ?_
        with_reducible refine (HPL.out _).mono ?_
        rintro e w2 ⟨rfl, hb⟩
        refine ⟨_, rfl, ?_⟩
        refine hK.out _ _ ⟨(by rw [ha.out]; exact putSel_upk 5 hb_ rfl rfl rfl), below_then B0.out B0.out.size hb⟩
      refine steps_cons ?_ ?_
      · rintro b a w' ⟨ha, Q_B0⟩ hb_ hon hoff
        refine ⟨_, rfl, fun K hK => ?_⟩
        have e19 : a.tmps[19]? = some (.int .i64 pl) := by rw [ha]; exact putSel_on (e := (5, 19, .int .i64 pl)) 5 rfl rfl (hon 5 (by kernel_rfl)) rfl
        replace ha := Aside0.mk ha
        have B0 := Aside0.mk Q_B0
        refine value_ (w1 := w') (v := .int .i64 pl) (by rfl) rfl ?_ ?_
        · go_simp
          (try simp only [i64_w])
          try rfl
        refine hK.out _ _ ⟨(by rw [ha.out]; exact putSel_upk 6 hb_ rfl rfl rfl), Q_B0⟩
      exact steps_nil
    rintro b a w4 hall ⟨ha, Q_B0⟩
    clear B0
    have hb0_ := hall 0 (by kernel_rfl)
    have hb1_ := hall 1 (by kernel_rfl)
    have hb2_ := hall 2 (by kernel_rfl)
    have hb3_ := hall 3 (by kernel_rfl)
    have hb4_ := hall 4 (by kernel_rfl)
    have hb5_ := hall 5 (by kernel_rfl)
    have hb6_ := hall 6 (by kernel_rfl)
    subst ha
    simp only [putSel, hb0_, hb1_, hb2_, hb3_, hb4_, hb5_, hb6_, if_true, Act.put, List.setIfInBounds_toArray, List.set_cons_zero, List.set_cons_succ]
    have B0 := Aside0.mk Q_B0
    clear Q_B0
    clear hall hb0_ hb1_ hb2_ hb3_ hb4_ hb5_ hb6_
    have HB4 := Aside0.mk (below_then HB3.out HB3.out.size B0.out)
    have H4 := Aside0.mk (H3.out.below B0.out)
    clear HPL H3 HZ4_3 B0 HB2 HB3
    cases hh : D.here bk pg with
    | false =>
      rw [hh, if_neg (by decide)] at hpl
      subst hpl
      have HR1 : Aside0 (r = ([], 3)) := ⟨by rw [HRR.out]; unfold Dv.read; rw [if_neg (by rw [hd]; decide), if_pos hh]⟩
      clear hh hd
      go_wp2_with fail
      go_ret2
      rw [HR1.out]
      exact ⟨none, 0, rfl, Nat.le_refl _, Kd.F_nil _ _ _, HB4.out⟩
    | true =>
      rw [hh, if_pos rfl] at hpl
      have hix := H00.out.ok.idx hh
      obtain ⟨i, hi⟩ : ∃ i, i = D.idx bk pg := ⟨_, rfl⟩
      rw [← hi] at hpl hix
      subst hpl
      have HI := Aside0.mk (And.intro hi hix.2)
      have tpl : decide ((i : Int) < 0) = false := decide_eq_false (by omega)
      have HR1 : Aside0 (r = (D.pages.getD i [], 0)) := ⟨by rw [HRR.out]; unfold Dv.read; rw [if_neg (by rw [hd]; decide), if_neg (by rw [hh]; decide), hi]⟩
      have hpo := page_ok H00.out.ok hix.2
      have HPO := Aside0.mk hpo
      obtain ⟨vs, hcv, hpg⟩ := H4.out.pg
      have hil : i < vs.length := by rw [hpg.1]; exact hix.2
      obtain ⟨Ai, ci, hv, hci, hFi⟩ := hpg.2 i vs[i] (D.pages.getD i []) (List.getElem?_eq_getElem hil) (by rw [List.getD_eq_getElem?_getD, List.getElem?_eq_getElem hix.2]; rfl)
      have HV : Aside0 (vs[i]? = some (.slice Ai 256 ci)) := ⟨by rw [List.getElem?_eq_getElem hil, hv]⟩
      have HC := Aside0.mk hcv
      have HFI := Aside0.mk (And.intro hci hFi)
      have HP := Aside0.mk (And.intro (eq_true (show (0 : Int) ≤ (i : Int) by omega)) (eq_true (show (i : Int) < ((D.pages.length : Nat) : Int) by have := hix.2; omega)))
      clear hi hix hd hh hpo hcv hpg hil hv hci hFi
      go_upto_region 8 with (at_make; refine Kd.R_make (Kd.int .u8) (w0 := w4) w4.heap.size 5 rfl rfl 38 _ _ rfl 256 rfl rfl Try.underlying38 (.int .u8 0) 1 (by kernel_rfl) rfl (by decide) (by decide) 0 (ok := fun k => w4.heap.size ≤ k) (okp := fun _ => False) rfl (fun k hk => hk.elim) (Nat.le_refl _) (by decide) (by decide) (Below.refl _ _) (Nat.le_refl _) ?_; intro v1 w7 hR7 hb7 hg7 hat7; have HR7 := Aside0.mk (And.intro hR7 hb7); clear hR7 hb7 hg7 hat7)
      have H7 := Aside0.mk (H4.out.below HR7.out.2)
      have c4 := (top_cells H7.out).2.2.2.2.1
      have cv := (HC.out.below HR7.out.2).cell HV.out
      have p1 := HP.out.1
      have q1 := HP.out.2
      go_upto_region 9 with ((with_reducible show Go.wpList _ _ _ ({ dst := _, op := .call { callee := .builtin .copy, args := _, argTypes := _ }, type := _, pos := _, after := _, guard := _ } :: _) _ _); refine Kd.R_copy (0 : Int) (w0 := w4) w4.heap.size rfl _ _ 38 38 5 rfl Try.underlying38 (by kernel_rfl) v1 (List.replicate 256 0) (D.pages.getD i []) Ai 256 ci (fun k => w4.heap.size ≤ k) rfl rfl HR7.out.1 (Kd.C_below (Kd.F_now HFI.out.2) HR7.out.2) HR7.out.2 HR7.out.2.size ?_; intro w8 hR8 hb8 hg8; have HR8 := Aside0.mk (And.intro hR8 hb8); clear hR8 hb8 hg8 p1 q1 c4 cv)
      go_wp2_with fail
      go_ret2
      have hl := HPO.out.2
      have hR := HR8.out.1
      rw [List.length_replicate, show min 256 256 = 256 from rfl, List.take_of_length_le (by omega), List.drop_of_length_le (by simp), List.append_nil] at hR
      obtain ⟨A, c, rfl, hc, _⟩ := Kd.R_reads hR
      rw [HR1.out]
      exact ⟨A, c, rfl, hc, Kd.F_mono (Kd.R_F hR) (fun k hk => Nat.le_trans HB4.out.size hk), below_then HB4.out HB4.out.size HR8.out.2⟩
end Go.Proofs.Ytnchdmidaigheaa.ND
namespace Go.Proofs.Ytnchdmidaigheaa.ND
set_option linter.unusedVariables false
set_option linter.unusedSimpArgs false
open Go.RowKit Go.Proofs.Ytnchdmidaigheaa.Hp Go.Proofs.YtnchdmidaigheaaW.PrintWords Go.Proofs.YtnchdmidaigheaaW.PrintLast Go.Proofs.YtnchdmidaigheaaW.PrintMore
theorem results_c {P : Program} {fn : Func} {p : Tmp} {ty : TypeId} (h : fn.results = #[.cell p ty]) (tmps : Array Value) (w : World) (g : Nat) (t : TypeId) (cs : Array Value) (fr : Nat × Nat) (d : TypeDesc)
    (hp : tmps.getD p undef = .pointer (some ⟨g, 0, none⟩)) (hg : w.heap[g]? = some (.cells cs t fr))
    (hu : P.underlying ty = some d) (hd : (match d with | .struct _ | .array _ _ => true | _ => false) = true) (hi : (P.info? ty).map (·.size) = some cs.size) :
    (results fn tmps).run P w = .ok (.agg cs) w := by
  have hp' : tmps[p]?.getD undef = .pointer (some ⟨g, 0, none⟩) := by simpa using hp
  simp [results, h, hp', asAddr, run_loadVar_row w g t ty cs fr d hg hu hd hi]
set_option maxHeartbeats 1000000 in
set_option maxRecDepth 100000 in
theorem sides_calls {W : World} {ok : Nat → Prop} {L : Lay} {D : Dv} (h : DV W ok L D) :
    Calls Try.prog 23 #[.pointer (some ⟨L.g, 0, none⟩)] W fun e w' => e = .returned (.agg #[.int .i64 D.B, .int .i64 D.P, .int .i64 D.C]) ∧ Below W.heap.size W w' := by
  have hz1 := heap_alloc_new W (.cells #[.int .i64 0, .int .i64 0, .int .i64 0] 23)
  have hb1 := below_alloc (Below.refl W.heap.size W) (.cells #[.int .i64 0, .int .i64 0, .int .i64 0] 23)
  have H1 := Aside0.mk (h.below hb1)
  obtain ⟨g, hg⟩ : ∃ g, g = W.heap.size := ⟨_, rfl⟩
  clear h
  go_enter Try.func23, Try.ntmps23
  go_upto_region 1 with fail
  generalize W.alloc (.cells #[.int .i64 0, .int .i64 0, .int .i64 0] 23) = W2 at hz1 hb1 H1 ⊢
  rw [← hg] at hz1 ⊢
  have h1 := blk_put hz1 0 (.int .i64 D.B) (cs' := #[.int .i64 D.B, .int .i64 0, .int .i64 0]) rfl
  have h2 := blk_put h1 1 (.int .i64 D.P) (cs' := #[.int .i64 D.B, .int .i64 D.P, .int .i64 0]) rfl
  have h3 := blk_put h2 2 (.int .i64 D.C) (cs' := #[.int .i64 D.B, .int .i64 D.P, .int .i64 D.C]) rfl
  have HST := Aside0.mk h3
  have HB := Aside0.mk (((hb1.setCell (p := ⟨g, 0, none⟩) (Nat.le_of_eq hg.symm) (.int .i64 D.B)).setCell (p := ⟨g, 1, none⟩) (Nat.le_of_eq hg.symm) (.int .i64 D.P)).setCell (p := ⟨g, 2, none⟩) (Nat.le_of_eq hg.symm) (.int .i64 D.C))
  have hh := top_cells H1.out
  have c0 := hh.1
  have c1 := hh.2.1
  have c2 := hh.2.2.1
  have d0 := blk_cell hz1 0
  have d1 := blk_cell hz1 1
  have d2 := blk_cell hz1 2
  have f0 := blk_frozen hz1 0
  have f1 := blk_frozen hz1 1
  have f2 := blk_frozen hz1 2
  clear hh h1 h2 h3 hb1 hz1 hg
  go_wp2_with fail
  (try simp only [Exit.inBlock, Exit.then])
  refine bodyPost_ret (results_c rfl _ _ g 23 _ (0, 0) _ rfl HST.out Try.underlying23 rfl (by kernel_rfl)) rfl ?_
  exact ⟨rfl, HB.out⟩
theorem app_any {W : World} (base ty T e : TypeId) (hT : Try.prog.underlying T = some (.slice e)) {z : Value} {sz bytes : Nat} (hinf : (Try.prog.info? e).map (fun i => (i.zero, i.size, i.bytes)) = some (some z, sz, bytes)) (hz : z.cells.size = sz) (hs : 0 < sz) (hb0 : 0 < bytes) (hb1 : bytes ≤ 1000)
    (v : Value) (n : Nat) (xs : List Value) (ho : W.ownsRow base e sz v n xs) (ad : Addr) (m c : Nat) (ys : List Value) (hl : ys.length = m * sz) (hc : ∀ (j : Nat) (u : Value), ys[j]? = some u → W.cell? (ad.add j) = some u) (h1 : ∀ u ∈ ys, u.oneCell' = true) (hn : n + m ≤ 100000) (hb : base ≤ W.heap.size) :
    ∃ v' w', (Builtin.append_ #[T, T] ty #[v, .slice (some ad) m c]).run Try.prog W = .ok v' w' ∧ w'.ownsRow base e sz v' (n + m) (xs ++ ys) ∧ W.grownBy w' v.ownBlock ∧ (v'.ownBlock = v.ownBlock ∨ v'.ownBlock = some W.heap.size) := by
  obtain ⟨i0, hi, hzz⟩ := Option.map_eq_some_iff.1 hinf
  simp only [Prod.mk.injEq] at hzz
  have hmul : (n + m) * bytes ≤ 100000 * 1000 := Nat.mul_le_mul hn hb1
  obtain ⟨v', w', h1, h2, h3, _, h5⟩ := run_append_own_at (P := Try.prog) W base T ty e i0 _ sz bytes hT hi hzz.1 hzz.2.1 hzz.2.2 hz hs v n xs ho ad m c ys hl hc h1 (by unfold maxLen; omega) (by omega) hb
  exact ⟨v', w', h1, h2, h3, h5⟩
end Go.Proofs.Ytnchdmidaigheaa.ND
namespace Go.Proofs.Ytnchdmidaigheaa.ND
set_option linter.unusedVariables false
set_option linter.unusedSimpArgs false
open Go.RowKit Go.Proofs.Ytnchdmidaigheaa.Hp Go.Proofs.YtnchdmidaigheaaW.PrintWords Go.Proofs.YtnchdmidaigheaaW.PrintLast Go.Proofs.YtnchdmidaigheaaW.PrintMore
section
variable {P : Program} {ops : Array Oper} {rest : List Oper} {Q : Exit → Act → World → Prop}
theorem app_wp {o : Oper} {a : Act} {w w' : World} (hgd : o.guard = none) (s x : Operand) (t : TypeId)
    (ho : o.op = .call { callee := .builtin .append, args := #[s, x], argTypes := #[t, t] }) {v xv v' : Value} (hs : a.eval s = v) (hx : a.eval x = xv)
    (hr : (Builtin.append_ #[t, t] o.type #[v, xv]).run P w = .ok v' w') (h : wpList P ops Q rest (a.put o.dst v') w') : wpList P ops Q (o :: rest) a w := by
  refine wpList_plain hgd fun K hK => ?_
  unfold Oper.wp execOp
  simp only [ho, resolve, invoke, builtin, Sem.run_bind, Sem.run_pure, Result.andThen_ok, List.map_toArray, List.map_cons, List.map_nil, hs, hx, hr]
  exact hK _ _ h
end
theorem bytes_copy {W : World} {A : Option Addr} {c : Nat} {l : List Int} (gl : Kd.C (Kd.int .u8) W A l.length l) (hl : l.length ≤ 1000) :
    ∃ v' w', (Builtin.append_ #[38, 38] 38 #[.slice none 0 0, .slice A l.length c]).run Try.prog W = .ok v' w' ∧ w'.ownsRow W.heap.size 5 1 v' l.length (nums .u8 l) ∧ Below W.heap.size W w' := by
  rcases Nat.eq_zero_or_pos l.length with h0 | h0
  · obtain rfl := List.eq_nil_of_length_eq_zero h0
    obtain ⟨i0, hi, hzz⟩ := Option.map_eq_some_iff.1 (show (Try.prog.info? 5).map (fun i => (i.zero, i.size, i.bytes)) = some (some (.int .u8 0), 1, 1) by kernel_rfl)
    simp only [Prod.mk.injEq] at hzz
    have hsrc : Src Try.prog i0.size 38 (.slice A 0 c) 0 [] W := by
      cases A with
      | none => exact Src.ofNil W Try.underlying38 c
      | some ad => exact Src.ofSlice W Try.underlying38 ad 0 c [] (by simp) (by simp) (by simp)
    exact ⟨_, W, run_append_nothing W 38 38 38 5 i0 Try.underlying38 hi _ 0 0 (Nat.le_refl _) _ hsrc, World.ownsRow_nil _ _ _ _, Below.refl _ _⟩
  · obtain ⟨ad, rfl, hcc⟩ := gl.2.2 h0
    obtain ⟨v', w', h1, h2, h3, _⟩ := app_any W.heap.size 38 38 5 Try.underlying38 (z := .int .u8 0) (sz := 1) (bytes := 1) (by kernel_rfl) rfl (by decide) (by decide) (by decide) (.slice none 0 0) 0 [] (World.ownsRow_nil _ _ _ _) ad l.length c (nums .u8 l) (by simp [nums]) (fun j u hu => by
      unfold nums at hu
      rw [List.getElem?_map] at hu
      obtain ⟨x, hx, rfl⟩ := Option.map_eq_some_iff.1 hu
      obtain ⟨cs, hcl, hK, hc⟩ := hcc j x hx
      have hk : cs = [.int .u8 x] := hK
      subst hk
      have := hc 0 _ rfl
      have h' : W.cell? (ad.add (j * 1 + 0)) = some (.int .u8 x) := this
      rwa [Nat.mul_one, Nat.add_zero] at h') (fun u hu => by
      unfold nums at hu
      obtain ⟨x, _, rfl⟩ := List.mem_map.1 hu
      rfl) (by omega) (Nat.le_refl _)
    rw [Nat.zero_add, List.nil_append] at h2
    exact ⟨v', w', h1, h2, ⟨h3.os, h3.tape, h3.output, h3.size, fun k hk => h3.block k hk (by simp [Value.ownBlock])⟩⟩
theorem own_F {W : World} {base : Nat} {v : Value} {l : List Int} (h : W.ownsRow base 5 1 v l.length (nums .u8 l)) : ∃ A c, v = .slice A l.length c ∧ l.length ≤ c ∧ Kd.F (Kd.int .u8) W (fun k => base ≤ k) A l.length l := by
  have hR : Kd.R (Kd.int .u8) 5 W base (fun k => base ≤ k) v l := Kd.R_of_own (ok := fun k => base ≤ k) h (fun k hk => own_base h k hk)
  obtain ⟨A, c, rfl, hc, _⟩ := Kd.R_reads hR
  exact ⟨A, c, rfl, hc, Kd.R_F hR⟩
abbrev Fp := Flt × Option Addr × Nat
def encF (p : Fp) : List Value := [.int .i64 p.1.f0, .int .i64 p.1.f1, .slice p.2.1 p.1.f2.length p.2.2]
theorem encFs_at : ∀ (ps : List Fp) (i : Nat) (p : Fp), ps[i]? = some p → ∀ j, j < 3 → (ps.flatMap encF)[i * 3 + j]? = (encF p)[j]?
  | [], i, p, h, j, hj => by simp at h
  | q :: r, 0, p, h, j, hj => by
    obtain rfl : q = p := by simpa using h
    rw [List.flatMap_cons, List.getElem?_append_left (by show _ < 3; omega)]
    congr 1
    omega
  | q :: r, i + 1, p, h, j, hj => by
    rw [List.flatMap_cons, List.getElem?_append_right (by show 3 ≤ _; omega)]
    have := encFs_at r i p (by simpa using h) j hj
    rw [← this]
    congr 1
    show (i + 1) * 3 + j - 3 = i * 3 + j
    omega
def FRow (W : World) (ok : Nat → Prop) (ps : List Fp) : Prop := ∀ p ∈ ps, p.1.f2.length ≤ p.2.2 ∧ Kd.F (Kd.int .u8) W ok p.2.1 p.1.f2.length p.1.f2
theorem FRow.step {W W' : World} {ok : Nat → Prop} {ps : List Fp} (h : FRow W ok ps) (hm : ∀ k, ok k → k < W.heap.size → W'.heap[k]? = W.heap[k]?) : FRow W' ok ps := fun p hp => ⟨(h p hp).1, Kd.F_step (h p hp).2 hm⟩
theorem FRow.snoc {W : World} {ok : Nat → Prop} {ps : List Fp} (h : FRow W ok ps) {p : Fp} (h1 : p.1.f2.length ≤ p.2.2) (h2 : Kd.F (Kd.int .u8) W ok p.2.1 p.1.f2.length p.1.f2) : FRow W ok (ps ++ [p]) := fun q hq => by
  rcases List.mem_append.1 hq with hq | hq
  · exact h q hq
  · rw [List.mem_singleton.1 hq]; exact ⟨h1, h2⟩
abbrev okw (W5 : World) (v : Value) (k : Nat) : Prop := W5.heap.size ≤ k ∧ some k ≠ v.ownBlock
theorem fault_app {W6 W : World} {vf : Value} {n : Nat} {ps : List Fp} (ho : W.ownsRow W6.heap.size 65 3 vf n (ps.flatMap encF)) (hg : FRow W (okw W6 vf) ps) {p : Fp} (h1 : p.1.f2.length ≤ p.2.2) (h2 : Kd.F (Kd.int .u8) W (okw W6 vf) p.2.1 p.1.f2.length p.1.f2) {gx : Nat} (hx : W.heap[gx]? = some (.cells #[.int .i64 p.1.f0, .int .i64 p.1.f1, .slice p.2.1 p.1.f2.length p.2.2] 65 (0, 0))) (hn : n + 1 ≤ 100000) (hs : W6.heap.size ≤ W.heap.size) :
    ∃ v' w', (Builtin.append_ #[25, 25] 25 #[vf, .slice (some ⟨gx, 0, none⟩) 1 1]).run Try.prog W = .ok v' w' ∧ w'.ownsRow W6.heap.size 65 3 v' (n + 1) ((ps ++ [p]).flatMap encF) ∧ FRow w' (okw W6 v') (ps ++ [p]) ∧ W.grownBy w' vf.ownBlock := by
  obtain ⟨v', w', e1, e2, e3, e4⟩ := app_any W6.heap.size 25 25 65 Try.underlying25 (z := .agg #[.int .i64 0, .int .i64 0, .slice none 0 0]) (sz := 3) (bytes := 40) (by kernel_rfl) rfl (by decide) (by decide) (by decide) vf n _ ho ⟨gx, 0, none⟩ 1 1 (encF p) rfl (fun j u hu => by rw [add_plain, blk_cell hx, ← hu]; show (encF p).toArray[j]? = _; rw [List.getElem?_toArray]) (fun u hu => by
    unfold encF at hu
    simp only [List.mem_cons, List.not_mem_nil, or_false] at hu
    rcases hu with rfl | rfl | rfl <;> rfl) hn hs
  refine ⟨v', w', e1, by rw [List.flatMap_append]; simpa using e2, ?_, e3⟩
  have hat : v'.ownBlock = vf.ownBlock ∨ ∃ b, v'.ownBlock = some b ∧ W.heap.size ≤ b := by
    rcases e4 with e4 | e4
    · exact .inl e4
    · exact .inr ⟨_, e4, Nat.le_refl _⟩
  intro q hq
  have := (hg.snoc h1 h2) q hq
  exact ⟨this.1, Kd.F_after (ok := fun k => W6.heap.size ≤ k) this.2 e3 hat⟩
theorem own_moved {w w1 : World} {base : Nat} {e : TypeId} {size n : Nat} {v : Value} {xs : List Value} (h : w.ownsRow base e size v n xs) (hm : ∀ k, v.ownBlock = some k → k < w.heap.size → w1.heap[k]? = w.heap[k]?) : w1.ownsRow base e size v n xs := own_move h (fun k hk => hm k hk (own_lt h k hk))
theorem faults_F {W : World} {base : Nat} {v : Value} {ps : List Fp} {ok : Nat → Prop} (ho : W.ownsRow base 65 3 v ps.length (ps.flatMap encF)) (hg : FRow W ok ps) (hok : ∀ k, v.ownBlock = some k → ok k) (hn : ps.length ≤ 1000) :
    ∃ A c, v = .slice A ps.length c ∧ ps.length ≤ c ∧ Kd.F k65 W ok A ps.length (ps.map (·.1)) := by
  obtain ⟨A, c, rfl⟩ := own_slice ho
  refine ⟨A, c, rfl, own_le ho, fun W' hW => ?_⟩
  have ho' := own_moved ho (fun k hk hlt => hW k (hok k hk) hlt)
  refine ⟨by rw [List.length_map], by omega, fun h0 => ?_⟩
  obtain ⟨g, cap, hv, _, _⟩ := ho'.form h0
  injection hv with hv _ _
  subst hv
  refine ⟨_, rfl, fun i x hx => ?_⟩
  rw [List.getElem?_map] at hx
  obtain ⟨p, hp, rfl⟩ := Option.map_eq_some_iff.1 hx
  have hgp := hg p (List.mem_of_getElem? hp)
  refine ⟨encF p, rfl, k65_mk W' p.1 hgp.1 (hgp.2 W' hW), fun k u hu => ?_⟩
  have hk : k < 3 := (List.getElem?_eq_some_iff.1 hu).1
  have e := encFs_at ps i p hp k hk
  exact ho'.cells (g := g) rfl _ u (by rw [show (k65.sz : Nat) = 3 from rfl, e]; exact hu)
end Go.Proofs.Ytnchdmidaigheaa.ND
