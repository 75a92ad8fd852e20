/- A block is erased: what any call of Erase answers, and what the device is behind it. -/
import Derived.Test.YtnchdmidaigheaaD6
namespace Go.Proofs.Ytnchdmidaigheaa.ND
set_option linter.unusedVariables false
set_option linter.unusedSimpArgs false
open Go.RowKit Go.Proofs.Ytnchdmidaigheaa.Hp Go.Proofs.YtnchdmidaigheaaW.PrintWords Go.Proofs.YtnchdmidaigheaaW.PrintLast Go.Proofs.YtnchdmidaigheaaW.PrintMore
/-- the first k pages from i0 on are wiped -/
def wipedTo (l : List (List Int)) (i0 : Nat) (m : List Int) (k : Nat) : List (List Int) := l.mapIdx fun i x => if i0 ≤ i ∧ i < i0 + k then wipeRow x m else x
theorem wipedTo_zero (l : List (List Int)) (i0 : Nat) (m : List Int) : wipedTo l i0 m 0 = l := by
  unfold wipedTo
  apply List.ext_getElem?
  intro j
  rw [List.getElem?_mapIdx]
  cases l[j]? with
  | none => rfl
  | some x => show some (ite _ _ _) = some x; rw [if_neg (by omega)]
theorem wipedTo_len (l : List (List Int)) (i0 : Nat) (m : List Int) (k : Nat) : (wipedTo l i0 m k).length = l.length := List.length_mapIdx
theorem wipedTo_at (l : List (List Int)) (i0 : Nat) (m : List Int) (k : Nat) : (wipedTo l i0 m k).getD (i0 + k) [] = l.getD (i0 + k) [] := by
  unfold wipedTo
  rw [List.getD_eq_getElem?_getD, List.getElem?_mapIdx, List.getD_eq_getElem?_getD]
  cases l[i0 + k]? with
  | none => rfl
  | some x => show ite _ _ _ = x; rw [if_neg (by omega)]
theorem wipedTo_succ (l : List (List Int)) (i0 : Nat) (m : List Int) (k : Nat) (h : i0 + k < l.length) : (wipedTo l i0 m k).set (i0 + k) (wipeRow (l.getD (i0 + k) []) m) = wipedTo l i0 m (k + 1) := by
  apply List.ext_getElem?
  intro j
  rw [List.getElem?_set, wipedTo_len]
  unfold wipedTo
  rw [List.getElem?_mapIdx, List.getElem?_mapIdx]
  by_cases hj : i0 + k = j
  · rw [if_pos hj, if_pos h, List.getD_eq_getElem?_getD, hj]
    rw [hj] at h
    rw [List.getElem?_eq_getElem h]
    show some _ = some (ite _ _ _)
    rw [if_pos (by omega)]
    rfl
  · rw [if_neg hj]
    cases l[j]? with
    | none => rfl
    | some x =>
      show some (ite _ _ _) = some (ite _ _ _)
      by_cases h1 : i0 ≤ j ∧ j < i0 + k
      · rw [if_pos h1, if_pos (by omega)]
      · rw [if_neg h1, if_neg (by omega)]
theorem wipedTo_all {D : Dv} (n i0 k : Nat) (m : List Int) (h0 : (i0 : Int) = (n : Int) * D.P) (hk : (k : Int) = D.P) : wipedTo D.pages i0 m k = wiped D (n : Int) m := by
  unfold wipedTo wiped
  apply List.ext_getElem?
  intro j
  rw [List.getElem?_mapIdx, List.getElem?_mapIdx]
  have e : ((n : Int) + 1) * D.P = (i0 : Int) + (k : Int) := by rw [Int.add_mul, Int.one_mul, ← h0, hk]
  cases D.pages[j]? with
  | none => rfl
  | some x =>
    show some (ite _ _ _) = some (ite _ _ _)
    rw [e, ← h0]
    by_cases h1 : i0 ≤ j ∧ j < i0 + k
    · rw [if_pos h1, if_pos (by omega)]
    · rw [if_neg h1, if_neg (by omega)]
-- tabs
def erase12.T12 : Bool × List (List Nat × List Nat) := (true, [([], []), ([0], [0]), ([1], [1]), ([2], [2]), ([], []), ([], []), ([5], [5]), ([6], [6]), ([7], [7]), ([8], [8]), ([3, 4, 0, 1, 2, 3, 4, 5, 6, 7, 8, 9], [3, 4]), ([10, 9, 0, 1, 2, 3, 4, 5, 6, 7, 8, 9], [9, 10])])
def erase12.B12 : List Nat := [0, 1, 3, 7, 0, 0, 32, 96, 224, 480, 1023, 2047]
theorem erase12.tab12 : rtab .any (opsOf Try.f16 12) = erase12.T12 := by kernel_rfl
theorem erase12.bits12 : waitsOk erase12.T12.2 erase12.B12 = true := by kernel_rfl
-- tabs end
set_option maxHeartbeats 2000000 in
set_option maxRecDepth 100000 in
theorem erase_calls {W : World} {ok : Nat → Prop} {L : Lay} {D : Dv} (h : DV W ok L D) (bk : Int) :
    Calls Try.prog 16 #[.pointer (some ⟨L.g, 0, none⟩), .int .i64 bk] W fun e w' => e = .returned (.int .i64 (D.erase bk).1) ∧ DV w' (newer W ok) L (D.erase bk).2 ∧ Turn W w' L.S := by
  have H00 := Aside0.mk h
  obtain ⟨r, hr⟩ : ∃ r, r = D.erase bk := ⟨_, rfl⟩
  rw [← hr]
  have HRR := Aside0.mk hr
  have HU := Aside0.mk (up_calls h)
  clear hr h
  cases hd : D.down with
  | true =>
    rw [hd, if_pos rfl] at HU
    have HR1 : Aside0 (r = (9, D)) := ⟨by rw [HRR.out]; unfold Dv.erase; rw [if_pos hd]⟩
    clear hd
    go_enter Try.func16, Try.ntmps16
    go_wp2_with (go_at_call 63; refine HU.out.mono ?_; rintro e w3 ⟨rfl, hb⟩; have HB3 := Aside0.mk hb; clear hb)
    go_ret
    rw [HR1.out]
    exact ⟨rfl, (H00.out.below HB3.out).newer_ H00.out.lt, Turn.of_below HB3.out _⟩
  | false =>
    rw [hd, if_neg (by decide)] at HU
    have HD0 := Aside0.mk hd
    clear hd
    go_enter Try.func16, Try.ntmps16
    go_upto_region 4 with (go_at_call 63; refine HU.out.mono ?_; rintro e w3 ⟨rfl, hb⟩; have HB3 := Aside0.mk hb; clear hb)
    have HT := Aside0.mk (there_calls (H00.out.below HB3.out) bk)
    cases hh : D.there bk with
    | false =>
      rw [hh] at HT
      have HR1 : Aside0 (r = (3, D)) := ⟨by rw [HRR.out]; unfold Dv.erase; rw [if_neg (by rw [HD0.out]; decide), if_pos hh]⟩
      clear hh
      go_wp2_with (go_at_call 62; refine HT.out.mono ?_; rintro e w5 ⟨rfl, hb⟩; have HB5 := Aside0.mk (below_then HB3.out HB3.out.size hb); clear hb)
      go_ret
      rw [HR1.out]
      exact ⟨rfl, (H00.out.below HB5.out).newer_ H00.out.lt, Turn.of_below HB5.out _⟩
    | true =>
      rw [hh] at HT
      obtain ⟨h1, h2⟩ := there_iff.1 hh
      obtain ⟨n, rfl⟩ := Int.eq_ofNat_of_zero_le h1
      have HHH := Aside0.mk hh
      have HN := Aside0.mk h2
      obtain ⟨bm, hbm⟩ : ∃ x, x = D.mark (n : Int) := ⟨_, rfl⟩
      have HBM := Aside0.mk hbm
      clear hh h1 h2 hbm
      go_upto_region 6 with (go_at_call 62; refine HT.out.mono ?_; rintro e w5 ⟨rfl, hb⟩; have HB5 := Aside0.mk (below_then HB3.out HB3.out.size hb); clear hb)
      have H5 := Aside0.mk (H00.out.below HB5.out)
      have c3 := (top_cells H5.out).2.2.2.1
      have ce := H5.out.mb.cell (marks_at HN.out)
      rw [← HBM.out] at ce
      have p1 := eq_true (show (0 : Int) ≤ (n : Int) by omega)
      have q1 := eq_true (show (n : Int) < (((marks D).length : Nat) : Int) by rw [marks_len]; have := HN.out; omega)
      clear HT
      cases bm with
      | true =>
        have HR1 : Aside0 (r = (12, D)) := ⟨by rw [HRR.out]; unfold Dv.erase; rw [if_neg (by rw [HD0.out]; decide), if_neg (by rw [HHH.out]; decide), if_pos HBM.out.symm]⟩
        go_wp2_with fail
        go_ret
        rw [HR1.out]
        exact ⟨rfl, (H00.out.below HB5.out).newer_ H00.out.lt, Turn.of_below HB5.out _⟩
      | false =>
        have HR1 : Aside0 (r = (ended D.fault.1, D.eraseD (n : Int))) := ⟨by rw [HRR.out]; unfold Dv.erase; rw [if_neg (by rw [HD0.out]; decide), if_neg (by rw [HHH.out]; decide), if_neg (by rw [← HBM.out]; decide)]⟩
        go_upto_region 8 with fail
        have HBG := Aside0.mk (begin_calls H5.out)
        obtain ⟨kd, hkd⟩ : ∃ x, x = D.fault.1 := ⟨_, rfl⟩
        obtain ⟨m, hm⟩ : ∃ m, m = D.fault.2 := ⟨_, rfl⟩
        rw [← hkd, ← hm] at HBG
        have HKD := Aside0.mk hkd
        have HM := Aside0.mk hm
        clear hkd hm c3 ce q1
        go_upto_region 9 with (go_at_call 64; refine HBG.out.mono ?_; rintro e w10 ⟨A3, c3, rfl, hc3, hF3, hD3, hT3⟩; have HE3 := Aside0.mk (And.intro hc3 (And.intro hF3 (And.intro hD3 hT3))); clear hc3 hF3 hD3 hT3)
        have hz10 := heap_alloc_new w10 (.cells #[.slice A3 m.length c3] 38)
        have hb10 := below_alloc (Below.refl w10.heap.size w10) (.cells #[.slice A3 m.length c3] 38)
        have hn10 : ¬ L.S w10.heap.size := fun hS => by have := H00.out.lt _ hS; have := HB5.out.size; have := HE3.out.2.2.2.size; omega
        have H11 : Aside0 (DV _ ok L { D with ops := wrap64 (D.ops + 1) }) := ⟨HE3.out.2.2.1.below hb10⟩
        have T11 := Aside0.mk (((Turn.of_below HB5.out L.S).trans HE3.out.2.2.2 (fun k hk => .inl hk)).below hb10)
        have F11 := Aside0.mk (Kd.F_mono (Kd.F_below HE3.out.2.1 hb10) (newer_le HB5.out.size))
        have HC3 := Aside0.mk HE3.out.1
        generalize w10.alloc (.cells #[.slice A3 m.length c3] 38) = W11 at hz10 hb10 H11 T11 F11 ⊢
        generalize w10.heap.size = g10 at hz10 hn10 ⊢
        have Z11 := Aside0.mk hz10
        have HN10 := Aside0.mk hn10
        clear hz10 hb10 hn10 HBG HE3 H5
        -- wear
        obtain ⟨wv, hwv⟩ : ∃ x, x = D.wear.getD n 0 := ⟨_, rfl⟩
        have HWV := Aside0.mk hwv
        have H12 := Aside0.mk (H11.out.set_wear n (wrap64 (wv + 1)) (wrap_range _))
        have t12 := (Turn.refl W11 L.S).setCell (p := ⟨L.gw, n, none⟩) (.inl (.inr (.inr (.inr rfl)))) (.int .i64 (wrap64 (wv + 1)))
        have T12 := Aside0.mk (T11.out.trans t12 (fun k hk => .inl hk))
        have F12 := Aside0.mk (F_turn F11.out t12 (fun k hk _ => newer_no H00.out (Nat.le_refl _) k hk))
        have Z12 := Aside0.mk (blk_turn Z11.out t12 HN10.out)
        have c6 := (top_cells H11.out).2.2.2.2.2.2.1
        have ce := H11.out.we.cell (ints_at (l := D.wear) (n := n) (by have := H00.out.ok.wl; have := HN.out; omega))
        rw [← hwv] at ce
        clear hwv
        have fe := H11.out.we.frozen n
        have q1 := eq_true (show (n : Int) < ((D.wear.length : Nat) : Int) by have := H00.out.ok.wl; have := HN.out; omega)
        go_upto_region 10 with fail
        generalize W11.setCell ⟨L.gw, n, none⟩ (.int .i64 (wrap64 (wv + 1))) = W12 at H12 T12 F12 Z12 ⊢
        clear c6 ce fe q1 t12 H11 T11 F11 Z11
        -- next
        obtain ⟨wr', hwr⟩ : ∃ x, x = D.wear.set n (wrap64 (wv + 1)) := ⟨_, rfl⟩
        have H12' : Aside0 (DV W12 ok L { D with ops := wrap64 (D.ops + 1), wear := wr' }) := ⟨by rw [hwr]; exact H12.out⟩
        have HWR := Aside0.mk hwr
        have H13 := Aside0.mk (H12'.out.set_next n 0 ⟨Int.le_refl _, by have := H00.out.ok.p1; show 0 ≤ D.P; omega⟩)
        have t13 := (Turn.refl W12 L.S).setCell (p := ⟨L.gn, n, none⟩) (.inl (.inr (.inr (.inl rfl)))) (.int .i64 0)
        have T13 := Aside0.mk (T12.out.trans t13 (fun k hk => .inl hk))
        have F13 := Aside0.mk (F_turn F12.out t13 (fun k hk _ => newer_no H00.out (Nat.le_refl _) k hk))
        have Z13 := Aside0.mk (blk_turn Z12.out t13 HN10.out)
        have c5 := (top_cells H12'.out).2.2.2.2.2.1
        have ce := H12'.out.nx.cell (ints_at (l := D.next) (n := n) (by have := H00.out.ok.nl; have := HN.out; omega))
        have fe := H12'.out.nx.frozen n
        have q1 := eq_true (show (n : Int) < ((D.next.length : Nat) : Int) by have := H00.out.ok.nl; have := HN.out; omega)
        clear hwr H12
        go_upto_region 11 with fail
        generalize W12.setCell ⟨L.gn, n, none⟩ (.int .i64 0) = W13 at H13 T13 F13 Z13 ⊢
        clear c5 ce fe q1 t13 H12' T12 F12 Z12
        obtain ⟨Pn, hPn⟩ := Int.eq_ofNat_of_zero_le (show 0 ≤ D.P by have := H00.out.ok.p1; omega)
        have hmb := mul_lt_of (a := (n : Int)) (b := D.B) (p := 0) (P := D.P) (by omega) HN.out (Int.le_refl _) (by have := H00.out.ok.p1; omega)
        obtain ⟨i0, hi0⟩ := Int.eq_ofNat_of_zero_le (show 0 ≤ (n : Int) * D.P by omega)
        have hmb2 := mul_lt_of (a := (n : Int)) (b := D.B) (p := D.P - 1) (P := D.P) (by omega) HN.out (by have := H00.out.ok.p1; omega) (by omega)
        have HIX : Aside0 ((i0 : Int) = (n : Int) * D.P ∧ (Pn : Int) = D.P ∧ i0 + Pn ≤ D.pages.length ∧ Pn ≤ 32) := ⟨hi0.symm, hPn.symm, by have := H00.out.ok.pl; omega, by have := H00.out.ok.p2; omega⟩
        have HWM : IntKind.i64.wrap ((n : Int) * D.P) = (i0 : Int) := by have := H00.out.ok.size; have := H00.out.ok.pl; have := HIX.out.2.2.1; rw [hi0, i64_w]; unfold wrap64; omega
        have HWM2 : wrap64 ((n : Int) * D.P) = (i0 : Int) := by rw [← i64_w]; exact HWM
        replace HWM := Aside0.mk HWM
        replace HWM2 := Aside0.mk HWM2
        clear hmb hmb2 hi0 hPn
        by_cases hk0 : kd = 0
        case pos =>
          have tk : (kd != 0) = false := by rw [hk0]; rfl
          have HK0 := Aside0.mk hk0
          clear hk0
          have H14 : Aside0 (DV W13 ok L { D with ops := wrap64 (D.ops + 1), wear := wr', next := D.next.set n 0 }) := H13
          obtain ⟨nx', hnx⟩ : ∃ x, x = D.next.set n 0 := ⟨_, rfl⟩
          rw [← hnx] at H14
          have HNX : Aside0 (nx' = D.next.set n (if D.fault.1 = 0 then 0 else D.P)) := ⟨by rw [if_pos (by rw [← HKD.out]; exact HK0.out)]; exact hnx⟩
          have T14 := T13
          have F14 := F13
          have Z14 := Z13
          clear hnx H13 T13 F13 Z13
          go_upto_region 13 with fail
          clear tk
          have c1 := (top_cells H14.out).2.1
          go_wp2_with fail
          clear c1
          go_loopg [65] (Pn + 1) (fun kq v65 w' => ∃ k : Nat, v65 = .int .i64 (k : Int) ∧ Aside0 (k ≤ Pn ∧ kq + k = Pn + 1) ∧ Aside0 (DV w' (newer W ok) L { D with ops := wrap64 (D.ops + 1), wear := wr', next := nx', pages := wipedTo D.pages i0 m k }) ∧ Aside0 (Turn W13 w' L.S))
          case atStart => exact ⟨0, rfl, ⟨Nat.zero_le _, rfl⟩, ⟨by rw [wipedTo_zero]; exact H14.out.newer_ H00.out.lt⟩, ⟨Turn.refl _ _⟩⟩
          case round =>
            obtain ⟨k, rfl, HI, HD, HT⟩ := hrel
            clear p1
            by_cases hk : (k : Int) < D.P
            case neg =>
              have t1 : decide ((k : Int) < D.P) = false := decide_eq_false hk
              have hkP : k = Pn := by have := HI.out.1; have := HIX.out.2.1; omega
              have HKP := Aside0.mk hkP
              have HEN := Aside0.mk (end_calls HD.out HD0.out kd (by rw [HKD.out]; exact fault_kind D))
              clear hk hkP
              go_wp2_with (go_at_call 68; refine HEN.out.mono ?_; rintro e w18 ⟨rfl, hD18, hT18⟩; have H18 := Aside0.mk hD18; have T18 := Aside0.mk ((T14.out.trans HT.out (fun k hk => .inl hk)).trans hT18 (fun k hk => .inl hk)); clear hD18 hT18)
              go_ret
              rw [HR1.out]
              have hE : D.eraseD (n : Int) = { D with ops := wrap64 (D.ops + 1), wear := wr', next := nx', pages := wipedTo D.pages i0 m k, down := kd == 2 } := by
                unfold Dv.eraseD
                rw [HKP.out, wipedTo_all n i0 Pn m HIX.out.1 HIX.out.2.1, HWR.out, HWV.out, HNX.out, HM.out, HKD.out]
                rfl
              refine ⟨by rw [HKD.out]; rfl, ?_, T18.out⟩
              show DV w18 (newer W ok) L (D.eraseD (n : Int))
              rw [hE]
              exact H18.out
            case pos =>
              have t1 : decide ((k : Int) < D.P) = true := decide_eq_true hk
              have HKB : Aside0 (i0 + k < D.pages.length) := ⟨by have := HIX.out; omega⟩
              have HK2 : Aside0 (k < Pn) := ⟨by have := HIX.out; omega⟩
              have hpo := page_ok H00.out.ok HKB.out
              have hmo := fault_mask H00.out.ok
              rw [← HM.out] at hmo
              have hF := F_turn F14.out HT.out (fun k hk _ => newer_no H00.out (Nat.le_refl _) k hk)
              have hZ := blk_turn Z14.out HT.out HN10.out
              have HCH := Aside0.mk (change_calls HD.out (i0 + k) (by show i0 + k < (wipedTo D.pages i0 m k).length; rw [wipedTo_len]; exact HKB.out) 66 _ #[.pointer (some ⟨g10, 0, none⟩)] Try.func66 (by kernel_rfl) rfl (wipeRow (D.pages.getD (i0 + k) []) m) (wipeRow_ok hpo.1 hmo.1 hpo.2)
                (fun W' hW A' c' hc' hC' => erase1_calls (blk_below hZ hW) ⟨hmo.1, HC3.out⟩ hpo hc' (Kd.C_below (Kd.F_now hF) hW) (by have h' : (wipedTo D.pages i0 m k).getD (i0 + k) [] = D.pages.getD (i0 + k) [] := wipedTo_at _ _ _ _; rw [← h']; exact hC') (newer W ok)))
              have c1 := (top_cells HD.out).2.1
              have hw1 := HWM.out
              have hw2 := HWM2.out
              rw [Int.natCast_add] at HCH
              obtain ⟨hw3, hw4⟩ := wrap_id (x := (i0 : Int) + (k : Int)) (by omega) (by have := H00.out.ok.size; have := H00.out.ok.pl; have := HKB.out; omega)
              obtain ⟨hw5, hw6⟩ := wrap_id (x := (k : Int) + 1) (by omega) (by have := HIX.out.2.2.2; have := HK2.out; omega)
              clear hk hpo hmo hF hZ
              go_wp2_with (go_at_call 65; refine HCH.out.mono ?_; rintro e w16 ⟨rfl, hD16, hT16⟩; have H16 := Aside0.mk hD16; have T16 := Aside0.mk (HT.out.trans hT16 (fun k hk => .inl hk)); clear hD16 hT16)
              go_roundg (Pn - k)
              case measure => have := HI.out; have := HK2.out; omega
              case rel =>
                refine ⟨k + 1, by first | rfl | simp, ⟨by have := HK2.out; omega, by have := HI.out; have := HK2.out; omega⟩, ⟨?_⟩, T16⟩
                have h16 := H16.out.newer2 H00.out (fun k hk => by
                  rcases hk with hk | hk
                  · exact hk
                  · exact .inr (Nat.le_trans (Nat.le_trans T14.out.size HT.out.size) hk))
                rw [← wipedTo_succ _ _ _ _ HKB.out]
                exact h16
        case neg =>
          have tk : (kd != 0) = true := by simpa using hk0
          have H14 := Aside0.mk (H13.out.set_next n D.P ⟨by have := H00.out.ok.p1; show 0 ≤ D.P; omega, Int.le_refl _⟩)
          have B0 := Aside0.mk (below_drew1 (Below.refl W13.heap.size W13))
          have HQ2 := Aside0.mk (And.intro (eq_true (show (0 : Int) ≤ (n : Int) by omega)) (eq_true (show (n : Int) < ((D.next.length : Nat) : Int) by have := H00.out.ok.nl; have := HN.out; omega)))
          have HNC : Aside0 (((D.next.set n 0).map (Value.int .i64))[n]? = some (.int .i64 ((D.next.set n 0).getD n 0))) := ⟨ints_at (by rw [List.length_set]; have := H00.out.ok.nl; have := HN.out; omega)⟩
          have HPR := Aside0.mk (show 0 ≤ D.P ∧ D.P ≤ D.P by have := H00.out.ok.p1; omega)
          have HK0 := Aside0.mk hk0
          clear H14 hk0
          go_upto_region 12 with fail
          clear tk
          -- R12
          refine start_ (n := 12) (S := fun w' => True) (ds := []) #[false, false, false, false, false, false, false, false, false, false, false, false] (by kernel_rfl) rfl rfl trivial (fun hHeld => ?_)
          refine with_tabW erase12.tab12 erase12.bits12 (fun HT_ HW_ => ?_)
          generalize W13.drew = wq at B0 hHeld ⊢
          refine inv_at [0, 1, 2, 3, 4, 5, 6, 7, 8, 9, 10, 11] (fun a0_ b a w' => a = putSel a0_ b [(0, 49, .pointer (some ⟨L.g, 0, none⟩)), (1, 50, .pointer (some ⟨L.g, 0, none⟩)), (2, 51, .pointer (some ⟨L.g, 5, none⟩)), (3, 52, .slice (some ⟨L.gn, 0, none⟩) D.next.length L.cn), (4, 53, .int .i64 (n : Int)), (5, 54, .pointer (some ⟨L.g, 0, none⟩)), (6, 55, .pointer (some ⟨L.g, 0, none⟩)), (7, 56, .pointer (some ⟨L.g, 0, none⟩)), (8, 57, .pointer (some ⟨L.g, 1, none⟩)), (9, 58, .int .i64 D.P), (10, 59, .pointer (some ⟨L.gn, n, none⟩))] ∧ (b 11 = false → Below W13.heap.size W13 w') ∧ (b 11 = true → DV w' ok L { D with ops := wrap64 (D.ops + 1), wear := wr', next := (D.next.set n 0).set n D.P } ∧ Turn W13 w' L.S)) HT_.out HW_.out (by kernel_rfl) (by kernel_rfl) ?_ ?_ ?_
          · exact ⟨by simp only [putSel, Bool.false_eq_true, if_false], fun _ => B0.out, fun h_ => absurd h_ (by decide)⟩
          · skip
            clear B0
            refine steps_cons ?_ ?_
            · rintro b a w' ⟨ha, Q_B0, Q_FIN⟩ hb_ hon hoff
              refine ⟨_, rfl, fun K hK => ?_⟩
              have e0 : a.tmps[0]? = some (.pointer (some ⟨L.g, 0, none⟩)) := by rw [ha]; exact (putSel_off rfl).trans rfl
              replace ha := Aside0.mk ha
              have B0 := Aside0.mk (Q_B0 (hoff 11 (by kernel_rfl)))
              refine value_ (w1 := w') (v := .pointer (some ⟨L.g, 0, none⟩)) (by rfl) rfl ?_ ?_
              · go_simp
                (try simp only [i64_w])
                try rfl
              refine hK.out _ _ ⟨(by rw [ha.out]; exact putSel_upk 0 hb_ rfl rfl rfl), Q_B0, fun h0_ => absurd ((hoff 11 (by kernel_rfl)).symm.trans h0_) (by decide)⟩
            refine steps_cons ?_ ?_
            · rintro b a w' ⟨ha, Q_B0, Q_FIN⟩ hb_ hon hoff
              refine ⟨_, rfl, fun K hK => ?_⟩
              have e49 : a.tmps[49]? = some (.pointer (some ⟨L.g, 0, none⟩)) := by rw [ha]; exact putSel_on (e := (0, 49, .pointer (some ⟨L.g, 0, none⟩))) 0 rfl rfl (hon 0 (by kernel_rfl)) rfl
              replace ha := Aside0.mk ha
              have B0 := Aside0.mk (Q_B0 (hoff 11 (by kernel_rfl)))
              refine value_ (w1 := w') (v := .pointer (some ⟨L.g, 0, none⟩)) (by rfl) rfl ?_ ?_
              · go_simp
                (try simp only [i64_w])
                try rfl
              refine hK.out _ _ ⟨(by rw [ha.out]; exact putSel_upk 1 hb_ rfl rfl rfl), Q_B0, fun h0_ => absurd ((hoff 11 (by kernel_rfl)).symm.trans h0_) (by decide)⟩
            refine steps_cons ?_ ?_
            · rintro b a w' ⟨ha, Q_B0, Q_FIN⟩ hb_ hon hoff
              refine ⟨_, rfl, fun K hK => ?_⟩
              have e50 : a.tmps[50]? = some (.pointer (some ⟨L.g, 0, none⟩)) := by rw [ha]; exact putSel_on (e := (1, 50, .pointer (some ⟨L.g, 0, none⟩))) 1 rfl rfl (hon 1 (by kernel_rfl)) rfl
              replace ha := Aside0.mk ha
              have B0 := Aside0.mk (Q_B0 (hoff 11 (by kernel_rfl)))
              refine value_ (w1 := w') (v := .pointer (some ⟨L.g, 5, none⟩)) (by rfl) rfl ?_ ?_
              · go_simp
                (try simp only [i64_w])
                try rfl
              refine hK.out _ _ ⟨(by rw [ha.out]; exact putSel_upk 2 hb_ rfl rfl rfl), Q_B0, fun h0_ => absurd ((hoff 11 (by kernel_rfl)).symm.trans h0_) (by decide)⟩
            refine steps_cons ?_ ?_
            · rintro b a w' ⟨ha, Q_B0, Q_FIN⟩ hb_ hon hoff
              refine ⟨_, rfl, fun K hK => ?_⟩
              have e51 : a.tmps[51]? = some (.pointer (some ⟨L.g, 5, none⟩)) := by rw [ha]; exact putSel_on (e := (2, 51, .pointer (some ⟨L.g, 5, none⟩))) 2 rfl rfl (hon 2 (by kernel_rfl)) rfl
              replace ha := Aside0.mk ha
              have B0 := Aside0.mk (Q_B0 (hoff 11 (by kernel_rfl)))
              have c_ := (top_cells (H13.out.below B0.out)).2.2.2.2.2.1
              refine value_ (w1 := w') (v := .slice (some ⟨L.gn, 0, none⟩) D.next.length L.cn) (by rfl) rfl ?_ ?_
              · go_simp
                (try simp only [i64_w])
                try rfl
              refine hK.out _ _ ⟨(by rw [ha.out]; exact putSel_upk 3 hb_ rfl rfl rfl), Q_B0, fun h0_ => absurd ((hoff 11 (by kernel_rfl)).symm.trans h0_) (by decide)⟩
            refine steps_cons ?_ ?_
            · rintro b a w' ⟨ha, Q_B0, Q_FIN⟩ hb_ hon hoff
              refine ⟨_, rfl, fun K hK => ?_⟩
              have e1 : a.tmps[1]? = some (.int .i64 (n : Int)) := by rw [ha]; exact (putSel_off rfl).trans rfl
              replace ha := Aside0.mk ha
              have B0 := Aside0.mk (Q_B0 (hoff 11 (by kernel_rfl)))
              refine value_ (w1 := w') (v := .int .i64 (n : Int)) (by rfl) rfl ?_ ?_
              · go_simp
                (try simp only [i64_w])
                try rfl
              refine hK.out _ _ ⟨(by rw [ha.out]; exact putSel_upk 4 hb_ rfl rfl rfl), Q_B0, fun h0_ => absurd ((hoff 11 (by kernel_rfl)).symm.trans h0_) (by decide)⟩
            refine steps_cons ?_ ?_
            · rintro b a w' ⟨ha, Q_B0, Q_FIN⟩ hb_ hon hoff
              refine ⟨_, rfl, fun K hK => ?_⟩
              have e0 : a.tmps[0]? = some (.pointer (some ⟨L.g, 0, none⟩)) := by rw [ha]; exact (putSel_off rfl).trans rfl
              replace ha := Aside0.mk ha
              have B0 := Aside0.mk (Q_B0 (hoff 11 (by kernel_rfl)))
              refine value_ (w1 := w') (v := .pointer (some ⟨L.g, 0, none⟩)) (by rfl) rfl ?_ ?_
              · go_simp
                (try simp only [i64_w])
                try rfl
              refine hK.out _ _ ⟨(by rw [ha.out]; exact putSel_upk 5 hb_ rfl rfl rfl), Q_B0, fun h0_ => absurd ((hoff 11 (by kernel_rfl)).symm.trans h0_) (by decide)⟩
            refine steps_cons ?_ ?_
            · rintro b a w' ⟨ha, Q_B0, Q_FIN⟩ hb_ hon hoff
              refine ⟨_, rfl, fun K hK => ?_⟩
              have e54 : a.tmps[54]? = some (.pointer (some ⟨L.g, 0, none⟩)) := by rw [ha]; exact putSel_on (e := (5, 54, .pointer (some ⟨L.g, 0, none⟩))) 5 rfl rfl (hon 5 (by kernel_rfl)) rfl
              replace ha := Aside0.mk ha
              have B0 := Aside0.mk (Q_B0 (hoff 11 (by kernel_rfl)))
              refine value_ (w1 := w') (v := .pointer (some ⟨L.g, 0, none⟩)) (by rfl) rfl ?_ ?_
              · go_simp
                (try simp only [i64_w])
                try rfl
              refine hK.out _ _ ⟨(by rw [ha.out]; exact putSel_upk 6 hb_ rfl rfl rfl), Q_B0, fun h0_ => absurd ((hoff 11 (by kernel_rfl)).symm.trans h0_) (by decide)⟩
            refine steps_cons ?_ ?_
            · rintro b a w' ⟨ha, Q_B0, Q_FIN⟩ hb_ hon hoff
              refine ⟨_, rfl, fun K hK => ?_⟩
              have e55 : a.tmps[55]? = some (.pointer (some ⟨L.g, 0, none⟩)) := by rw [ha]; exact putSel_on (e := (6, 55, .pointer (some ⟨L.g, 0, none⟩))) 6 rfl rfl (hon 6 (by kernel_rfl)) rfl
              replace ha := Aside0.mk ha
              have B0 := Aside0.mk (Q_B0 (hoff 11 (by kernel_rfl)))
              refine value_ (w1 := w') (v := .pointer (some ⟨L.g, 0, none⟩)) (by rfl) rfl ?_ ?_
              · go_simp
                (try simp only [i64_w])
                try rfl
              refine hK.out _ _ ⟨(by rw [ha.out]; exact putSel_upk 7 hb_ rfl rfl rfl), Q_B0, fun h0_ => absurd ((hoff 11 (by kernel_rfl)).symm.trans h0_) (by decide)⟩
            refine steps_cons ?_ ?_
            · rintro b a w' ⟨ha, Q_B0, Q_FIN⟩ hb_ hon hoff
              refine ⟨_, rfl, fun K hK => ?_⟩
              have e56 : a.tmps[56]? = some (.pointer (some ⟨L.g, 0, none⟩)) := by rw [ha]; exact putSel_on (e := (7, 56, .pointer (some ⟨L.g, 0, none⟩))) 7 rfl rfl (hon 7 (by kernel_rfl)) rfl
              replace ha := Aside0.mk ha
              have B0 := Aside0.mk (Q_B0 (hoff 11 (by kernel_rfl)))
              refine value_ (w1 := w') (v := .pointer (some ⟨L.g, 1, none⟩)) (by rfl) rfl ?_ ?_
              · go_simp
                (try simp only [i64_w])
                try rfl
              refine hK.out _ _ ⟨(by rw [ha.out]; exact putSel_upk 8 hb_ rfl rfl rfl), Q_B0, fun h0_ => absurd ((hoff 11 (by kernel_rfl)).symm.trans h0_) (by decide)⟩
            refine steps_cons ?_ ?_
            · rintro b a w' ⟨ha, Q_B0, Q_FIN⟩ hb_ hon hoff
              refine ⟨_, rfl, fun K hK => ?_⟩
              have e57 : a.tmps[57]? = some (.pointer (some ⟨L.g, 1, none⟩)) := by rw [ha]; exact putSel_on (e := (8, 57, .pointer (some ⟨L.g, 1, none⟩))) 8 rfl rfl (hon 8 (by kernel_rfl)) rfl
              replace ha := Aside0.mk ha
              have B0 := Aside0.mk (Q_B0 (hoff 11 (by kernel_rfl)))
              have c_ := (top_cells (H13.out.below B0.out)).2.1
              refine value_ (w1 := w') (v := .int .i64 D.P) (by rfl) rfl ?_ ?_
              · go_simp
                (try simp only [i64_w])
                try rfl
              refine hK.out _ _ ⟨(by rw [ha.out]; exact putSel_upk 9 hb_ rfl rfl rfl), Q_B0, fun h0_ => absurd ((hoff 11 (by kernel_rfl)).symm.trans h0_) (by decide)⟩
            refine steps_cons ?_ ?_
            · rintro b a w' ⟨ha, Q_B0, Q_FIN⟩ hb_ hon hoff
              refine ⟨_, rfl, fun K hK => ?_⟩
              have e52 : a.tmps[52]? = some (.slice (some ⟨L.gn, 0, none⟩) D.next.length L.cn) := by rw [ha]; exact putSel_on (e := (3, 52, .slice (some ⟨L.gn, 0, none⟩) D.next.length L.cn)) 3 rfl rfl (hon 3 (by kernel_rfl)) rfl
              have e53 : a.tmps[53]? = some (.int .i64 (n : Int)) := by rw [ha]; exact putSel_on (e := (4, 53, .int .i64 (n : Int))) 4 rfl rfl (hon 4 (by kernel_rfl)) rfl
              replace ha := Aside0.mk ha
              have B0 := Aside0.mk (Q_B0 (hoff 11 (by kernel_rfl)))
              have p_ := HQ2.out.1
              have q_ := HQ2.out.2
              refine value_ (w1 := w') (v := .pointer (some ⟨L.gn, n, none⟩)) (by rfl) rfl ?_ ?_
              · go_simp
                (try simp only [i64_w])
                try rfl
              refine hK.out _ _ ⟨(by rw [ha.out]; exact putSel_upk 10 hb_ rfl rfl rfl), Q_B0, fun h0_ => absurd ((hoff 11 (by kernel_rfl)).symm.trans h0_) (by decide)⟩
            refine steps_cons ?_ ?_
            · rintro b a w' ⟨ha, Q_B0, Q_FIN⟩ hb_ hon hoff
              refine ⟨_, rfl, fun K hK => ?_⟩
              have e59 : a.tmps[59]? = some (.pointer (some ⟨L.gn, n, none⟩)) := by rw [ha]; exact putSel_on (e := (10, 59, .pointer (some ⟨L.gn, n, none⟩))) 10 rfl rfl (hon 10 (by kernel_rfl)) rfl
              have e58 : a.tmps[58]? = some (.int .i64 D.P) := by rw [ha]; exact putSel_on (e := (9, 58, .int .i64 D.P)) 9 rfl rfl (hon 9 (by kernel_rfl)) rfl
              replace ha := Aside0.mk ha
              have B0 := Aside0.mk (Q_B0 hb_)
              have c_ := (H13.out.below B0.out).nx.cell HNC.out
              have fr_ := (H13.out.below B0.out).nx.frozen n
              refine skip_ (w1 := ?_) (by rfl) rfl ?_ ?_
              rotate_left
              · go_simp
                rfl
              refine hK.out _ _ ⟨(by rw [ha.out]; exact putSel_none (v := undef) rfl), fun h0_ => absurd ((up_self b 11).symm.trans h0_) (by decide), fun _ => ⟨(H13.out.below B0.out).set_next n D.P HPR.out, (Turn.of_below B0.out L.S).setCell (p := ⟨L.gn, n, none⟩) (.inl (.inr (.inr (.inl rfl)))) _⟩⟩
            exact steps_nil
          rintro b a W14 hall ⟨ha, Q_B0, Q_FIN⟩
          clear B0
          have hb0_ := hall 0 (by kernel_rfl)
          have hb1_ := hall 1 (by kernel_rfl)
          have hb2_ := hall 2 (by kernel_rfl)
          have hb3_ := hall 3 (by kernel_rfl)
          have hb4_ := hall 4 (by kernel_rfl)
          have hb5_ := hall 5 (by kernel_rfl)
          have hb6_ := hall 6 (by kernel_rfl)
          have hb7_ := hall 7 (by kernel_rfl)
          have hb8_ := hall 8 (by kernel_rfl)
          have hb9_ := hall 9 (by kernel_rfl)
          have hb10_ := hall 10 (by kernel_rfl)
          have hb11_ := hall 11 (by kernel_rfl)
          subst ha
          simp only [putSel, hb0_, hb1_, hb2_, hb3_, hb4_, hb5_, hb6_, hb7_, hb8_, hb9_, hb10_, hb11_, if_true, Act.put, List.setIfInBounds_toArray, List.set_cons_zero, List.set_cons_succ]
          clear Q_B0
          have FIN := Aside0.mk (Q_FIN hb11_)
          clear Q_FIN
          clear hall hb0_ hb1_ hb2_ hb3_ hb4_ hb5_ hb6_ hb7_ hb8_ hb9_ hb10_ hb11_
          -- R12 end
          obtain ⟨nx', hnx⟩ : ∃ x, x = D.next.set n D.P := ⟨_, rfl⟩
          have H14 : Aside0 (DV W14 ok L { D with ops := wrap64 (D.ops + 1), wear := wr', next := nx' }) := ⟨by rw [hnx]; have := FIN.out.1; simp only [List.set_set] at this; exact this⟩
          have HNX : Aside0 (nx' = D.next.set n (if D.fault.1 = 0 then 0 else D.P)) := ⟨by rw [if_neg (by rw [← HKD.out]; exact HK0.out)]; exact hnx⟩
          have T14 := Aside0.mk (T13.out.trans FIN.out.2 (fun k hk => .inl hk))
          have F14 := Aside0.mk (F_turn F13.out FIN.out.2 (fun k hk _ => newer_no H00.out (Nat.le_refl _) k hk))
          have Z14 := Aside0.mk (blk_turn Z13.out FIN.out.2 HN10.out)
          clear hnx H13 T13 F13 Z13 FIN
          go_upto_region 13 with fail
          have c1 := (top_cells H14.out).2.1
          go_wp2_with fail
          clear c1
          go_loopg [65] (Pn + 1) (fun kq v65 w' => ∃ k : Nat, v65 = .int .i64 (k : Int) ∧ Aside0 (k ≤ Pn ∧ kq + k = Pn + 1) ∧ Aside0 (DV w' (newer W ok) L { D with ops := wrap64 (D.ops + 1), wear := wr', next := nx', pages := wipedTo D.pages i0 m k }) ∧ Aside0 (Turn W14 w' L.S))
          case atStart => exact ⟨0, rfl, ⟨Nat.zero_le _, rfl⟩, ⟨by rw [wipedTo_zero]; exact H14.out.newer_ H00.out.lt⟩, ⟨Turn.refl _ _⟩⟩
          case round =>
            obtain ⟨k, rfl, HI, HD, HT⟩ := hrel
            clear p1
            by_cases hk : (k : Int) < D.P
            case neg =>
              have t1 : decide ((k : Int) < D.P) = false := decide_eq_false hk
              have hkP : k = Pn := by have := HI.out.1; have := HIX.out.2.1; omega
              have HKP := Aside0.mk hkP
              have HEN := Aside0.mk (end_calls HD.out HD0.out kd (by rw [HKD.out]; exact fault_kind D))
              clear hk hkP
              go_wp2_with (go_at_call 68; refine HEN.out.mono ?_; rintro e w18 ⟨rfl, hD18, hT18⟩; have H18 := Aside0.mk hD18; have T18 := Aside0.mk ((T14.out.trans HT.out (fun k hk => .inl hk)).trans hT18 (fun k hk => .inl hk)); clear hD18 hT18)
              go_ret
              rw [HR1.out]
              have hE : D.eraseD (n : Int) = { D with ops := wrap64 (D.ops + 1), wear := wr', next := nx', pages := wipedTo D.pages i0 m k, down := kd == 2 } := by
                unfold Dv.eraseD
                rw [HKP.out, wipedTo_all n i0 Pn m HIX.out.1 HIX.out.2.1, HWR.out, HWV.out, HNX.out, HM.out, HKD.out]
                rfl
              refine ⟨by rw [HKD.out]; rfl, ?_, T18.out⟩
              show DV w18 (newer W ok) L (D.eraseD (n : Int))
              rw [hE]
              exact H18.out
            case pos =>
              have t1 : decide ((k : Int) < D.P) = true := decide_eq_true hk
              have HKB : Aside0 (i0 + k < D.pages.length) := ⟨by have := HIX.out; omega⟩
              have HK2 : Aside0 (k < Pn) := ⟨by have := HIX.out; omega⟩
              have hpo := page_ok H00.out.ok HKB.out
              have hmo := fault_mask H00.out.ok
              rw [← HM.out] at hmo
              have hF := F_turn F14.out HT.out (fun k hk _ => newer_no H00.out (Nat.le_refl _) k hk)
              have hZ := blk_turn Z14.out HT.out HN10.out
              have HCH := Aside0.mk (change_calls HD.out (i0 + k) (by show i0 + k < (wipedTo D.pages i0 m k).length; rw [wipedTo_len]; exact HKB.out) 66 _ #[.pointer (some ⟨g10, 0, none⟩)] Try.func66 (by kernel_rfl) rfl (wipeRow (D.pages.getD (i0 + k) []) m) (wipeRow_ok hpo.1 hmo.1 hpo.2)
                (fun W' hW A' c' hc' hC' => erase1_calls (blk_below hZ hW) ⟨hmo.1, HC3.out⟩ hpo hc' (Kd.C_below (Kd.F_now hF) hW) (by have h' : (wipedTo D.pages i0 m k).getD (i0 + k) [] = D.pages.getD (i0 + k) [] := wipedTo_at _ _ _ _; rw [← h']; exact hC') (newer W ok)))
              have c1 := (top_cells HD.out).2.1
              have hw1 := HWM.out
              have hw2 := HWM2.out
              rw [Int.natCast_add] at HCH
              obtain ⟨hw3, hw4⟩ := wrap_id (x := (i0 : Int) + (k : Int)) (by omega) (by have := H00.out.ok.size; have := H00.out.ok.pl; have := HKB.out; omega)
              obtain ⟨hw5, hw6⟩ := wrap_id (x := (k : Int) + 1) (by omega) (by have := HIX.out.2.2.2; have := HK2.out; omega)
              clear hk hpo hmo hF hZ
              go_wp2_with (go_at_call 65; refine HCH.out.mono ?_; rintro e w16 ⟨rfl, hD16, hT16⟩; have H16 := Aside0.mk hD16; have T16 := Aside0.mk (HT.out.trans hT16 (fun k hk => .inl hk)); clear hD16 hT16)
              go_roundg (Pn - k)
              case measure => have := HI.out; have := HK2.out; omega
              case rel =>
                refine ⟨k + 1, by first | rfl | simp, ⟨by have := HK2.out; omega, by have := HI.out; have := HK2.out; omega⟩, ⟨?_⟩, T16⟩
                have h16 := H16.out.newer2 H00.out (fun k hk => by
                  rcases hk with hk | hk
                  · exact hk
                  · exact .inr (Nat.le_trans (Nat.le_trans T14.out.size HT.out.size) hk))
                rw [← wipedTo_succ _ _ _ _ HKB.out]
                exact h16
end Go.Proofs.Ytnchdmidaigheaa.ND
