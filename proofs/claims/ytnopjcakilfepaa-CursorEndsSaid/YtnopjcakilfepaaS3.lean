import Derived.Test.YtnopjcakilfepaaS2
namespace Go.Proofs.Ytnopjcakilfepaa.QS
set_option linter.unusedVariables false
set_option linter.unusedSimpArgs false
open Go.RowKit Go.Proofs.Ytnopjcakilfepaa.SS Go.Proofs.Ytnopjcakilfepaa.Hp Go.Proofs.YtnopjcakilfepaaW.PrintWords Go.Proofs.YtnopjcakilfepaaW.PrintLast Go.Proofs.YtnopjcakilfepaaW.PrintMore
attribute [local go_sem] max2_int min2_int max_two min_two max_three min_three max_four min_four
def ins.T4 : Bool × List (List Nat × List Nat) := (true, [([], []), ([], []), ([0, 1], [0, 1]), ([2], [2]), ([3], [3]), ([3], [3]), ([3], [3]), ([5, 6, 3], [3, 5, 6]), ([7, 3], [3, 7]), ([3], [3]), ([3], [3]), ([10, 3], [3, 10]), ([9, 11, 3], [3, 9, 11]), ([12, 3], [3, 12]), ([4, 8, 13, 3, 3], [3, 4, 8, 13]), ([14, 3], [3, 14]), ([3, 15], [3, 15])])
def ins.B4 : List Nat := [0, 0, 3, 7, 15, 15, 15, 111, 239, 15, 15, 1039, 3599, 7695, 16383, 32767, 65535]
theorem ins.tab4 : rtab .any (opsOf Try.f80 4) = ins.T4 := by kernel_rfl
theorem ins.bits4 : waitsOk ins.T4.2 ins.B4 = true := by kernel_rfl
def ins.T6 : Bool × List (List Nat × List Nat) := (true, [([], []), ([], []), ([], []), ([], []), ([3], [3]), ([], []), ([], []), ([6], [6]), ([5, 7], [5, 7]), ([8], [8]), ([], []), ([], []), ([10, 11], [10, 11]), ([12], [12]), ([0, 1, 0, 1, 5, 6, 7, 8, 9, 13], [0, 1]), ([14, 9, 0, 1, 5, 6, 7, 8, 9, 13], [9, 14]), ([2, 4, 0, 1, 2, 3, 4, 5, 6, 7, 8, 9, 10, 11, 12, 13, 14, 15], [2, 4]), ([16, 13, 15, 0, 1, 2, 3, 4, 5, 6, 7, 8, 9, 10, 11, 12, 13, 14, 15], [13, 16])])
def ins.B6 : List Nat := [0, 0, 0, 0, 8, 0, 0, 64, 224, 480, 0, 0, 3072, 7168, 16355, 32739, 65535, 131071]
theorem ins.tab6 : rtab .any (opsOf Try.f80 6) = ins.T6 := by kernel_rfl
theorem ins.bits6 : waitsOk ins.T6.2 ins.B6 = true := by kernel_rfl
def Cmp (lt : Rec → Rec → Bool) : Prop := ∀ (W : World) (x y : Rec), Calls Try.prog 64 #[.agg #[.int .u64 x.id, .int .u64 x.first, .int .i64 x.prio, .int .i64 x.len, .int .u64 x.en, .bool x.played, .int .i64 x.lpn, .slice x.A x.n x.c], .agg #[.int .u64 y.id, .int .u64 y.first, .int .i64 y.prio, .int .i64 y.len, .int .u64 y.en, .bool y.played, .int .i64 y.lpn, .slice y.A y.n y.c]] W fun e w' => ∃ r : Int, e = .returned (.int .i64 r) ∧ decide (r < 0) = lt x y ∧ Below W.heap.size W w'
set_option maxHeartbeats 8000000 in
set_option maxRecDepth 100000 in
theorem ins_calls (lt : Rec → Rec → Bool) (ho : Ord lt) (hc : Cmp lt) (N : Nat) (w0 : World) (g : Nat) (hg : N ≤ g) (cp : Nat) (ia ib n : Nat) (P S Q : List Rec) (hP : P.length = ia) (hS : ia + S.length = ib) (hn : (P ++ (S ++ Q)).length = n) (hn2 : n ≤ 1000000) (w : World) (hB : Kp g w0 w) (hR : RowB w g (P ++ (S ++ Q))) :
    Calls Try.prog 80 #[.slice (some ⟨g, 0, none⟩) n cp, .int .i64 (ia : Int), .int .i64 (ib : Int), .func (.func 64) #[] #[]] w fun e w' => e = .returned (.tuple #[]) ∧ Kp g w0 w' ∧ RowB w' g (P ++ (ssort lt S ++ Q)) := by
  have HG := Aside0.mk hg
  have HO := Aside0.mk ho
  have HCMP : Aside0 (∀ (W : World) (x y : Rec), Calls Try.prog 64 #[.agg #[.int .u64 x.id, .int .u64 x.first, .int .i64 x.prio, .int .i64 x.len, .int .u64 x.en, .bool x.played, .int .i64 x.lpn, .slice x.A x.n x.c], .agg #[.int .u64 y.id, .int .u64 y.first, .int .i64 y.prio, .int .i64 y.len, .int .u64 y.en, .bool y.played, .int .i64 y.lpn, .slice y.A y.n y.c]] W fun e w' => ∃ r : Int, e = .returned (.int .i64 r) ∧ decide (r < 0) = lt x y ∧ Below W.heap.size W w') := ⟨hc⟩
  have HL : Aside0 (P.length = ia ∧ ia + S.length = ib ∧ P.length + (S.length + Q.length) = n ∧ n ≤ 1000000) := ⟨hP, hS, by rw [← hn]; simp only [List.length_append], hn2⟩
  have hS1 : ssort lt (S.take 1) ++ S.drop 1 = S := by
    cases S with
    | nil => rfl
    | cons s S => simp [ssort_one]
  have HR : Aside0 (RowB w g (P ++ (ssort lt (S.take (ia + 1 - ia)) ++ (S.drop (ia + 1 - ia) ++ Q)))) := ⟨by rw [Nat.add_sub_cancel_left, ← List.append_assoc (ssort lt _), hS1]; exact hR⟩
  replace hB := Aside0.mk hB
  clear hg ho hc hP hS hn hn2 hR hS1
  go_enter Try.func80, Try.ntmps80
  go_wp2_with fail
  go_loopg [8] (S.length + 1) (fun kq v8 w' => ∃ i : Nat, v8 = .int .i64 (i : Int) ∧ Aside0 (ia < i ∧ (i ≤ ib ∨ i = ia + 1)) ∧ Aside0 (RowB w' g (P ++ (ssort lt (S.take (i - ia)) ++ (S.drop (i - ia) ++ Q)))) ∧ Aside0 (Kp g w0 w') ∧ Aside0 (kq + i = ib + 2))
  case atStart => exact ⟨ia + 1, by first | rfl | (simp; unfold wrap64; have := HL.out; omega), ⟨by omega⟩, HR, hB, ⟨by have := HL.out; omega⟩⟩
  case round =>
    clear HR hB
    obtain ⟨i, rfl, HI, RR, BB, HQ⟩ := hrel
    by_cases hi : i < ib
    case neg =>
      have t1 : decide (i < ib) = false := decide_eq_false hi
      have h1 : S.take (i - ia) = S := List.take_of_length_le (by have := HL.out; omega)
      have h2 : S.drop (i - ia) = [] := List.drop_of_length_le (by have := HL.out; omega)
      have rr := RR.out
      rw [h1, h2, List.nil_append] at rr
      replace rr := Aside0.mk rr
      clear hi h1 h2 RR
      go_wp2_with fail
      go_end0
      exact ⟨rfl, BB.out, rr.out⟩
    case pos =>
      have t1 : decide (i < ib) = true := decide_eq_true hi
      have hk : i - ia < S.length := by have := HL.out; have := HI.out; omega
      obtain ⟨x, hx⟩ : ∃ x, S[i - ia]? = some x := ⟨_, List.getElem?_eq_getElem hk⟩
      have HIN : Aside0 (∃ A1 A2, RowB wr g (P ++ (A1 ++ (x :: (A2 ++ (S.drop (i - ia + 1) ++ Q))))) ∧ P.length + A1.length = i ∧ Sorted lt A1 ∧ put lt x A1 ++ A2 = ssort lt (S.take (i + 1 - ia))) := ⟨ssort lt (S.take (i - ia)), [], by
        have rr := RR.out
        rw [List.drop_eq_getElem_cons hk, show S[i - ia] = x from Option.some.inj ((List.getElem?_eq_getElem hk).symm.trans hx)] at rr
        exact rr, by rw [ssort_length, List.length_take]; have := HL.out; have := HI.out; omega, (ssort_stable HO.out _).1, by rw [List.append_nil, show i + 1 - ia = i - ia + 1 by have := HI.out; omega, ssort_take lt S _ x hx]⟩
      have HI2 := Aside0.mk hi
      obtain ⟨T, hT⟩ : ∃ T, T = ssort lt (S.take (i + 1 - ia)) := ⟨_, rfl⟩
      obtain ⟨R, hRR⟩ : ∃ R, R = S.drop (i - ia + 1) ++ Q := ⟨_, rfl⟩
      have hTL : T.length = i + 1 - ia := by rw [hT, ssort_length, List.length_take]; omega
      have HLN : Aside0 (P.length + (T.length + R.length) = n) := ⟨by rw [hTL, hRR, List.length_append, List.length_drop]; have := HL.out; have := HI.out; omega⟩
      rw [← hT, ← hRR] at HIN
      have HT := Aside0.mk hT
      have HR2 : Aside0 (R = S.drop (i + 1 - ia) ++ Q) := ⟨by rw [show i + 1 - ia = i - ia + 1 by have := HI.out; omega]; exact hRR⟩
      clear hi hk hx RR hT hRR hTL
      go_upto_region 4 with fail
      go_loopg [9] (i + 1) (fun kq v9 w' => ∃ j : Nat, v9 = .int .i64 (j : Int) ∧ Aside0 (∃ A1 A2, RowB w' g (P ++ (A1 ++ (x :: (A2 ++ R)))) ∧ P.length + A1.length = j ∧ Sorted lt A1 ∧ put lt x A1 ++ A2 = T) ∧ Aside0 (Kp g w0 w') ∧ Aside0 (kq = j + 1))
      case atStart => exact ⟨i, rfl, HIN, BB, ⟨rfl⟩⟩
      case round =>
      clear HIN BB
      obtain ⟨j, rfl, HIN, BB, HQJ⟩ := hrel
      go_upto_region 4 with fail
      obtain ⟨A1, A2, rr, hj, hs, hp⟩ := HIN.out
      clear HIN
      have hpl : A1.length + 1 + A2.length = T.length := by rw [← hp, put_mrg, List.length_append, mrg_length]; rfl
      have hlen : (P ++ (A1 ++ (x :: (A2 ++ R)))).length = n := by rw [← HLN.out]; simp only [List.length_append, List.length_cons]; omega
      obtain ⟨dd, hdd⟩ : ∃ dd, dd = P ++ (A1 ++ (x :: (A2 ++ R))) := ⟨_, rfl⟩
      have hx : dd[j]? = some x := by rw [hdd, List.getElem?_append_right (by omega), List.getElem?_append_right (by omega), show j - P.length - A1.length = 0 by omega]; rfl
      rw [← hdd] at rr hlen
      have hjn : j < n := by
        rcases Nat.lt_or_ge j dd.length with h | h
        · omega
        · rw [List.getElem?_eq_none h] at hx; cases hx
      have B0 := Aside0.mk (kp_drew BB.out)
      have R0 := Aside0.mk (RowB.below rr (below_drew1 (Below.refl wr.heap.size wr)))
      have HX_j := Aside0.mk hx
      have LO_j := Aside0.mk (eq_true (show (0 : Int) ≤ (j : Int) by omega))
      have HI_j := Aside0.mk (eq_true (show (j : Int) < (n : Int) by omega))
      clear rr BB
      rcases List.eq_nil_or_concat A1 with hnil | ⟨A0, y, hc⟩
      · have hje : j = ia := by rw [hnil] at hj; have := HL.out; simp at hj; omega
        have HGT : Aside0 (decide ((j : Int) > (ia : Int)) = false ∧ decide ((ia : Int) < (j : Int)) = false ∧ decide (ia < j) = false) := ⟨by simp [hje]⟩
        have HEND : Aside0 (dd = P ++ (T ++ R)) := ⟨by rw [hdd, ← hp, hnil]; simp [put]⟩
        clear hx hjn hlen hdd hpl hj hs hp hnil hje HX_j
        refine start_ (n := 17) (S := fun w' => True) (ds := []) #[false, false, false, false, false, false, false, false, false, false, false, false, false, false, false, false, false] (by kernel_rfl) rfl rfl trivial (fun hHeld => ?_)
        refine with_tabW ins.tab4 ins.bits4 (fun HT_ HW_ => ?_)
        generalize wr.drew = wq at B0 R0 hHeld ⊢
        refine inv_at [0, 1, 2, 3, 4, 5, 6, 7, 8, 9, 10, 11, 12, 13, 14, 15, 16] (fun a0_ b a w' => a = putSel a0_ b [(0, 18, .int .i64 (j : Int)), (1, 19, .int .i64 (ia : Int)), (2, 20, .bool false), (3, 21, .bool false), (4, 22, undef), (5, 23, undef), (6, 24, undef), (7, 25, undef), (8, 26, undef), (9, 27, undef), (10, 28, undef), (11, 29, undef), (12, 30, undef), (13, 31, undef), (14, 32, undef), (15, 33, undef), (16, 34, .bool false)] ∧ (Kp g w0 w') ∧ (RowB w' g dd)) HT_.out HW_.out (by kernel_rfl) (by kernel_rfl) ?_ ?_ ?_
        · exact ⟨by simp only [putSel, Bool.false_eq_true, if_false], B0.out, R0.out⟩
        · skip
          clear B0 R0
          refine steps_cons ?_ ?_
          · rintro b a w' ⟨ha, Q_B0, Q_R0⟩ hb_ hon hoff
            refine ⟨_, rfl, fun K hK => ?_⟩
            have e9 : a.tmps[9]? = some (.int .i64 (j : Int)) := by rw [ha]; exact (putSel_off rfl).trans rfl
            replace ha := Aside0.mk ha
            have B0 := Aside0.mk Q_B0
            have R0 := Aside0.mk Q_R0
            refine value_ (w1 := w') (v := .int .i64 (j : Int)) (by rfl) rfl ?_ ?_
            · go_simp
              (try simp only [i64_w])
              try rfl
            refine hK.out _ _ ⟨(by rw [ha.out]; exact putSel_upk 0 hb_ rfl rfl rfl), Q_B0, Q_R0⟩
          refine steps_cons ?_ ?_
          · rintro b a w' ⟨ha, Q_B0, Q_R0⟩ hb_ hon hoff
            refine ⟨_, rfl, fun K hK => ?_⟩
            have e1 : a.tmps[1]? = some (.int .i64 (ia : Int)) := by rw [ha]; exact (putSel_off rfl).trans rfl
            replace ha := Aside0.mk ha
            have B0 := Aside0.mk Q_B0
            have R0 := Aside0.mk Q_R0
            refine value_ (w1 := w') (v := .int .i64 (ia : Int)) (by rfl) rfl ?_ ?_
            · go_simp
              (try simp only [i64_w])
              try rfl
            refine hK.out _ _ ⟨(by rw [ha.out]; exact putSel_upk 1 hb_ rfl rfl rfl), Q_B0, Q_R0⟩
          refine steps_cons ?_ ?_
          · rintro b a w' ⟨ha, Q_B0, Q_R0⟩ hb_ hon hoff
            refine ⟨_, rfl, fun K hK => ?_⟩
            have e18 : a.tmps[18]? = some (.int .i64 (j : Int)) := by rw [ha]; exact putSel_on (e := (0, 18, .int .i64 (j : Int))) 0 rfl rfl (hon 0 (by kernel_rfl)) rfl
            have e19 : a.tmps[19]? = some (.int .i64 (ia : Int)) := by rw [ha]; exact putSel_on (e := (1, 19, .int .i64 (ia : Int))) 1 rfl rfl (hon 1 (by kernel_rfl)) rfl
            replace ha := Aside0.mk ha
            have B0 := Aside0.mk Q_B0
            have R0 := Aside0.mk Q_R0
            have hw0_ := HGT.out.1
            have hw1_ := HGT.out.2.1
            have hw2_ := HGT.out.2.2
            refine value_ (w1 := w') (v := .bool false) (by rfl) rfl ?_ ?_
            · go_simp
              (try simp only [i64_w])
              try rfl
            refine hK.out _ _ ⟨(by rw [ha.out]; exact putSel_upk 2 hb_ rfl rfl rfl), Q_B0, Q_R0⟩
          refine steps_cons ?_ ?_
          · rintro b a w' ⟨ha, Q_B0, Q_R0⟩ hb_ hon hoff
            refine ⟨_, rfl, fun K hK => ?_⟩
            have e20 : a.tmps[20]? = some (.bool false) := by rw [ha]; exact putSel_on (e := (2, 20, .bool false)) 2 rfl rfl (hon 2 (by kernel_rfl)) rfl
            replace ha := Aside0.mk ha
            have B0 := Aside0.mk Q_B0
            have R0 := Aside0.mk Q_R0
            refine value_ (w1 := w') (v := .bool false) (by rfl) rfl ?_ ?_
            · go_simp
              (try simp only [i64_w])
              try rfl
            refine hK.out _ _ ⟨(by rw [ha.out]; exact putSel_upk 3 hb_ rfl rfl rfl), Q_B0, Q_R0⟩
          refine steps_cons ?_ ?_
          · rintro b a w' ⟨ha, Q_B0, Q_R0⟩ hb_ hon hoff
            refine ⟨_, rfl, fun K hK => ?_⟩
            have e21 : a.tmps[21]? = some (.bool false) := by rw [ha]; exact putSel_on (e := (3, 21, .bool false)) 3 rfl rfl (hon 3 (by kernel_rfl)) rfl
            replace ha := Aside0.mk ha
            have B0 := Aside0.mk Q_B0
            have R0 := Aside0.mk Q_R0
            refine off_ (wanted_off rfl rfl rfl (e21.trans (by first | rfl | (simp [*]; done)))) ?_
            refine hK.out _ _ ⟨(by rw [ha.out]; exact putSel_upk 4 hb_ rfl rfl rfl), Q_B0, Q_R0⟩
          refine steps_cons ?_ ?_
          · rintro b a w' ⟨ha, Q_B0, Q_R0⟩ hb_ hon hoff
            refine ⟨_, rfl, fun K hK => ?_⟩
            have e21 : a.tmps[21]? = some (.bool false) := by rw [ha]; exact putSel_on (e := (3, 21, .bool false)) 3 rfl rfl (hon 3 (by kernel_rfl)) rfl
            replace ha := Aside0.mk ha
            have B0 := Aside0.mk Q_B0
            have R0 := Aside0.mk Q_R0
            refine off_ (wanted_off rfl rfl rfl (e21.trans (by first | rfl | (simp [*]; done)))) ?_
            refine hK.out _ _ ⟨(by rw [ha.out]; exact putSel_upk 5 hb_ rfl rfl rfl), Q_B0, Q_R0⟩
          refine steps_cons ?_ ?_
          · rintro b a w' ⟨ha, Q_B0, Q_R0⟩ hb_ hon hoff
            refine ⟨_, rfl, fun K hK => ?_⟩
            have e21 : a.tmps[21]? = some (.bool false) := by rw [ha]; exact putSel_on (e := (3, 21, .bool false)) 3 rfl rfl (hon 3 (by kernel_rfl)) rfl
            replace ha := Aside0.mk ha
            have B0 := Aside0.mk Q_B0
            have R0 := Aside0.mk Q_R0
            refine off_ (wanted_off rfl rfl rfl (e21.trans (by first | rfl | (simp [*]; done)))) ?_
            refine hK.out _ _ ⟨(by rw [ha.out]; exact putSel_upk 6 hb_ rfl rfl rfl), Q_B0, Q_R0⟩
          refine steps_cons ?_ ?_
          · rintro b a w' ⟨ha, Q_B0, Q_R0⟩ hb_ hon hoff
            refine ⟨_, rfl, fun K hK => ?_⟩
            have e21 : a.tmps[21]? = some (.bool false) := by rw [ha]; exact putSel_on (e := (3, 21, .bool false)) 3 rfl rfl (hon 3 (by kernel_rfl)) rfl
            replace ha := Aside0.mk ha
            have B0 := Aside0.mk Q_B0
            have R0 := Aside0.mk Q_R0
            refine off_ (wanted_off rfl rfl rfl (e21.trans (by first | rfl | (simp [*]; done)))) ?_
            refine hK.out _ _ ⟨(by rw [ha.out]; exact putSel_upk 7 hb_ rfl rfl rfl), Q_B0, Q_R0⟩
          refine steps_cons ?_ ?_
          · rintro b a w' ⟨ha, Q_B0, Q_R0⟩ hb_ hon hoff
            refine ⟨_, rfl, fun K hK => ?_⟩
            have e21 : a.tmps[21]? = some (.bool false) := by rw [ha]; exact putSel_on (e := (3, 21, .bool false)) 3 rfl rfl (hon 3 (by kernel_rfl)) rfl
            replace ha := Aside0.mk ha
            have B0 := Aside0.mk Q_B0
            have R0 := Aside0.mk Q_R0
            refine off_ (wanted_off rfl rfl rfl (e21.trans (by first | rfl | (simp [*]; done)))) ?_
            refine hK.out _ _ ⟨(by rw [ha.out]; exact putSel_upk 8 hb_ rfl rfl rfl), Q_B0, Q_R0⟩
          refine steps_cons ?_ ?_
          · rintro b a w' ⟨ha, Q_B0, Q_R0⟩ hb_ hon hoff
            refine ⟨_, rfl, fun K hK => ?_⟩
            have e21 : a.tmps[21]? = some (.bool false) := by rw [ha]; exact putSel_on (e := (3, 21, .bool false)) 3 rfl rfl (hon 3 (by kernel_rfl)) rfl
            replace ha := Aside0.mk ha
            have B0 := Aside0.mk Q_B0
            have R0 := Aside0.mk Q_R0
            refine off_ (wanted_off rfl rfl rfl (e21.trans (by first | rfl | (simp [*]; done)))) ?_
            refine hK.out _ _ ⟨(by rw [ha.out]; exact putSel_upk 9 hb_ rfl rfl rfl), Q_B0, Q_R0⟩
          refine steps_cons ?_ ?_
          · rintro b a w' ⟨ha, Q_B0, Q_R0⟩ hb_ hon hoff
            refine ⟨_, rfl, fun K hK => ?_⟩
            have e21 : a.tmps[21]? = some (.bool false) := by rw [ha]; exact putSel_on (e := (3, 21, .bool false)) 3 rfl rfl (hon 3 (by kernel_rfl)) rfl
            replace ha := Aside0.mk ha
            have B0 := Aside0.mk Q_B0
            have R0 := Aside0.mk Q_R0
            refine off_ (wanted_off rfl rfl rfl (e21.trans (by first | rfl | (simp [*]; done)))) ?_
            refine hK.out _ _ ⟨(by rw [ha.out]; exact putSel_upk 10 hb_ rfl rfl rfl), Q_B0, Q_R0⟩
          refine steps_cons ?_ ?_
          · rintro b a w' ⟨ha, Q_B0, Q_R0⟩ hb_ hon hoff
            refine ⟨_, rfl, fun K hK => ?_⟩
            have e21 : a.tmps[21]? = some (.bool false) := by rw [ha]; exact putSel_on (e := (3, 21, .bool false)) 3 rfl rfl (hon 3 (by kernel_rfl)) rfl
            replace ha := Aside0.mk ha
            have B0 := Aside0.mk Q_B0
            have R0 := Aside0.mk Q_R0
            refine off_ (wanted_off rfl rfl rfl (e21.trans (by first | rfl | (simp [*]; done)))) ?_
            refine hK.out _ _ ⟨(by rw [ha.out]; exact putSel_upk 11 hb_ rfl rfl rfl), Q_B0, Q_R0⟩
          refine steps_cons ?_ ?_
          · rintro b a w' ⟨ha, Q_B0, Q_R0⟩ hb_ hon hoff
            refine ⟨_, rfl, fun K hK => ?_⟩
            have e21 : a.tmps[21]? = some (.bool false) := by rw [ha]; exact putSel_on (e := (3, 21, .bool false)) 3 rfl rfl (hon 3 (by kernel_rfl)) rfl
            replace ha := Aside0.mk ha
            have B0 := Aside0.mk Q_B0
            have R0 := Aside0.mk Q_R0
            refine off_ (wanted_off rfl rfl rfl (e21.trans (by first | rfl | (simp [*]; done)))) ?_
            refine hK.out _ _ ⟨(by rw [ha.out]; exact putSel_upk 12 hb_ rfl rfl rfl), Q_B0, Q_R0⟩
          refine steps_cons ?_ ?_
          · rintro b a w' ⟨ha, Q_B0, Q_R0⟩ hb_ hon hoff
            refine ⟨_, rfl, fun K hK => ?_⟩
            have e21 : a.tmps[21]? = some (.bool false) := by rw [ha]; exact putSel_on (e := (3, 21, .bool false)) 3 rfl rfl (hon 3 (by kernel_rfl)) rfl
            replace ha := Aside0.mk ha
            have B0 := Aside0.mk Q_B0
            have R0 := Aside0.mk Q_R0
            refine off_ (wanted_off rfl rfl rfl (e21.trans (by first | rfl | (simp [*]; done)))) ?_
            refine hK.out _ _ ⟨(by rw [ha.out]; exact putSel_upk 13 hb_ rfl rfl rfl), Q_B0, Q_R0⟩
          refine steps_cons ?_ ?_
          · rintro b a w' ⟨ha, Q_B0, Q_R0⟩ hb_ hon hoff
            refine ⟨_, rfl, fun K hK => ?_⟩
            have e21 : a.tmps[21]? = some (.bool false) := by rw [ha]; exact putSel_on (e := (3, 21, .bool false)) 3 rfl rfl (hon 3 (by kernel_rfl)) rfl
            replace ha := Aside0.mk ha
            have B0 := Aside0.mk Q_B0
            have R0 := Aside0.mk Q_R0
            refine off_ (wanted_off rfl rfl rfl (e21.trans (by first | rfl | (simp [*]; done)))) ?_
            refine hK.out _ _ ⟨(by rw [ha.out]; exact putSel_upk 14 hb_ rfl rfl rfl), Q_B0, Q_R0⟩
          refine steps_cons ?_ ?_
          · rintro b a w' ⟨ha, Q_B0, Q_R0⟩ hb_ hon hoff
            refine ⟨_, rfl, fun K hK => ?_⟩
            have e21 : a.tmps[21]? = some (.bool false) := by rw [ha]; exact putSel_on (e := (3, 21, .bool false)) 3 rfl rfl (hon 3 (by kernel_rfl)) rfl
            replace ha := Aside0.mk ha
            have B0 := Aside0.mk Q_B0
            have R0 := Aside0.mk Q_R0
            refine off_ (wanted_off rfl rfl rfl (e21.trans (by first | rfl | (simp [*]; done)))) ?_
            refine hK.out _ _ ⟨(by rw [ha.out]; exact putSel_upk 15 hb_ rfl rfl rfl), Q_B0, Q_R0⟩
          refine steps_cons ?_ ?_
          · rintro b a w' ⟨ha, Q_B0, Q_R0⟩ hb_ hon hoff
            refine ⟨_, rfl, fun K hK => ?_⟩
            have e21 : a.tmps[21]? = some (.bool false) := by rw [ha]; exact putSel_on (e := (3, 21, .bool false)) 3 rfl rfl (hon 3 (by kernel_rfl)) rfl
            have e33 : a.tmps[33]? = some (undef) := by rw [ha]; exact putSel_on (e := (15, 33, undef)) 15 rfl rfl (hon 15 (by kernel_rfl)) rfl
            replace ha := Aside0.mk ha
            have B0 := Aside0.mk Q_B0
            have R0 := Aside0.mk Q_R0
            refine value_ (w1 := w') (v := .bool false) (by rfl) rfl ?_ ?_
            · go_simp
              (try simp only [i64_w])
              try rfl
            refine hK.out _ _ ⟨(by rw [ha.out]; exact putSel_upk 16 hb_ rfl rfl rfl), Q_B0, Q_R0⟩
          exact steps_nil
        rintro b a wl hall ⟨ha, Q_B0, Q_R0⟩
        clear B0 R0
        have hb0_ := hall 0 (by kernel_rfl)
        have hb1_ := hall 1 (by kernel_rfl)
        have hb2_ := hall 2 (by kernel_rfl)
        have hb3_ := hall 3 (by kernel_rfl)
        have hb4_ := hall 4 (by kernel_rfl)
        have hb5_ := hall 5 (by kernel_rfl)
        have hb6_ := hall 6 (by kernel_rfl)
        have hb7_ := hall 7 (by kernel_rfl)
        have hb8_ := hall 8 (by kernel_rfl)
        have hb9_ := hall 9 (by kernel_rfl)
        have hb10_ := hall 10 (by kernel_rfl)
        have hb11_ := hall 11 (by kernel_rfl)
        have hb12_ := hall 12 (by kernel_rfl)
        have hb13_ := hall 13 (by kernel_rfl)
        have hb14_ := hall 14 (by kernel_rfl)
        have hb15_ := hall 15 (by kernel_rfl)
        have hb16_ := hall 16 (by kernel_rfl)
        subst ha
        simp only [putSel, hb0_, hb1_, hb2_, hb3_, hb4_, hb5_, hb6_, hb7_, hb8_, hb9_, hb10_, hb11_, hb12_, hb13_, hb14_, hb15_, hb16_, if_true, Act.put, List.setIfInBounds_toArray, List.set_cons_zero, List.set_cons_succ]
        have B0 := Aside0.mk Q_B0
        clear Q_B0
        have R0 := Aside0.mk Q_R0
        clear Q_R0
        clear hall hb0_ hb1_ hb2_ hb3_ hb4_ hb5_ hb6_ hb7_ hb8_ hb9_ hb10_ hb11_ hb12_ hb13_ hb14_ hb15_ hb16_
        go_wp2_with fail
        go_roundg (ib + 1 - i)
        case measure => have := HQ.out; have := HI2.out; omega
        case rel => exact ⟨i + 1, by first | rfl | (simp; unfold wrap64; have := HI2.out; have := HL.out; omega), ⟨by have := HI2.out; have := HI.out; omega⟩, ⟨by rw [← HT.out, ← HR2.out, ← HEND.out]; exact R0.out⟩, B0, ⟨by have := HI2.out; omega⟩⟩
      · have hjl : P.length + A0.length + 1 = j := by rw [← hj, hc]; simp [Nat.add_assoc]
        obtain ⟨j1, hj1⟩ : ∃ j1, j1 = P.length + A0.length := ⟨_, rfl⟩
        have hy : dd[j1]? = some y := by rw [hdd, hc, List.getElem?_append_right (by omega), List.concat_eq_append, List.append_assoc, List.getElem?_append_right (by omega), show j1 - P.length - A0.length = 0 by omega]; rfl
        have HX_j1 := Aside0.mk hy
        have HW1 : Aside0 (IntKind.i64.wrap ((j : Int) - 1) = (j1 : Int)) := ⟨by rw [i64_w]; unfold wrap64; have := HL.out; omega⟩
        have HX2 : Aside0 ((dd.set j y)[j1]? = some y) := ⟨by rw [List.getElem?_set_ne (by omega)]; exact hy⟩
        have LO_j1 := Aside0.mk (eq_true (show (0 : Int) ≤ (j1 : Int) by omega))
        have HI_j1 := Aside0.mk (eq_true (show (j1 : Int) < (n : Int) by omega))
        have HGT : Aside0 (decide ((j : Int) > (ia : Int)) = true ∧ decide ((ia : Int) < (j : Int)) = true ∧ decide (ia < j) = true) := ⟨by have := HL.out; refine ⟨decide_eq_true (by omega), decide_eq_true (by omega), decide_eq_true (by omega)⟩⟩
        have hcc : A1 = A0 ++ [y] := by rw [hc, List.concat_eq_append]
        rw [hcc] at hs hp
        have HJ := Aside0.mk (And.intro hjl (And.intro hj1 hjn))
        by_cases htv : lt x y = true
        · have HTV := Aside0.mk htv
          have HIN : Aside0 (∃ A1 A2', (dd.set j y).set j1 x = P ++ (A1 ++ (x :: (A2' ++ R))) ∧ P.length + A1.length = j1 ∧ Sorted lt A1 ∧ put lt x A1 ++ A2' = T) := ⟨A0, y :: A2, by
            have h1 : swp1 dd j j1 = (dd.set j y).set j1 x := by unfold swp1; rw [hx, hy]
            rw [← h1, swp1_comm dd j j1 (by omega) (by omega), hdd, hcc]
            have h2 := swp1_next (P ++ A0) (A2 ++ R) y x
            rw [show (P ++ A0).length = j1 by rw [List.length_append]; omega, show j1 + 1 = j by omega] at h2
            simpa [List.append_assoc] using h2, by omega, (List.pairwise_append.1 hs).1, by rw [← hp, put_last lt x y htv, List.append_assoc]; rfl⟩
          clear htv hx hy hjn hlen hdd hpl hj hs hp hc hcc hjl hj1
          refine start_ (n := 17) (S := fun w' => True) (ds := []) #[false, false, false, false, false, false, false, false, false, false, false, false, false, false, false, false, false] (by kernel_rfl) rfl rfl trivial (fun hHeld => ?_)
          refine with_tabW ins.tab4 ins.bits4 (fun HT_ HW_ => ?_)
          generalize wr.drew = wq at B0 R0 hHeld ⊢
          refine inv_at [0, 1, 2, 3, 4, 5, 6, 7, 8, 9, 10, 11, 12, 13, 14, 15, 16] (fun a0_ b a w' => ∃ (rv : Value), a = putSel a0_ b [(0, 18, .int .i64 (j : Int)), (1, 19, .int .i64 (ia : Int)), (2, 20, .bool true), (3, 21, .bool true), (4, 22, .func (.func 64) #[] #[]), (5, 23, .slice (some ⟨g, 0, none⟩) n cp), (6, 24, .int .i64 (j : Int)), (7, 25, .pointer (some ⟨g, j * 8, none⟩)), (8, 26, .agg #[.int .u64 x.id, .int .u64 x.first, .int .i64 x.prio, .int .i64 x.len, .int .u64 x.en, .bool x.played, .int .i64 x.lpn, .slice x.A x.n x.c]), (9, 27, .slice (some ⟨g, 0, none⟩) n cp), (10, 28, .int .i64 (j : Int)), (11, 29, .int .i64 (j1 : Int)), (12, 30, .pointer (some ⟨g, j1 * 8, none⟩)), (13, 31, .agg #[.int .u64 y.id, .int .u64 y.first, .int .i64 y.prio, .int .i64 y.len, .int .u64 y.en, .bool y.played, .int .i64 y.lpn, .slice y.A y.n y.c]), (14, 32, rv), (15, 33, .bool true), (16, 34, .bool true)] ∧ (Kp g w0 w') ∧ (RowB w' g dd) ∧ (b 14 = true → ∃ r_ : Int, rv = .int .i64 r_ ∧ decide (r_ < 0) = true)) HT_.out HW_.out (by kernel_rfl) (by kernel_rfl) ?_ ?_ ?_
          · exact ⟨.bool false, by simp only [putSel, Bool.false_eq_true, if_false], B0.out, R0.out, fun h_ => absurd h_ (by decide)⟩
          · skip
            clear B0 R0
            refine steps_cons ?_ ?_
            · rintro b a w' ⟨rv, ha, Q_B0, Q_R0, Q_HRV⟩ hb_ hon hoff
              refine ⟨_, rfl, fun K hK => ?_⟩
              have e9 : a.tmps[9]? = some (.int .i64 (j : Int)) := by rw [ha]; exact (putSel_off rfl).trans rfl
              replace ha := Aside0.mk ha
              have B0 := Aside0.mk Q_B0
              have R0 := Aside0.mk Q_R0
              refine value_ (w1 := w') (v := .int .i64 (j : Int)) (by rfl) rfl ?_ ?_
              · go_simp
                (try simp only [i64_w])
                try rfl
              refine hK.out _ _ ⟨rv, (by rw [ha.out]; exact putSel_upk 0 hb_ rfl rfl rfl), Q_B0, Q_R0, fun h0_ => absurd ((hoff 14 (by kernel_rfl)).symm.trans h0_) (by decide)⟩
            refine steps_cons ?_ ?_
            · rintro b a w' ⟨rv, ha, Q_B0, Q_R0, Q_HRV⟩ hb_ hon hoff
              refine ⟨_, rfl, fun K hK => ?_⟩
              have e1 : a.tmps[1]? = some (.int .i64 (ia : Int)) := by rw [ha]; exact (putSel_off rfl).trans rfl
              replace ha := Aside0.mk ha
              have B0 := Aside0.mk Q_B0
              have R0 := Aside0.mk Q_R0
              refine value_ (w1 := w') (v := .int .i64 (ia : Int)) (by rfl) rfl ?_ ?_
              · go_simp
                (try simp only [i64_w])
                try rfl
              refine hK.out _ _ ⟨rv, (by rw [ha.out]; exact putSel_upk 1 hb_ rfl rfl rfl), Q_B0, Q_R0, fun h0_ => absurd ((hoff 14 (by kernel_rfl)).symm.trans h0_) (by decide)⟩
            refine steps_cons ?_ ?_
            · rintro b a w' ⟨rv, ha, Q_B0, Q_R0, Q_HRV⟩ hb_ hon hoff
              refine ⟨_, rfl, fun K hK => ?_⟩
              have e18 : a.tmps[18]? = some (.int .i64 (j : Int)) := by rw [ha]; exact putSel_on (e := (0, 18, .int .i64 (j : Int))) 0 rfl rfl (hon 0 (by kernel_rfl)) rfl
              have e19 : a.tmps[19]? = some (.int .i64 (ia : Int)) := by rw [ha]; exact putSel_on (e := (1, 19, .int .i64 (ia : Int))) 1 rfl rfl (hon 1 (by kernel_rfl)) rfl
              replace ha := Aside0.mk ha
              have B0 := Aside0.mk Q_B0
              have R0 := Aside0.mk Q_R0
              have hw0_ := HGT.out.1
              have hw1_ := HGT.out.2.1
              have hw2_ := HGT.out.2.2
              refine value_ (w1 := w') (v := .bool true) (by rfl) rfl ?_ ?_
              · go_simp
                (try simp only [i64_w])
                try rfl
              refine hK.out _ _ ⟨rv, (by rw [ha.out]; exact putSel_upk 2 hb_ rfl rfl rfl), Q_B0, Q_R0, fun h0_ => absurd ((hoff 14 (by kernel_rfl)).symm.trans h0_) (by decide)⟩
            refine steps_cons ?_ ?_
            · rintro b a w' ⟨rv, ha, Q_B0, Q_R0, Q_HRV⟩ hb_ hon hoff
              refine ⟨_, rfl, fun K hK => ?_⟩
              have e20 : a.tmps[20]? = some (.bool true) := by rw [ha]; exact putSel_on (e := (2, 20, .bool true)) 2 rfl rfl (hon 2 (by kernel_rfl)) rfl
              replace ha := Aside0.mk ha
              have B0 := Aside0.mk Q_B0
              have R0 := Aside0.mk Q_R0
              refine value_ (w1 := w') (v := .bool true) (by rfl) rfl ?_ ?_
              · go_simp
                (try simp only [i64_w])
                try rfl
              refine hK.out _ _ ⟨rv, (by rw [ha.out]; exact putSel_upk 3 hb_ rfl rfl rfl), Q_B0, Q_R0, fun h0_ => absurd ((hoff 14 (by kernel_rfl)).symm.trans h0_) (by decide)⟩
            refine steps_cons ?_ ?_
            · rintro b a w' ⟨rv, ha, Q_B0, Q_R0, Q_HRV⟩ hb_ hon hoff
              refine ⟨_, rfl, fun K hK => ?_⟩
              have e3 : a.tmps[3]? = some (.func (.func 64) #[] #[]) := by rw [ha]; exact (putSel_off rfl).trans rfl
              have e21 : a.tmps[21]? = some (.bool true) := by rw [ha]; exact putSel_on (e := (3, 21, .bool true)) 3 rfl rfl (hon 3 (by kernel_rfl)) rfl
              replace ha := Aside0.mk ha
              have B0 := Aside0.mk Q_B0
              have R0 := Aside0.mk Q_R0
              refine value_ (w1 := w') (v := .func (.func 64) #[] #[]) (wanted_on rfl rfl rfl (e21.trans (by first | rfl | (simp [*]; done)))) rfl ?_ ?_
              · go_simp
                (try simp only [i64_w])
                try rfl
              refine hK.out _ _ ⟨rv, (by rw [ha.out]; exact putSel_upk 4 hb_ rfl rfl rfl), Q_B0, Q_R0, fun h0_ => absurd ((hoff 14 (by kernel_rfl)).symm.trans h0_) (by decide)⟩
            refine steps_cons ?_ ?_
            · rintro b a w' ⟨rv, ha, Q_B0, Q_R0, Q_HRV⟩ hb_ hon hoff
              refine ⟨_, rfl, fun K hK => ?_⟩
              have e0 : a.tmps[0]? = some (.slice (some ⟨g, 0, none⟩) n cp) := by rw [ha]; exact (putSel_off rfl).trans rfl
              have e21 : a.tmps[21]? = some (.bool true) := by rw [ha]; exact putSel_on (e := (3, 21, .bool true)) 3 rfl rfl (hon 3 (by kernel_rfl)) rfl
              replace ha := Aside0.mk ha
              have B0 := Aside0.mk Q_B0
              have R0 := Aside0.mk Q_R0
              refine value_ (w1 := w') (v := .slice (some ⟨g, 0, none⟩) n cp) (wanted_on rfl rfl rfl (e21.trans (by first | rfl | (simp [*]; done)))) rfl ?_ ?_
              · go_simp
                (try simp only [i64_w])
                try rfl
              refine hK.out _ _ ⟨rv, (by rw [ha.out]; exact putSel_upk 5 hb_ rfl rfl rfl), Q_B0, Q_R0, fun h0_ => absurd ((hoff 14 (by kernel_rfl)).symm.trans h0_) (by decide)⟩
            refine steps_cons ?_ ?_
            · rintro b a w' ⟨rv, ha, Q_B0, Q_R0, Q_HRV⟩ hb_ hon hoff
              refine ⟨_, rfl, fun K hK => ?_⟩
              have e9 : a.tmps[9]? = some (.int .i64 (j : Int)) := by rw [ha]; exact (putSel_off rfl).trans rfl
              have e21 : a.tmps[21]? = some (.bool true) := by rw [ha]; exact putSel_on (e := (3, 21, .bool true)) 3 rfl rfl (hon 3 (by kernel_rfl)) rfl
              replace ha := Aside0.mk ha
              have B0 := Aside0.mk Q_B0
              have R0 := Aside0.mk Q_R0
              refine value_ (w1 := w') (v := .int .i64 (j : Int)) (wanted_on rfl rfl rfl (e21.trans (by first | rfl | (simp [*]; done)))) rfl ?_ ?_
              · go_simp
                (try simp only [i64_w])
                try rfl
              refine hK.out _ _ ⟨rv, (by rw [ha.out]; exact putSel_upk 6 hb_ rfl rfl rfl), Q_B0, Q_R0, fun h0_ => absurd ((hoff 14 (by kernel_rfl)).symm.trans h0_) (by decide)⟩
            refine steps_cons ?_ ?_
            · rintro b a w' ⟨rv, ha, Q_B0, Q_R0, Q_HRV⟩ hb_ hon hoff
              refine ⟨_, rfl, fun K hK => ?_⟩
              have e23 : a.tmps[23]? = some (.slice (some ⟨g, 0, none⟩) n cp) := by rw [ha]; exact putSel_on (e := (5, 23, .slice (some ⟨g, 0, none⟩) n cp)) 5 rfl rfl (hon 5 (by kernel_rfl)) rfl
              have e24 : a.tmps[24]? = some (.int .i64 (j : Int)) := by rw [ha]; exact putSel_on (e := (6, 24, .int .i64 (j : Int))) 6 rfl rfl (hon 6 (by kernel_rfl)) rfl
              have e21 : a.tmps[21]? = some (.bool true) := by rw [ha]; exact putSel_on (e := (3, 21, .bool true)) 3 rfl rfl (hon 3 (by kernel_rfl)) rfl
              replace ha := Aside0.mk ha
              have B0 := Aside0.mk Q_B0
              have R0 := Aside0.mk Q_R0
              have p1_ := LO_j.out
              have q1_ := HI_j.out
              refine value_ (w1 := w') (v := .pointer (some ⟨g, j * 8, none⟩)) (wanted_on rfl rfl rfl (e21.trans (by first | rfl | (simp [*]; done)))) rfl ?_ ?_
              · go_simp
                (try simp only [i64_w])
                try rfl
              refine hK.out _ _ ⟨rv, (by rw [ha.out]; exact putSel_upk 7 hb_ rfl rfl rfl), Q_B0, Q_R0, fun h0_ => absurd ((hoff 14 (by kernel_rfl)).symm.trans h0_) (by decide)⟩
            refine steps_cons ?_ ?_
            · rintro b a w' ⟨rv, ha, Q_B0, Q_R0, Q_HRV⟩ hb_ hon hoff
              refine ⟨_, rfl, fun K hK => ?_⟩
              have e25 : a.tmps[25]? = some (.pointer (some ⟨g, j * 8, none⟩)) := by rw [ha]; exact putSel_on (e := (7, 25, .pointer (some ⟨g, j * 8, none⟩))) 7 rfl rfl (hon 7 (by kernel_rfl)) rfl
              have e21 : a.tmps[21]? = some (.bool true) := by rw [ha]; exact putSel_on (e := (3, 21, .bool true)) 3 rfl rfl (hon 3 (by kernel_rfl)) rfl
              replace ha := Aside0.mk ha
              have B0 := Aside0.mk Q_B0
              have R0 := Aside0.mk Q_R0
              have cs_ := R0.out.cells HX_j.out
              refine value_ (w1 := w') (v := .agg #[.int .u64 x.id, .int .u64 x.first, .int .i64 x.prio, .int .i64 x.len, .int .u64 x.en, .bool x.played, .int .i64 x.lpn, .slice x.A x.n x.c]) (wanted_on rfl rfl rfl (e21.trans (by first | rfl | (simp [*]; done)))) rfl ?_ ?_
              · go_simp
                (try simp only [i64_w])
                try rfl
              refine hK.out _ _ ⟨rv, (by rw [ha.out]; exact putSel_upk 8 hb_ rfl rfl rfl), Q_B0, Q_R0, fun h0_ => absurd ((hoff 14 (by kernel_rfl)).symm.trans h0_) (by decide)⟩
            refine steps_cons ?_ ?_
            · rintro b a w' ⟨rv, ha, Q_B0, Q_R0, Q_HRV⟩ hb_ hon hoff
              refine ⟨_, rfl, fun K hK => ?_⟩
              have e0 : a.tmps[0]? = some (.slice (some ⟨g, 0, none⟩) n cp) := by rw [ha]; exact (putSel_off rfl).trans rfl
              have e21 : a.tmps[21]? = some (.bool true) := by rw [ha]; exact putSel_on (e := (3, 21, .bool true)) 3 rfl rfl (hon 3 (by kernel_rfl)) rfl
              replace ha := Aside0.mk ha
              have B0 := Aside0.mk Q_B0
              have R0 := Aside0.mk Q_R0
              refine value_ (w1 := w') (v := .slice (some ⟨g, 0, none⟩) n cp) (wanted_on rfl rfl rfl (e21.trans (by first | rfl | (simp [*]; done)))) rfl ?_ ?_
              · go_simp
                (try simp only [i64_w])
                try rfl
              refine hK.out _ _ ⟨rv, (by rw [ha.out]; exact putSel_upk 9 hb_ rfl rfl rfl), Q_B0, Q_R0, fun h0_ => absurd ((hoff 14 (by kernel_rfl)).symm.trans h0_) (by decide)⟩
            refine steps_cons ?_ ?_
            · rintro b a w' ⟨rv, ha, Q_B0, Q_R0, Q_HRV⟩ hb_ hon hoff
              refine ⟨_, rfl, fun K hK => ?_⟩
              have e9 : a.tmps[9]? = some (.int .i64 (j : Int)) := by rw [ha]; exact (putSel_off rfl).trans rfl
              have e21 : a.tmps[21]? = some (.bool true) := by rw [ha]; exact putSel_on (e := (3, 21, .bool true)) 3 rfl rfl (hon 3 (by kernel_rfl)) rfl
              replace ha := Aside0.mk ha
              have B0 := Aside0.mk Q_B0
              have R0 := Aside0.mk Q_R0
              refine value_ (w1 := w') (v := .int .i64 (j : Int)) (wanted_on rfl rfl rfl (e21.trans (by first | rfl | (simp [*]; done)))) rfl ?_ ?_
              · go_simp
                (try simp only [i64_w])
                try rfl
              refine hK.out _ _ ⟨rv, (by rw [ha.out]; exact putSel_upk 10 hb_ rfl rfl rfl), Q_B0, Q_R0, fun h0_ => absurd ((hoff 14 (by kernel_rfl)).symm.trans h0_) (by decide)⟩
            refine steps_cons ?_ ?_
            · rintro b a w' ⟨rv, ha, Q_B0, Q_R0, Q_HRV⟩ hb_ hon hoff
              refine ⟨_, rfl, fun K hK => ?_⟩
              have e28 : a.tmps[28]? = some (.int .i64 (j : Int)) := by rw [ha]; exact putSel_on (e := (10, 28, .int .i64 (j : Int))) 10 rfl rfl (hon 10 (by kernel_rfl)) rfl
              have e21 : a.tmps[21]? = some (.bool true) := by rw [ha]; exact putSel_on (e := (3, 21, .bool true)) 3 rfl rfl (hon 3 (by kernel_rfl)) rfl
              replace ha := Aside0.mk ha
              have B0 := Aside0.mk Q_B0
              have R0 := Aside0.mk Q_R0
              have hw0_ := HW1.out
              refine value_ (w1 := w') (v := .int .i64 (j1 : Int)) (wanted_on rfl rfl rfl (e21.trans (by first | rfl | (simp [*]; done)))) rfl ?_ ?_
              · go_simp
                (try simp only [i64_w])
                try rfl
              refine hK.out _ _ ⟨rv, (by rw [ha.out]; exact putSel_upk 11 hb_ rfl rfl rfl), Q_B0, Q_R0, fun h0_ => absurd ((hoff 14 (by kernel_rfl)).symm.trans h0_) (by decide)⟩
            refine steps_cons ?_ ?_
            · rintro b a w' ⟨rv, ha, Q_B0, Q_R0, Q_HRV⟩ hb_ hon hoff
              refine ⟨_, rfl, fun K hK => ?_⟩
              have e27 : a.tmps[27]? = some (.slice (some ⟨g, 0, none⟩) n cp) := by rw [ha]; exact putSel_on (e := (9, 27, .slice (some ⟨g, 0, none⟩) n cp)) 9 rfl rfl (hon 9 (by kernel_rfl)) rfl
              have e29 : a.tmps[29]? = some (.int .i64 (j1 : Int)) := by rw [ha]; exact putSel_on (e := (11, 29, .int .i64 (j1 : Int))) 11 rfl rfl (hon 11 (by kernel_rfl)) rfl
              have e21 : a.tmps[21]? = some (.bool true) := by rw [ha]; exact putSel_on (e := (3, 21, .bool true)) 3 rfl rfl (hon 3 (by kernel_rfl)) rfl
              replace ha := Aside0.mk ha
              have B0 := Aside0.mk Q_B0
              have R0 := Aside0.mk Q_R0
              have p1_ := LO_j1.out
              have q1_ := HI_j1.out
              refine value_ (w1 := w') (v := .pointer (some ⟨g, j1 * 8, none⟩)) (wanted_on rfl rfl rfl (e21.trans (by first | rfl | (simp [*]; done)))) rfl ?_ ?_
              · go_simp
                (try simp only [i64_w])
                try rfl
              refine hK.out _ _ ⟨rv, (by rw [ha.out]; exact putSel_upk 12 hb_ rfl rfl rfl), Q_B0, Q_R0, fun h0_ => absurd ((hoff 14 (by kernel_rfl)).symm.trans h0_) (by decide)⟩
            refine steps_cons ?_ ?_
            · rintro b a w' ⟨rv, ha, Q_B0, Q_R0, Q_HRV⟩ hb_ hon hoff
              refine ⟨_, rfl, fun K hK => ?_⟩
              have e30 : a.tmps[30]? = some (.pointer (some ⟨g, j1 * 8, none⟩)) := by rw [ha]; exact putSel_on (e := (12, 30, .pointer (some ⟨g, j1 * 8, none⟩))) 12 rfl rfl (hon 12 (by kernel_rfl)) rfl
              have e21 : a.tmps[21]? = some (.bool true) := by rw [ha]; exact putSel_on (e := (3, 21, .bool true)) 3 rfl rfl (hon 3 (by kernel_rfl)) rfl
              replace ha := Aside0.mk ha
              have B0 := Aside0.mk Q_B0
              have R0 := Aside0.mk Q_R0
              have cs_ := R0.out.cells HX_j1.out
              refine value_ (w1 := w') (v := .agg #[.int .u64 y.id, .int .u64 y.first, .int .i64 y.prio, .int .i64 y.len, .int .u64 y.en, .bool y.played, .int .i64 y.lpn, .slice y.A y.n y.c]) (wanted_on rfl rfl rfl (e21.trans (by first | rfl | (simp [*]; done)))) rfl ?_ ?_
              · go_simp
                (try simp only [i64_w])
                try rfl
              refine hK.out _ _ ⟨rv, (by rw [ha.out]; exact putSel_upk 13 hb_ rfl rfl rfl), Q_B0, Q_R0, fun h0_ => absurd ((hoff 14 (by kernel_rfl)).symm.trans h0_) (by decide)⟩
            refine steps_cons ?_ ?_
            · rintro b a w' ⟨rv, ha, Q_B0, Q_R0, Q_HRV⟩ hb_ hon hoff
              refine ⟨_, rfl, fun K hK => ?_⟩
              have e22 : a.tmps[22]? = some (.func (.func 64) #[] #[]) := by rw [ha]; exact putSel_on (e := (4, 22, .func (.func 64) #[] #[])) 4 rfl rfl (hon 4 (by kernel_rfl)) rfl
              have e26 : a.tmps[26]? = some (.agg #[.int .u64 x.id, .int .u64 x.first, .int .i64 x.prio, .int .i64 x.len, .int .u64 x.en, .bool x.played, .int .i64 x.lpn, .slice x.A x.n x.c]) := by rw [ha]; exact putSel_on (e := (8, 26, .agg #[.int .u64 x.id, .int .u64 x.first, .int .i64 x.prio, .int .i64 x.len, .int .u64 x.en, .bool x.played, .int .i64 x.lpn, .slice x.A x.n x.c])) 8 rfl rfl (hon 8 (by kernel_rfl)) rfl
              have e31 : a.tmps[31]? = some (.agg #[.int .u64 y.id, .int .u64 y.first, .int .i64 y.prio, .int .i64 y.len, .int .u64 y.en, .bool y.played, .int .i64 y.lpn, .slice y.A y.n y.c]) := by rw [ha]; exact putSel_on (e := (13, 31, .agg #[.int .u64 y.id, .int .u64 y.first, .int .i64 y.prio, .int .i64 y.len, .int .u64 y.en, .bool y.played, .int .i64 y.lpn, .slice y.A y.n y.c])) 13 rfl rfl (hon 13 (by kernel_rfl)) rfl
              have e21 : a.tmps[21]? = some (.bool true) := by rw [ha]; exact putSel_on (e := (3, 21, .bool true)) 3 rfl rfl (hon 3 (by kernel_rfl)) rfl
              replace ha := Aside0.mk ha
              have B0 := Aside0.mk Q_B0
              have R0 := Aside0.mk Q_R0
              refine goesv_ (t := 22) Try.func64 (by kernel_rfl) rfl #[.agg #[.int .u64 x.id, .int .u64 x.first, .int .i64 x.prio, .int .i64 x.len, .int .u64 x.en, .bool x.played, .int .i64 x.lpn, .slice x.A x.n x.c], .agg #[.int .u64 y.id, .int .u64 y.first, .int .i64 y.prio, .int .i64 y.len, .int .u64 y.en, .bool y.played, .int .i64 y.lpn, .slice y.A y.n y.c]] (wanted_on rfl rfl rfl (e21.trans rfl)) rfl rfl e22 (by first | (simp only [List.map_toArray, List.map_cons, List.map_nil, Act.eval, Array.getD_eq_getD_getElem?, Option.getD_some, e22, e26, e31, e21]; done) | (simp only [List.map_toArray, List.map_cons, List.map_nil, Act.eval, Array.getD_eq_getD_getElem?, Option.getD_some, e22, e26, e31, e21]; rfl)) ?_
              with_reducible refine (HCMP.out w' x y).mono ?_
              rintro e w2 ⟨r_, rfl, hr_, hb⟩
              refine ⟨_, rfl, ?_⟩
              refine hK.out _ _ ⟨.int .i64 r_, (by rw [ha.out]; exact putSel_upk 14 hb_ rfl rfl rfl), below_row B0.out HG.out R0.out hb, RowB.below R0.out hb, fun _ => ⟨r_, rfl, hr_.trans HTV.out⟩⟩
            refine steps_cons ?_ ?_
            · rintro b a w' ⟨rv, ha, Q_B0, Q_R0, Q_HRV⟩ hb_ hon hoff
              refine ⟨_, rfl, fun K hK => ?_⟩
              have e32 : a.tmps[32]? = some (rv) := by rw [ha]; exact putSel_on (e := (14, 32, rv)) 14 rfl rfl (hon 14 (by kernel_rfl)) rfl
              have e21 : a.tmps[21]? = some (.bool true) := by rw [ha]; exact putSel_on (e := (3, 21, .bool true)) 3 rfl rfl (hon 3 (by kernel_rfl)) rfl
              replace ha := Aside0.mk ha
              have B0 := Aside0.mk Q_B0
              have R0 := Aside0.mk Q_R0
              have HRV := Aside0.mk (Q_HRV (hon 14 (by kernel_rfl)))
              obtain ⟨r_, hr1_, hr2_⟩ := HRV.out
              rw [hr1_] at e32
              refine value_ (w1 := w') (v := .bool true) (wanted_on rfl rfl rfl (e21.trans (by first | rfl | (simp [*]; done)))) rfl ?_ ?_
              · go_simp
                (try simp only [i64_w])
                try rfl
              refine hK.out _ _ ⟨rv, (by rw [ha.out]; exact putSel_upk 15 hb_ rfl rfl rfl), Q_B0, Q_R0, Q_HRV⟩
            refine steps_cons ?_ ?_
            · rintro b a w' ⟨rv, ha, Q_B0, Q_R0, Q_HRV⟩ hb_ hon hoff
              refine ⟨_, rfl, fun K hK => ?_⟩
              have e21 : a.tmps[21]? = some (.bool true) := by rw [ha]; exact putSel_on (e := (3, 21, .bool true)) 3 rfl rfl (hon 3 (by kernel_rfl)) rfl
              have e33 : a.tmps[33]? = some (.bool true) := by rw [ha]; exact putSel_on (e := (15, 33, .bool true)) 15 rfl rfl (hon 15 (by kernel_rfl)) rfl
              replace ha := Aside0.mk ha
              have B0 := Aside0.mk Q_B0
              have R0 := Aside0.mk Q_R0
              have HRV := Aside0.mk (Q_HRV (hon 14 (by kernel_rfl)))
              refine value_ (w1 := w') (v := .bool true) (by rfl) rfl ?_ ?_
              · go_simp
                (try simp only [i64_w])
                try rfl
              refine hK.out _ _ ⟨rv, (by rw [ha.out]; exact putSel_upk 16 hb_ rfl rfl rfl), Q_B0, Q_R0, Q_HRV⟩
            exact steps_nil
          rintro b a wl hall ⟨rv, ha, Q_B0, Q_R0, Q_HRV⟩
          clear B0 R0
          have hb0_ := hall 0 (by kernel_rfl)
          have hb1_ := hall 1 (by kernel_rfl)
          have hb2_ := hall 2 (by kernel_rfl)
          have hb3_ := hall 3 (by kernel_rfl)
          have hb4_ := hall 4 (by kernel_rfl)
          have hb5_ := hall 5 (by kernel_rfl)
          have hb6_ := hall 6 (by kernel_rfl)
          have hb7_ := hall 7 (by kernel_rfl)
          have hb8_ := hall 8 (by kernel_rfl)
          have hb9_ := hall 9 (by kernel_rfl)
          have hb10_ := hall 10 (by kernel_rfl)
          have hb11_ := hall 11 (by kernel_rfl)
          have hb12_ := hall 12 (by kernel_rfl)
          have hb13_ := hall 13 (by kernel_rfl)
          have hb14_ := hall 14 (by kernel_rfl)
          have hb15_ := hall 15 (by kernel_rfl)
          have hb16_ := hall 16 (by kernel_rfl)
          subst ha
          simp only [putSel, hb0_, hb1_, hb2_, hb3_, hb4_, hb5_, hb6_, hb7_, hb8_, hb9_, hb10_, hb11_, hb12_, hb13_, hb14_, hb15_, hb16_, if_true, Act.put, List.setIfInBounds_toArray, List.set_cons_zero, List.set_cons_succ]
          have B0 := Aside0.mk Q_B0
          clear Q_B0
          have R0 := Aside0.mk Q_R0
          clear Q_R0
          have HRV := Aside0.mk (Q_HRV hb14_)
          clear Q_HRV
          clear hall hb0_ hb1_ hb2_ hb3_ hb4_ hb5_ hb6_ hb7_ hb8_ hb9_ hb10_ hb11_ hb12_ hb13_ hb14_ hb15_ hb16_
          clear HRV
          replace B0 := Aside0.mk (kp_drew B0.out)
          go_upto_region 6 with fail
          replace R0 := Aside0.mk (RowB.below R0.out (below_drew1 (Below.refl wl.heap.size wl)))
          refine start_ (n := 18) (S := fun w' => True) (ds := []) #[false, false, false, false, false, false, false, false, false, false, false, false, false, false, false, false, false, false] (by kernel_rfl) rfl rfl trivial (fun hHeld => ?_)
          refine with_tabW ins.tab6 ins.bits6 (fun HT_ HW_ => ?_)
          generalize wl.drew = wq at B0 R0 hHeld ⊢
          refine inv_at [0, 1, 2, 3, 4, 5, 6, 7, 8, 9, 10, 11, 12, 13, 14, 15, 16, 17] (fun a0_ b a w' => a = putSel a0_ b [(0, 37, .slice (some ⟨g, 0, none⟩) n cp), (1, 38, .int .i64 (j : Int)), (2, 39, .slice (some ⟨g, 0, none⟩) n cp), (3, 40, .int .i64 (j : Int)), (4, 41, .int .i64 (j1 : Int)), (5, 42, .slice (some ⟨g, 0, none⟩) n cp), (6, 43, .int .i64 (j : Int)), (7, 44, .int .i64 (j1 : Int)), (8, 45, .pointer (some ⟨g, j1 * 8, none⟩)), (9, 46, .agg #[.int .u64 y.id, .int .u64 y.first, .int .i64 y.prio, .int .i64 y.len, .int .u64 y.en, .bool y.played, .int .i64 y.lpn, .slice y.A y.n y.c]), (10, 47, .slice (some ⟨g, 0, none⟩) n cp), (11, 48, .int .i64 (j : Int)), (12, 49, .pointer (some ⟨g, j * 8, none⟩)), (13, 50, .agg #[.int .u64 x.id, .int .u64 x.first, .int .i64 x.prio, .int .i64 x.len, .int .u64 x.en, .bool x.played, .int .i64 x.lpn, .slice x.A x.n x.c]), (14, 51, .pointer (some ⟨g, j * 8, none⟩)), (16, 52, .pointer (some ⟨g, j1 * 8, none⟩))] ∧ (Kp g w0 w') ∧ (b 15 = false → RowB w' g dd) ∧ (b 15 = true → b 17 = false → RowB w' g (dd.set j y)) ∧ (b 17 = true → RowB w' g ((dd.set j y).set j1 x))) HT_.out HW_.out (by kernel_rfl) (by kernel_rfl) ?_ ?_ ?_
          · exact ⟨by simp only [putSel, Bool.false_eq_true, if_false], B0.out, fun _ => R0.out, fun h_ => absurd h_ (by decide), fun h_ => absurd h_ (by decide)⟩
          · skip
            clear B0 R0
            refine steps_cons ?_ ?_
            · rintro b a w' ⟨ha, Q_B0, Q_R0, Q_R1, Q_R2⟩ hb_ hon hoff
              refine ⟨_, rfl, fun K hK => ?_⟩
              have e0 : a.tmps[0]? = some (.slice (some ⟨g, 0, none⟩) n cp) := by rw [ha]; exact (putSel_off rfl).trans rfl
              replace ha := Aside0.mk ha
              have B0 := Aside0.mk Q_B0
              have R0 := Aside0.mk (Q_R0 (hoff 15 (by kernel_rfl)))
              refine value_ (w1 := w') (v := .slice (some ⟨g, 0, none⟩) n cp) (by rfl) rfl ?_ ?_
              · go_simp
                (try simp only [i64_w])
                try rfl
              refine hK.out _ _ ⟨(by rw [ha.out]; exact putSel_upk 0 hb_ rfl rfl rfl), Q_B0, Q_R0, fun h0_ _ => absurd ((hoff 15 (by kernel_rfl)).symm.trans h0_) (by decide), fun h0_ => absurd ((hoff 17 (by kernel_rfl)).symm.trans h0_) (by decide)⟩
            refine steps_cons ?_ ?_
            · rintro b a w' ⟨ha, Q_B0, Q_R0, Q_R1, Q_R2⟩ hb_ hon hoff
              refine ⟨_, rfl, fun K hK => ?_⟩
              have e9 : a.tmps[9]? = some (.int .i64 (j : Int)) := by rw [ha]; exact (putSel_off rfl).trans rfl
              replace ha := Aside0.mk ha
              have B0 := Aside0.mk Q_B0
              have R0 := Aside0.mk (Q_R0 (hoff 15 (by kernel_rfl)))
              refine value_ (w1 := w') (v := .int .i64 (j : Int)) (by rfl) rfl ?_ ?_
              · go_simp
                (try simp only [i64_w])
                try rfl
              refine hK.out _ _ ⟨(by rw [ha.out]; exact putSel_upk 1 hb_ rfl rfl rfl), Q_B0, Q_R0, fun h0_ _ => absurd ((hoff 15 (by kernel_rfl)).symm.trans h0_) (by decide), fun h0_ => absurd ((hoff 17 (by kernel_rfl)).symm.trans h0_) (by decide)⟩
            refine steps_cons ?_ ?_
            · rintro b a w' ⟨ha, Q_B0, Q_R0, Q_R1, Q_R2⟩ hb_ hon hoff
              refine ⟨_, rfl, fun K hK => ?_⟩
              have e0 : a.tmps[0]? = some (.slice (some ⟨g, 0, none⟩) n cp) := by rw [ha]; exact (putSel_off rfl).trans rfl
              replace ha := Aside0.mk ha
              have B0 := Aside0.mk Q_B0
              refine value_ (w1 := w') (v := .slice (some ⟨g, 0, none⟩) n cp) (by rfl) rfl ?_ ?_
              · go_simp
                (try simp only [i64_w])
                try rfl
              refine hK.out _ _ ⟨(by rw [ha.out]; exact putSel_upk 2 hb_ rfl rfl rfl), Q_B0, Q_R0, Q_R1, fun h0_ => absurd ((hoff 17 (by kernel_rfl)).symm.trans h0_) (by decide)⟩
            refine steps_cons ?_ ?_
            · rintro b a w' ⟨ha, Q_B0, Q_R0, Q_R1, Q_R2⟩ hb_ hon hoff
              refine ⟨_, rfl, fun K hK => ?_⟩
              have e9 : a.tmps[9]? = some (.int .i64 (j : Int)) := by rw [ha]; exact (putSel_off rfl).trans rfl
              replace ha := Aside0.mk ha
              have B0 := Aside0.mk Q_B0
              refine value_ (w1 := w') (v := .int .i64 (j : Int)) (by rfl) rfl ?_ ?_
              · go_simp
                (try simp only [i64_w])
                try rfl
              refine hK.out _ _ ⟨(by rw [ha.out]; exact putSel_upk 3 hb_ rfl rfl rfl), Q_B0, Q_R0, Q_R1, fun h0_ => absurd ((hoff 17 (by kernel_rfl)).symm.trans h0_) (by decide)⟩
            refine steps_cons ?_ ?_
            · rintro b a w' ⟨ha, Q_B0, Q_R0, Q_R1, Q_R2⟩ hb_ hon hoff
              refine ⟨_, rfl, fun K hK => ?_⟩
              have e40 : a.tmps[40]? = some (.int .i64 (j : Int)) := by rw [ha]; exact putSel_on (e := (3, 40, .int .i64 (j : Int))) 3 rfl rfl (hon 3 (by kernel_rfl)) rfl
              replace ha := Aside0.mk ha
              have B0 := Aside0.mk Q_B0
              have hw0_ := HW1.out
              refine value_ (w1 := w') (v := .int .i64 (j1 : Int)) (by rfl) rfl ?_ ?_
              · go_simp
                (try simp only [i64_w])
                try rfl
              refine hK.out _ _ ⟨(by rw [ha.out]; exact putSel_upk 4 hb_ rfl rfl rfl), Q_B0, Q_R0, Q_R1, fun h0_ => absurd ((hoff 17 (by kernel_rfl)).symm.trans h0_) (by decide)⟩
            refine steps_cons ?_ ?_
            · rintro b a w' ⟨ha, Q_B0, Q_R0, Q_R1, Q_R2⟩ hb_ hon hoff
              refine ⟨_, rfl, fun K hK => ?_⟩
              have e0 : a.tmps[0]? = some (.slice (some ⟨g, 0, none⟩) n cp) := by rw [ha]; exact (putSel_off rfl).trans rfl
              replace ha := Aside0.mk ha
              have B0 := Aside0.mk Q_B0
              have R0 := Aside0.mk (Q_R0 (hoff 15 (by kernel_rfl)))
              refine value_ (w1 := w') (v := .slice (some ⟨g, 0, none⟩) n cp) (by rfl) rfl ?_ ?_
              · go_simp
                (try simp only [i64_w])
                try rfl
              refine hK.out _ _ ⟨(by rw [ha.out]; exact putSel_upk 5 hb_ rfl rfl rfl), Q_B0, Q_R0, fun h0_ _ => absurd ((hoff 15 (by kernel_rfl)).symm.trans h0_) (by decide), fun h0_ => absurd ((hoff 17 (by kernel_rfl)).symm.trans h0_) (by decide)⟩
            refine steps_cons ?_ ?_
            · rintro b a w' ⟨ha, Q_B0, Q_R0, Q_R1, Q_R2⟩ hb_ hon hoff
              refine ⟨_, rfl, fun K hK => ?_⟩
              have e9 : a.tmps[9]? = some (.int .i64 (j : Int)) := by rw [ha]; exact (putSel_off rfl).trans rfl
              replace ha := Aside0.mk ha
              have B0 := Aside0.mk Q_B0
              have R0 := Aside0.mk (Q_R0 (hoff 15 (by kernel_rfl)))
              refine value_ (w1 := w') (v := .int .i64 (j : Int)) (by rfl) rfl ?_ ?_
              · go_simp
                (try simp only [i64_w])
                try rfl
              refine hK.out _ _ ⟨(by rw [ha.out]; exact putSel_upk 6 hb_ rfl rfl rfl), Q_B0, Q_R0, fun h0_ _ => absurd ((hoff 15 (by kernel_rfl)).symm.trans h0_) (by decide), fun h0_ => absurd ((hoff 17 (by kernel_rfl)).symm.trans h0_) (by decide)⟩
            refine steps_cons ?_ ?_
            · rintro b a w' ⟨ha, Q_B0, Q_R0, Q_R1, Q_R2⟩ hb_ hon hoff
              refine ⟨_, rfl, fun K hK => ?_⟩
              have e43 : a.tmps[43]? = some (.int .i64 (j : Int)) := by rw [ha]; exact putSel_on (e := (6, 43, .int .i64 (j : Int))) 6 rfl rfl (hon 6 (by kernel_rfl)) rfl
              replace ha := Aside0.mk ha
              have B0 := Aside0.mk Q_B0
              have R0 := Aside0.mk (Q_R0 (hoff 15 (by kernel_rfl)))
              have hw0_ := HW1.out
              refine value_ (w1 := w') (v := .int .i64 (j1 : Int)) (by rfl) rfl ?_ ?_
              · go_simp
                (try simp only [i64_w])
                try rfl
              refine hK.out _ _ ⟨(by rw [ha.out]; exact putSel_upk 7 hb_ rfl rfl rfl), Q_B0, Q_R0, fun h0_ _ => absurd ((hoff 15 (by kernel_rfl)).symm.trans h0_) (by decide), fun h0_ => absurd ((hoff 17 (by kernel_rfl)).symm.trans h0_) (by decide)⟩
            refine steps_cons ?_ ?_
            · rintro b a w' ⟨ha, Q_B0, Q_R0, Q_R1, Q_R2⟩ hb_ hon hoff
              refine ⟨_, rfl, fun K hK => ?_⟩
              have e42 : a.tmps[42]? = some (.slice (some ⟨g, 0, none⟩) n cp) := by rw [ha]; exact putSel_on (e := (5, 42, .slice (some ⟨g, 0, none⟩) n cp)) 5 rfl rfl (hon 5 (by kernel_rfl)) rfl
              have e44 : a.tmps[44]? = some (.int .i64 (j1 : Int)) := by rw [ha]; exact putSel_on (e := (7, 44, .int .i64 (j1 : Int))) 7 rfl rfl (hon 7 (by kernel_rfl)) rfl
              replace ha := Aside0.mk ha
              have B0 := Aside0.mk Q_B0
              have R0 := Aside0.mk (Q_R0 (hoff 15 (by kernel_rfl)))
              have p1_ := LO_j1.out
              have q1_ := HI_j1.out
              refine value_ (w1 := w') (v := .pointer (some ⟨g, j1 * 8, none⟩)) (by rfl) rfl ?_ ?_
              · go_simp
                (try simp only [i64_w])
                try rfl
              refine hK.out _ _ ⟨(by rw [ha.out]; exact putSel_upk 8 hb_ rfl rfl rfl), Q_B0, Q_R0, fun h0_ _ => absurd ((hoff 15 (by kernel_rfl)).symm.trans h0_) (by decide), fun h0_ => absurd ((hoff 17 (by kernel_rfl)).symm.trans h0_) (by decide)⟩
            refine steps_cons ?_ ?_
            · rintro b a w' ⟨ha, Q_B0, Q_R0, Q_R1, Q_R2⟩ hb_ hon hoff
              refine ⟨_, rfl, fun K hK => ?_⟩
              have e45 : a.tmps[45]? = some (.pointer (some ⟨g, j1 * 8, none⟩)) := by rw [ha]; exact putSel_on (e := (8, 45, .pointer (some ⟨g, j1 * 8, none⟩))) 8 rfl rfl (hon 8 (by kernel_rfl)) rfl
              replace ha := Aside0.mk ha
              have B0 := Aside0.mk Q_B0
              have R0 := Aside0.mk (Q_R0 (hoff 15 (by kernel_rfl)))
              have cs_ := R0.out.cells HX_j1.out
              refine value_ (w1 := w') (v := .agg #[.int .u64 y.id, .int .u64 y.first, .int .i64 y.prio, .int .i64 y.len, .int .u64 y.en, .bool y.played, .int .i64 y.lpn, .slice y.A y.n y.c]) (by rfl) rfl ?_ ?_
              · go_simp
                (try simp only [i64_w])
                try rfl
              refine hK.out _ _ ⟨(by rw [ha.out]; exact putSel_upk 9 hb_ rfl rfl rfl), Q_B0, Q_R0, fun h0_ _ => absurd ((hoff 15 (by kernel_rfl)).symm.trans h0_) (by decide), fun h0_ => absurd ((hoff 17 (by kernel_rfl)).symm.trans h0_) (by decide)⟩
            refine steps_cons ?_ ?_
            · rintro b a w' ⟨ha, Q_B0, Q_R0, Q_R1, Q_R2⟩ hb_ hon hoff
              refine ⟨_, rfl, fun K hK => ?_⟩
              have e0 : a.tmps[0]? = some (.slice (some ⟨g, 0, none⟩) n cp) := by rw [ha]; exact (putSel_off rfl).trans rfl
              replace ha := Aside0.mk ha
              have B0 := Aside0.mk Q_B0
              have R0 := Aside0.mk (Q_R0 (hoff 15 (by kernel_rfl)))
              refine value_ (w1 := w') (v := .slice (some ⟨g, 0, none⟩) n cp) (by rfl) rfl ?_ ?_
              · go_simp
                (try simp only [i64_w])
                try rfl
              refine hK.out _ _ ⟨(by rw [ha.out]; exact putSel_upk 10 hb_ rfl rfl rfl), Q_B0, Q_R0, fun h0_ _ => absurd ((hoff 15 (by kernel_rfl)).symm.trans h0_) (by decide), fun h0_ => absurd ((hoff 17 (by kernel_rfl)).symm.trans h0_) (by decide)⟩
            refine steps_cons ?_ ?_
            · rintro b a w' ⟨ha, Q_B0, Q_R0, Q_R1, Q_R2⟩ hb_ hon hoff
              refine ⟨_, rfl, fun K hK => ?_⟩
              have e9 : a.tmps[9]? = some (.int .i64 (j : Int)) := by rw [ha]; exact (putSel_off rfl).trans rfl
              replace ha := Aside0.mk ha
              have B0 := Aside0.mk Q_B0
              have R0 := Aside0.mk (Q_R0 (hoff 15 (by kernel_rfl)))
              refine value_ (w1 := w') (v := .int .i64 (j : Int)) (by rfl) rfl ?_ ?_
              · go_simp
                (try simp only [i64_w])
                try rfl
              refine hK.out _ _ ⟨(by rw [ha.out]; exact putSel_upk 11 hb_ rfl rfl rfl), Q_B0, Q_R0, fun h0_ _ => absurd ((hoff 15 (by kernel_rfl)).symm.trans h0_) (by decide), fun h0_ => absurd ((hoff 17 (by kernel_rfl)).symm.trans h0_) (by decide)⟩
            refine steps_cons ?_ ?_
            · rintro b a w' ⟨ha, Q_B0, Q_R0, Q_R1, Q_R2⟩ hb_ hon hoff
              refine ⟨_, rfl, fun K hK => ?_⟩
              have e47 : a.tmps[47]? = some (.slice (some ⟨g, 0, none⟩) n cp) := by rw [ha]; exact putSel_on (e := (10, 47, .slice (some ⟨g, 0, none⟩) n cp)) 10 rfl rfl (hon 10 (by kernel_rfl)) rfl
              have e48 : a.tmps[48]? = some (.int .i64 (j : Int)) := by rw [ha]; exact putSel_on (e := (11, 48, .int .i64 (j : Int))) 11 rfl rfl (hon 11 (by kernel_rfl)) rfl
              replace ha := Aside0.mk ha
              have B0 := Aside0.mk Q_B0
              have R0 := Aside0.mk (Q_R0 (hoff 15 (by kernel_rfl)))
              have p1_ := LO_j.out
              have q1_ := HI_j.out
              refine value_ (w1 := w') (v := .pointer (some ⟨g, j * 8, none⟩)) (by rfl) rfl ?_ ?_
              · go_simp
                (try simp only [i64_w])
                try rfl
              refine hK.out _ _ ⟨(by rw [ha.out]; exact putSel_upk 12 hb_ rfl rfl rfl), Q_B0, Q_R0, fun h0_ _ => absurd ((hoff 15 (by kernel_rfl)).symm.trans h0_) (by decide), fun h0_ => absurd ((hoff 17 (by kernel_rfl)).symm.trans h0_) (by decide)⟩
            refine steps_cons ?_ ?_
            · rintro b a w' ⟨ha, Q_B0, Q_R0, Q_R1, Q_R2⟩ hb_ hon hoff
              refine ⟨_, rfl, fun K hK => ?_⟩
              have e49 : a.tmps[49]? = some (.pointer (some ⟨g, j * 8, none⟩)) := by rw [ha]; exact putSel_on (e := (12, 49, .pointer (some ⟨g, j * 8, none⟩))) 12 rfl rfl (hon 12 (by kernel_rfl)) rfl
              replace ha := Aside0.mk ha
              have B0 := Aside0.mk Q_B0
              have R0 := Aside0.mk (Q_R0 (hoff 15 (by kernel_rfl)))
              have cs_ := R0.out.cells HX_j.out
              refine value_ (w1 := w') (v := .agg #[.int .u64 x.id, .int .u64 x.first, .int .i64 x.prio, .int .i64 x.len, .int .u64 x.en, .bool x.played, .int .i64 x.lpn, .slice x.A x.n x.c]) (by rfl) rfl ?_ ?_
              · go_simp
                (try simp only [i64_w])
                try rfl
              refine hK.out _ _ ⟨(by rw [ha.out]; exact putSel_upk 13 hb_ rfl rfl rfl), Q_B0, Q_R0, fun h0_ _ => absurd ((hoff 15 (by kernel_rfl)).symm.trans h0_) (by decide), fun h0_ => absurd ((hoff 17 (by kernel_rfl)).symm.trans h0_) (by decide)⟩
            refine steps_cons ?_ ?_
            · rintro b a w' ⟨ha, Q_B0, Q_R0, Q_R1, Q_R2⟩ hb_ hon hoff
              refine ⟨_, rfl, fun K hK => ?_⟩
              have e37 : a.tmps[37]? = some (.slice (some ⟨g, 0, none⟩) n cp) := by rw [ha]; exact putSel_on (e := (0, 37, .slice (some ⟨g, 0, none⟩) n cp)) 0 rfl rfl (hon 0 (by kernel_rfl)) rfl
              have e38 : a.tmps[38]? = some (.int .i64 (j : Int)) := by rw [ha]; exact putSel_on (e := (1, 38, .int .i64 (j : Int))) 1 rfl rfl (hon 1 (by kernel_rfl)) rfl
              replace ha := Aside0.mk ha
              have B0 := Aside0.mk Q_B0
              have R0 := Aside0.mk (Q_R0 (hoff 15 (by kernel_rfl)))
              have p1_ := LO_j.out
              have q1_ := HI_j.out
              refine value_ (w1 := w') (v := .pointer (some ⟨g, j * 8, none⟩)) (by rfl) rfl ?_ ?_
              · go_simp
                (try simp only [i64_w])
                try rfl
              refine hK.out _ _ ⟨(by rw [ha.out]; exact putSel_upk 14 hb_ rfl rfl rfl), Q_B0, Q_R0, fun h0_ _ => absurd ((hoff 15 (by kernel_rfl)).symm.trans h0_) (by decide), fun h0_ => absurd ((hoff 17 (by kernel_rfl)).symm.trans h0_) (by decide)⟩
            refine steps_cons ?_ ?_
            · rintro b a w' ⟨ha, Q_B0, Q_R0, Q_R1, Q_R2⟩ hb_ hon hoff
              refine ⟨_, rfl, fun K hK => ?_⟩
              have e51 : a.tmps[51]? = some (.pointer (some ⟨g, j * 8, none⟩)) := by rw [ha]; exact putSel_on (e := (14, 51, .pointer (some ⟨g, j * 8, none⟩))) 14 rfl rfl (hon 14 (by kernel_rfl)) rfl
              have e46 : a.tmps[46]? = some (.agg #[.int .u64 y.id, .int .u64 y.first, .int .i64 y.prio, .int .i64 y.len, .int .u64 y.en, .bool y.played, .int .i64 y.lpn, .slice y.A y.n y.c]) := by rw [ha]; exact putSel_on (e := (9, 46, .agg #[.int .u64 y.id, .int .u64 y.first, .int .i64 y.prio, .int .i64 y.len, .int .u64 y.en, .bool y.played, .int .i64 y.lpn, .slice y.A y.n y.c])) 9 rfl rfl (hon 9 (by kernel_rfl)) rfl
              replace ha := Aside0.mk ha
              have B0 := Aside0.mk Q_B0
              have R0 := Aside0.mk (Q_R0 hb_)
              have cs_ := R0.out.cells HX_j.out
              have f0_ := R0.out.frozen (j * 8)
              have f1_ := R0.out.frozen (j * 8 + 1)
              have f2_ := R0.out.frozen (j * 8 + 2)
              have f3_ := R0.out.frozen (j * 8 + 3)
              have f4_ := R0.out.frozen (j * 8 + 4)
              have f5_ := R0.out.frozen (j * 8 + 5)
              have f6_ := R0.out.frozen (j * 8 + 6)
              have f7_ := R0.out.frozen (j * 8 + 7)
              refine skip_ (w1 := ?_) (by rfl) rfl ?_ ?_
              rotate_left
              · go_simp
                rfl
              refine hK.out _ _ ⟨(by rw [ha.out]; exact putSel_none (v := undef) rfl), setRec_below (j := j) (x := y) B0.out HG.out, fun h0_ => absurd ((up_self b 15).symm.trans h0_) (by decide), fun _ _ => R0.out.set j y, fun h0_ => absurd ((hoff 17 (by kernel_rfl)).symm.trans h0_) (by decide)⟩
            refine steps_cons ?_ ?_
            · rintro b a w' ⟨ha, Q_B0, Q_R0, Q_R1, Q_R2⟩ hb_ hon hoff
              refine ⟨_, rfl, fun K hK => ?_⟩
              have e39 : a.tmps[39]? = some (.slice (some ⟨g, 0, none⟩) n cp) := by rw [ha]; exact putSel_on (e := (2, 39, .slice (some ⟨g, 0, none⟩) n cp)) 2 rfl rfl (hon 2 (by kernel_rfl)) rfl
              have e41 : a.tmps[41]? = some (.int .i64 (j1 : Int)) := by rw [ha]; exact putSel_on (e := (4, 41, .int .i64 (j1 : Int))) 4 rfl rfl (hon 4 (by kernel_rfl)) rfl
              replace ha := Aside0.mk ha
              have B0 := Aside0.mk Q_B0
              have R1 := Aside0.mk (Q_R1 (hon 15 (by kernel_rfl)) (hoff 17 (by kernel_rfl)))
              have p1_ := LO_j1.out
              have q1_ := HI_j1.out
              refine value_ (w1 := w') (v := .pointer (some ⟨g, j1 * 8, none⟩)) (by rfl) rfl ?_ ?_
              · go_simp
                (try simp only [i64_w])
                try rfl
              refine hK.out _ _ ⟨(by rw [ha.out]; exact putSel_upk 15 hb_ rfl rfl rfl), Q_B0, fun h0_ => absurd ((hon 15 (by kernel_rfl)).symm.trans h0_) (by decide), Q_R1, fun h0_ => absurd ((hoff 17 (by kernel_rfl)).symm.trans h0_) (by decide)⟩
            refine steps_cons ?_ ?_
            · rintro b a w' ⟨ha, Q_B0, Q_R0, Q_R1, Q_R2⟩ hb_ hon hoff
              refine ⟨_, rfl, fun K hK => ?_⟩
              have e52 : a.tmps[52]? = some (.pointer (some ⟨g, j1 * 8, none⟩)) := by rw [ha]; exact putSel_on (e := (16, 52, .pointer (some ⟨g, j1 * 8, none⟩))) 15 rfl rfl (hon 16 (by kernel_rfl)) rfl
              have e50 : a.tmps[50]? = some (.agg #[.int .u64 x.id, .int .u64 x.first, .int .i64 x.prio, .int .i64 x.len, .int .u64 x.en, .bool x.played, .int .i64 x.lpn, .slice x.A x.n x.c]) := by rw [ha]; exact putSel_on (e := (13, 50, .agg #[.int .u64 x.id, .int .u64 x.first, .int .i64 x.prio, .int .i64 x.len, .int .u64 x.en, .bool x.played, .int .i64 x.lpn, .slice x.A x.n x.c])) 13 rfl rfl (hon 13 (by kernel_rfl)) rfl
              replace ha := Aside0.mk ha
              have B0 := Aside0.mk Q_B0
              have R1 := Aside0.mk (Q_R1 (hon 15 (by kernel_rfl)) hb_)
              have cs_ := R1.out.cells HX2.out
              have f0_ := R1.out.frozen (j1 * 8)
              have f1_ := R1.out.frozen (j1 * 8 + 1)
              have f2_ := R1.out.frozen (j1 * 8 + 2)
              have f3_ := R1.out.frozen (j1 * 8 + 3)
              have f4_ := R1.out.frozen (j1 * 8 + 4)
              have f5_ := R1.out.frozen (j1 * 8 + 5)
              have f6_ := R1.out.frozen (j1 * 8 + 6)
              have f7_ := R1.out.frozen (j1 * 8 + 7)
              refine skip_ (w1 := ?_) (by rfl) rfl ?_ ?_
              rotate_left
              · go_simp
                rfl
              refine hK.out _ _ ⟨(by rw [ha.out]; exact putSel_none (v := undef) rfl), setRec_below (j := j1) (x := x) B0.out HG.out, fun h0_ => absurd ((hon 15 (by kernel_rfl)).symm.trans h0_) (by decide), fun _ h1_ => absurd ((up_self b 17).symm.trans h1_) (by decide), fun _ => R1.out.set j1 x⟩
            exact steps_nil
          rintro b a wm hall ⟨ha, Q_B0, Q_R0, Q_R1, Q_R2⟩
          clear B0 R0
          have hb0_ := hall 0 (by kernel_rfl)
          have hb1_ := hall 1 (by kernel_rfl)
          have hb2_ := hall 2 (by kernel_rfl)
          have hb3_ := hall 3 (by kernel_rfl)
          have hb4_ := hall 4 (by kernel_rfl)
          have hb5_ := hall 5 (by kernel_rfl)
          have hb6_ := hall 6 (by kernel_rfl)
          have hb7_ := hall 7 (by kernel_rfl)
          have hb8_ := hall 8 (by kernel_rfl)
          have hb9_ := hall 9 (by kernel_rfl)
          have hb10_ := hall 10 (by kernel_rfl)
          have hb11_ := hall 11 (by kernel_rfl)
          have hb12_ := hall 12 (by kernel_rfl)
          have hb13_ := hall 13 (by kernel_rfl)
          have hb14_ := hall 14 (by kernel_rfl)
          have hb15_ := hall 15 (by kernel_rfl)
          have hb16_ := hall 16 (by kernel_rfl)
          have hb17_ := hall 17 (by kernel_rfl)
          subst ha
          simp only [putSel, hb0_, hb1_, hb2_, hb3_, hb4_, hb5_, hb6_, hb7_, hb8_, hb9_, hb10_, hb11_, hb12_, hb13_, hb14_, hb15_, hb16_, hb17_, if_true, Act.put, List.setIfInBounds_toArray, List.set_cons_zero, List.set_cons_succ]
          have B0 := Aside0.mk Q_B0
          clear Q_B0
          clear Q_R0
          clear Q_R1
          have R2 := Aside0.mk (Q_R2 hb17_)
          clear Q_R2
          clear hall hb0_ hb1_ hb2_ hb3_ hb4_ hb5_ hb6_ hb7_ hb8_ hb9_ hb10_ hb11_ hb12_ hb13_ hb14_ hb15_ hb16_ hb17_
          go_wp2_with fail
          go_roundg (j1 + 1)
          case measure => have := HQJ.out; have := HJ.out; omega
          case rel =>
            obtain ⟨A1', A2', h1, h2, h3, h4⟩ := HIN.out
            exact ⟨j1, by first | rfl | (rw [← i64_w, HW1.out]) | (simp; unfold wrap64; have := HJ.out; have := HL.out; omega), ⟨A1', A2', by rw [← h1]; exact R2.out, h2, h3, h4⟩, B0, ⟨rfl⟩⟩
        · have htv : lt x y = false := by simpa using htv
          have HTV := Aside0.mk htv
          have HEND : Aside0 (dd = P ++ (T ++ R)) := ⟨by rw [hdd, ← hp, put_end HO.out x y htv A0 hs, hcc]; simp [List.append_assoc]⟩
          clear htv hx hy hjn hlen hdd hpl hj hs hp hc hcc hjl hj1
          refine start_ (n := 17) (S := fun w' => True) (ds := []) #[false, false, false, false, false, false, false, false, false, false, false, false, false, false, false, false, false] (by kernel_rfl) rfl rfl trivial (fun hHeld => ?_)
          refine with_tabW ins.tab4 ins.bits4 (fun HT_ HW_ => ?_)
          generalize wr.drew = wq at B0 R0 hHeld ⊢
          refine inv_at [0, 1, 2, 3, 4, 5, 6, 7, 8, 9, 10, 11, 12, 13, 14, 15, 16] (fun a0_ b a w' => ∃ (rv : Value), a = putSel a0_ b [(0, 18, .int .i64 (j : Int)), (1, 19, .int .i64 (ia : Int)), (2, 20, .bool true), (3, 21, .bool true), (4, 22, .func (.func 64) #[] #[]), (5, 23, .slice (some ⟨g, 0, none⟩) n cp), (6, 24, .int .i64 (j : Int)), (7, 25, .pointer (some ⟨g, j * 8, none⟩)), (8, 26, .agg #[.int .u64 x.id, .int .u64 x.first, .int .i64 x.prio, .int .i64 x.len, .int .u64 x.en, .bool x.played, .int .i64 x.lpn, .slice x.A x.n x.c]), (9, 27, .slice (some ⟨g, 0, none⟩) n cp), (10, 28, .int .i64 (j : Int)), (11, 29, .int .i64 (j1 : Int)), (12, 30, .pointer (some ⟨g, j1 * 8, none⟩)), (13, 31, .agg #[.int .u64 y.id, .int .u64 y.first, .int .i64 y.prio, .int .i64 y.len, .int .u64 y.en, .bool y.played, .int .i64 y.lpn, .slice y.A y.n y.c]), (14, 32, rv), (15, 33, .bool false), (16, 34, .bool false)] ∧ (Kp g w0 w') ∧ (RowB w' g dd) ∧ (b 14 = true → ∃ r_ : Int, rv = .int .i64 r_ ∧ decide (r_ < 0) = false)) HT_.out HW_.out (by kernel_rfl) (by kernel_rfl) ?_ ?_ ?_
          · exact ⟨.bool false, by simp only [putSel, Bool.false_eq_true, if_false], B0.out, R0.out, fun h_ => absurd h_ (by decide)⟩
          · skip
            clear B0 R0
            refine steps_cons ?_ ?_
            · rintro b a w' ⟨rv, ha, Q_B0, Q_R0, Q_HRV⟩ hb_ hon hoff
              refine ⟨_, rfl, fun K hK => ?_⟩
              have e9 : a.tmps[9]? = some (.int .i64 (j : Int)) := by rw [ha]; exact (putSel_off rfl).trans rfl
              replace ha := Aside0.mk ha
              have B0 := Aside0.mk Q_B0
              have R0 := Aside0.mk Q_R0
              refine value_ (w1 := w') (v := .int .i64 (j : Int)) (by rfl) rfl ?_ ?_
              · go_simp
                (try simp only [i64_w])
                try rfl
              refine hK.out _ _ ⟨rv, (by rw [ha.out]; exact putSel_upk 0 hb_ rfl rfl rfl), Q_B0, Q_R0, fun h0_ => absurd ((hoff 14 (by kernel_rfl)).symm.trans h0_) (by decide)⟩
            refine steps_cons ?_ ?_
            · rintro b a w' ⟨rv, ha, Q_B0, Q_R0, Q_HRV⟩ hb_ hon hoff
              refine ⟨_, rfl, fun K hK => ?_⟩
              have e1 : a.tmps[1]? = some (.int .i64 (ia : Int)) := by rw [ha]; exact (putSel_off rfl).trans rfl
              replace ha := Aside0.mk ha
              have B0 := Aside0.mk Q_B0
              have R0 := Aside0.mk Q_R0
              refine value_ (w1 := w') (v := .int .i64 (ia : Int)) (by rfl) rfl ?_ ?_
              · go_simp
                (try simp only [i64_w])
                try rfl
              refine hK.out _ _ ⟨rv, (by rw [ha.out]; exact putSel_upk 1 hb_ rfl rfl rfl), Q_B0, Q_R0, fun h0_ => absurd ((hoff 14 (by kernel_rfl)).symm.trans h0_) (by decide)⟩
            refine steps_cons ?_ ?_
            · rintro b a w' ⟨rv, ha, Q_B0, Q_R0, Q_HRV⟩ hb_ hon hoff
              refine ⟨_, rfl, fun K hK => ?_⟩
              have e18 : a.tmps[18]? = some (.int .i64 (j : Int)) := by rw [ha]; exact putSel_on (e := (0, 18, .int .i64 (j : Int))) 0 rfl rfl (hon 0 (by kernel_rfl)) rfl
              have e19 : a.tmps[19]? = some (.int .i64 (ia : Int)) := by rw [ha]; exact putSel_on (e := (1, 19, .int .i64 (ia : Int))) 1 rfl rfl (hon 1 (by kernel_rfl)) rfl
              replace ha := Aside0.mk ha
              have B0 := Aside0.mk Q_B0
              have R0 := Aside0.mk Q_R0
              have hw0_ := HGT.out.1
              have hw1_ := HGT.out.2.1
              have hw2_ := HGT.out.2.2
              refine value_ (w1 := w') (v := .bool true) (by rfl) rfl ?_ ?_
              · go_simp
                (try simp only [i64_w])
                try rfl
              refine hK.out _ _ ⟨rv, (by rw [ha.out]; exact putSel_upk 2 hb_ rfl rfl rfl), Q_B0, Q_R0, fun h0_ => absurd ((hoff 14 (by kernel_rfl)).symm.trans h0_) (by decide)⟩
            refine steps_cons ?_ ?_
            · rintro b a w' ⟨rv, ha, Q_B0, Q_R0, Q_HRV⟩ hb_ hon hoff
              refine ⟨_, rfl, fun K hK => ?_⟩
              have e20 : a.tmps[20]? = some (.bool true) := by rw [ha]; exact putSel_on (e := (2, 20, .bool true)) 2 rfl rfl (hon 2 (by kernel_rfl)) rfl
              replace ha := Aside0.mk ha
              have B0 := Aside0.mk Q_B0
              have R0 := Aside0.mk Q_R0
              refine value_ (w1 := w') (v := .bool true) (by rfl) rfl ?_ ?_
              · go_simp
                (try simp only [i64_w])
                try rfl
              refine hK.out _ _ ⟨rv, (by rw [ha.out]; exact putSel_upk 3 hb_ rfl rfl rfl), Q_B0, Q_R0, fun h0_ => absurd ((hoff 14 (by kernel_rfl)).symm.trans h0_) (by decide)⟩
            refine steps_cons ?_ ?_
            · rintro b a w' ⟨rv, ha, Q_B0, Q_R0, Q_HRV⟩ hb_ hon hoff
              refine ⟨_, rfl, fun K hK => ?_⟩
              have e3 : a.tmps[3]? = some (.func (.func 64) #[] #[]) := by rw [ha]; exact (putSel_off rfl).trans rfl
              have e21 : a.tmps[21]? = some (.bool true) := by rw [ha]; exact putSel_on (e := (3, 21, .bool true)) 3 rfl rfl (hon 3 (by kernel_rfl)) rfl
              replace ha := Aside0.mk ha
              have B0 := Aside0.mk Q_B0
              have R0 := Aside0.mk Q_R0
              refine value_ (w1 := w') (v := .func (.func 64) #[] #[]) (wanted_on rfl rfl rfl (e21.trans (by first | rfl | (simp [*]; done)))) rfl ?_ ?_
              · go_simp
                (try simp only [i64_w])
                try rfl
              refine hK.out _ _ ⟨rv, (by rw [ha.out]; exact putSel_upk 4 hb_ rfl rfl rfl), Q_B0, Q_R0, fun h0_ => absurd ((hoff 14 (by kernel_rfl)).symm.trans h0_) (by decide)⟩
            refine steps_cons ?_ ?_
            · rintro b a w' ⟨rv, ha, Q_B0, Q_R0, Q_HRV⟩ hb_ hon hoff
              refine ⟨_, rfl, fun K hK => ?_⟩
              have e0 : a.tmps[0]? = some (.slice (some ⟨g, 0, none⟩) n cp) := by rw [ha]; exact (putSel_off rfl).trans rfl
              have e21 : a.tmps[21]? = some (.bool true) := by rw [ha]; exact putSel_on (e := (3, 21, .bool true)) 3 rfl rfl (hon 3 (by kernel_rfl)) rfl
              replace ha := Aside0.mk ha
              have B0 := Aside0.mk Q_B0
              have R0 := Aside0.mk Q_R0
              refine value_ (w1 := w') (v := .slice (some ⟨g, 0, none⟩) n cp) (wanted_on rfl rfl rfl (e21.trans (by first | rfl | (simp [*]; done)))) rfl ?_ ?_
              · go_simp
                (try simp only [i64_w])
                try rfl
              refine hK.out _ _ ⟨rv, (by rw [ha.out]; exact putSel_upk 5 hb_ rfl rfl rfl), Q_B0, Q_R0, fun h0_ => absurd ((hoff 14 (by kernel_rfl)).symm.trans h0_) (by decide)⟩
            refine steps_cons ?_ ?_
            · rintro b a w' ⟨rv, ha, Q_B0, Q_R0, Q_HRV⟩ hb_ hon hoff
              refine ⟨_, rfl, fun K hK => ?_⟩
              have e9 : a.tmps[9]? = some (.int .i64 (j : Int)) := by rw [ha]; exact (putSel_off rfl).trans rfl
              have e21 : a.tmps[21]? = some (.bool true) := by rw [ha]; exact putSel_on (e := (3, 21, .bool true)) 3 rfl rfl (hon 3 (by kernel_rfl)) rfl
              replace ha := Aside0.mk ha
              have B0 := Aside0.mk Q_B0
              have R0 := Aside0.mk Q_R0
              refine value_ (w1 := w') (v := .int .i64 (j : Int)) (wanted_on rfl rfl rfl (e21.trans (by first | rfl | (simp [*]; done)))) rfl ?_ ?_
              · go_simp
                (try simp only [i64_w])
                try rfl
              refine hK.out _ _ ⟨rv, (by rw [ha.out]; exact putSel_upk 6 hb_ rfl rfl rfl), Q_B0, Q_R0, fun h0_ => absurd ((hoff 14 (by kernel_rfl)).symm.trans h0_) (by decide)⟩
            refine steps_cons ?_ ?_
            · rintro b a w' ⟨rv, ha, Q_B0, Q_R0, Q_HRV⟩ hb_ hon hoff
              refine ⟨_, rfl, fun K hK => ?_⟩
              have e23 : a.tmps[23]? = some (.slice (some ⟨g, 0, none⟩) n cp) := by rw [ha]; exact putSel_on (e := (5, 23, .slice (some ⟨g, 0, none⟩) n cp)) 5 rfl rfl (hon 5 (by kernel_rfl)) rfl
              have e24 : a.tmps[24]? = some (.int .i64 (j : Int)) := by rw [ha]; exact putSel_on (e := (6, 24, .int .i64 (j : Int))) 6 rfl rfl (hon 6 (by kernel_rfl)) rfl
              have e21 : a.tmps[21]? = some (.bool true) := by rw [ha]; exact putSel_on (e := (3, 21, .bool true)) 3 rfl rfl (hon 3 (by kernel_rfl)) rfl
              replace ha := Aside0.mk ha
              have B0 := Aside0.mk Q_B0
              have R0 := Aside0.mk Q_R0
              have p1_ := LO_j.out
              have q1_ := HI_j.out
              refine value_ (w1 := w') (v := .pointer (some ⟨g, j * 8, none⟩)) (wanted_on rfl rfl rfl (e21.trans (by first | rfl | (simp [*]; done)))) rfl ?_ ?_
              · go_simp
                (try simp only [i64_w])
                try rfl
              refine hK.out _ _ ⟨rv, (by rw [ha.out]; exact putSel_upk 7 hb_ rfl rfl rfl), Q_B0, Q_R0, fun h0_ => absurd ((hoff 14 (by kernel_rfl)).symm.trans h0_) (by decide)⟩
            refine steps_cons ?_ ?_
            · rintro b a w' ⟨rv, ha, Q_B0, Q_R0, Q_HRV⟩ hb_ hon hoff
              refine ⟨_, rfl, fun K hK => ?_⟩
              have e25 : a.tmps[25]? = some (.pointer (some ⟨g, j * 8, none⟩)) := by rw [ha]; exact putSel_on (e := (7, 25, .pointer (some ⟨g, j * 8, none⟩))) 7 rfl rfl (hon 7 (by kernel_rfl)) rfl
              have e21 : a.tmps[21]? = some (.bool true) := by rw [ha]; exact putSel_on (e := (3, 21, .bool true)) 3 rfl rfl (hon 3 (by kernel_rfl)) rfl
              replace ha := Aside0.mk ha
              have B0 := Aside0.mk Q_B0
              have R0 := Aside0.mk Q_R0
              have cs_ := R0.out.cells HX_j.out
              refine value_ (w1 := w') (v := .agg #[.int .u64 x.id, .int .u64 x.first, .int .i64 x.prio, .int .i64 x.len, .int .u64 x.en, .bool x.played, .int .i64 x.lpn, .slice x.A x.n x.c]) (wanted_on rfl rfl rfl (e21.trans (by first | rfl | (simp [*]; done)))) rfl ?_ ?_
              · go_simp
                (try simp only [i64_w])
                try rfl
              refine hK.out _ _ ⟨rv, (by rw [ha.out]; exact putSel_upk 8 hb_ rfl rfl rfl), Q_B0, Q_R0, fun h0_ => absurd ((hoff 14 (by kernel_rfl)).symm.trans h0_) (by decide)⟩
            refine steps_cons ?_ ?_
            · rintro b a w' ⟨rv, ha, Q_B0, Q_R0, Q_HRV⟩ hb_ hon hoff
              refine ⟨_, rfl, fun K hK => ?_⟩
              have e0 : a.tmps[0]? = some (.slice (some ⟨g, 0, none⟩) n cp) := by rw [ha]; exact (putSel_off rfl).trans rfl
              have e21 : a.tmps[21]? = some (.bool true) := by rw [ha]; exact putSel_on (e := (3, 21, .bool true)) 3 rfl rfl (hon 3 (by kernel_rfl)) rfl
              replace ha := Aside0.mk ha
              have B0 := Aside0.mk Q_B0
              have R0 := Aside0.mk Q_R0
              refine value_ (w1 := w') (v := .slice (some ⟨g, 0, none⟩) n cp) (wanted_on rfl rfl rfl (e21.trans (by first | rfl | (simp [*]; done)))) rfl ?_ ?_
              · go_simp
                (try simp only [i64_w])
                try rfl
              refine hK.out _ _ ⟨rv, (by rw [ha.out]; exact putSel_upk 9 hb_ rfl rfl rfl), Q_B0, Q_R0, fun h0_ => absurd ((hoff 14 (by kernel_rfl)).symm.trans h0_) (by decide)⟩
            refine steps_cons ?_ ?_
            · rintro b a w' ⟨rv, ha, Q_B0, Q_R0, Q_HRV⟩ hb_ hon hoff
              refine ⟨_, rfl, fun K hK => ?_⟩
              have e9 : a.tmps[9]? = some (.int .i64 (j : Int)) := by rw [ha]; exact (putSel_off rfl).trans rfl
              have e21 : a.tmps[21]? = some (.bool true) := by rw [ha]; exact putSel_on (e := (3, 21, .bool true)) 3 rfl rfl (hon 3 (by kernel_rfl)) rfl
              replace ha := Aside0.mk ha
              have B0 := Aside0.mk Q_B0
              have R0 := Aside0.mk Q_R0
              refine value_ (w1 := w') (v := .int .i64 (j : Int)) (wanted_on rfl rfl rfl (e21.trans (by first | rfl | (simp [*]; done)))) rfl ?_ ?_
              · go_simp
                (try simp only [i64_w])
                try rfl
              refine hK.out _ _ ⟨rv, (by rw [ha.out]; exact putSel_upk 10 hb_ rfl rfl rfl), Q_B0, Q_R0, fun h0_ => absurd ((hoff 14 (by kernel_rfl)).symm.trans h0_) (by decide)⟩
            refine steps_cons ?_ ?_
            · rintro b a w' ⟨rv, ha, Q_B0, Q_R0, Q_HRV⟩ hb_ hon hoff
              refine ⟨_, rfl, fun K hK => ?_⟩
              have e28 : a.tmps[28]? = some (.int .i64 (j : Int)) := by rw [ha]; exact putSel_on (e := (10, 28, .int .i64 (j : Int))) 10 rfl rfl (hon 10 (by kernel_rfl)) rfl
              have e21 : a.tmps[21]? = some (.bool true) := by rw [ha]; exact putSel_on (e := (3, 21, .bool true)) 3 rfl rfl (hon 3 (by kernel_rfl)) rfl
              replace ha := Aside0.mk ha
              have B0 := Aside0.mk Q_B0
              have R0 := Aside0.mk Q_R0
              have hw0_ := HW1.out
              refine value_ (w1 := w') (v := .int .i64 (j1 : Int)) (wanted_on rfl rfl rfl (e21.trans (by first | rfl | (simp [*]; done)))) rfl ?_ ?_
              · go_simp
                (try simp only [i64_w])
                try rfl
              refine hK.out _ _ ⟨rv, (by rw [ha.out]; exact putSel_upk 11 hb_ rfl rfl rfl), Q_B0, Q_R0, fun h0_ => absurd ((hoff 14 (by kernel_rfl)).symm.trans h0_) (by decide)⟩
            refine steps_cons ?_ ?_
            · rintro b a w' ⟨rv, ha, Q_B0, Q_R0, Q_HRV⟩ hb_ hon hoff
              refine ⟨_, rfl, fun K hK => ?_⟩
              have e27 : a.tmps[27]? = some (.slice (some ⟨g, 0, none⟩) n cp) := by rw [ha]; exact putSel_on (e := (9, 27, .slice (some ⟨g, 0, none⟩) n cp)) 9 rfl rfl (hon 9 (by kernel_rfl)) rfl
              have e29 : a.tmps[29]? = some (.int .i64 (j1 : Int)) := by rw [ha]; exact putSel_on (e := (11, 29, .int .i64 (j1 : Int))) 11 rfl rfl (hon 11 (by kernel_rfl)) rfl
              have e21 : a.tmps[21]? = some (.bool true) := by rw [ha]; exact putSel_on (e := (3, 21, .bool true)) 3 rfl rfl (hon 3 (by kernel_rfl)) rfl
              replace ha := Aside0.mk ha
              have B0 := Aside0.mk Q_B0
              have R0 := Aside0.mk Q_R0
              have p1_ := LO_j1.out
              have q1_ := HI_j1.out
              refine value_ (w1 := w') (v := .pointer (some ⟨g, j1 * 8, none⟩)) (wanted_on rfl rfl rfl (e21.trans (by first | rfl | (simp [*]; done)))) rfl ?_ ?_
              · go_simp
                (try simp only [i64_w])
                try rfl
              refine hK.out _ _ ⟨rv, (by rw [ha.out]; exact putSel_upk 12 hb_ rfl rfl rfl), Q_B0, Q_R0, fun h0_ => absurd ((hoff 14 (by kernel_rfl)).symm.trans h0_) (by decide)⟩
            refine steps_cons ?_ ?_
            · rintro b a w' ⟨rv, ha, Q_B0, Q_R0, Q_HRV⟩ hb_ hon hoff
              refine ⟨_, rfl, fun K hK => ?_⟩
              have e30 : a.tmps[30]? = some (.pointer (some ⟨g, j1 * 8, none⟩)) := by rw [ha]; exact putSel_on (e := (12, 30, .pointer (some ⟨g, j1 * 8, none⟩))) 12 rfl rfl (hon 12 (by kernel_rfl)) rfl
              have e21 : a.tmps[21]? = some (.bool true) := by rw [ha]; exact putSel_on (e := (3, 21, .bool true)) 3 rfl rfl (hon 3 (by kernel_rfl)) rfl
              replace ha := Aside0.mk ha
              have B0 := Aside0.mk Q_B0
              have R0 := Aside0.mk Q_R0
              have cs_ := R0.out.cells HX_j1.out
              refine value_ (w1 := w') (v := .agg #[.int .u64 y.id, .int .u64 y.first, .int .i64 y.prio, .int .i64 y.len, .int .u64 y.en, .bool y.played, .int .i64 y.lpn, .slice y.A y.n y.c]) (wanted_on rfl rfl rfl (e21.trans (by first | rfl | (simp [*]; done)))) rfl ?_ ?_
              · go_simp
                (try simp only [i64_w])
                try rfl
              refine hK.out _ _ ⟨rv, (by rw [ha.out]; exact putSel_upk 13 hb_ rfl rfl rfl), Q_B0, Q_R0, fun h0_ => absurd ((hoff 14 (by kernel_rfl)).symm.trans h0_) (by decide)⟩
            refine steps_cons ?_ ?_
            · rintro b a w' ⟨rv, ha, Q_B0, Q_R0, Q_HRV⟩ hb_ hon hoff
              refine ⟨_, rfl, fun K hK => ?_⟩
              have e22 : a.tmps[22]? = some (.func (.func 64) #[] #[]) := by rw [ha]; exact putSel_on (e := (4, 22, .func (.func 64) #[] #[])) 4 rfl rfl (hon 4 (by kernel_rfl)) rfl
              have e26 : a.tmps[26]? = some (.agg #[.int .u64 x.id, .int .u64 x.first, .int .i64 x.prio, .int .i64 x.len, .int .u64 x.en, .bool x.played, .int .i64 x.lpn, .slice x.A x.n x.c]) := by rw [ha]; exact putSel_on (e := (8, 26, .agg #[.int .u64 x.id, .int .u64 x.first, .int .i64 x.prio, .int .i64 x.len, .int .u64 x.en, .bool x.played, .int .i64 x.lpn, .slice x.A x.n x.c])) 8 rfl rfl (hon 8 (by kernel_rfl)) rfl
              have e31 : a.tmps[31]? = some (.agg #[.int .u64 y.id, .int .u64 y.first, .int .i64 y.prio, .int .i64 y.len, .int .u64 y.en, .bool y.played, .int .i64 y.lpn, .slice y.A y.n y.c]) := by rw [ha]; exact putSel_on (e := (13, 31, .agg #[.int .u64 y.id, .int .u64 y.first, .int .i64 y.prio, .int .i64 y.len, .int .u64 y.en, .bool y.played, .int .i64 y.lpn, .slice y.A y.n y.c])) 13 rfl rfl (hon 13 (by kernel_rfl)) rfl
              have e21 : a.tmps[21]? = some (.bool true) := by rw [ha]; exact putSel_on (e := (3, 21, .bool true)) 3 rfl rfl (hon 3 (by kernel_rfl)) rfl
              replace ha := Aside0.mk ha
              have B0 := Aside0.mk Q_B0
              have R0 := Aside0.mk Q_R0
              refine goesv_ (t := 22) Try.func64 (by kernel_rfl) rfl #[.agg #[.int .u64 x.id, .int .u64 x.first, .int .i64 x.prio, .int .i64 x.len, .int .u64 x.en, .bool x.played, .int .i64 x.lpn, .slice x.A x.n x.c], .agg #[.int .u64 y.id, .int .u64 y.first, .int .i64 y.prio, .int .i64 y.len, .int .u64 y.en, .bool y.played, .int .i64 y.lpn, .slice y.A y.n y.c]] (wanted_on rfl rfl rfl (e21.trans rfl)) rfl rfl e22 (by first | (simp only [List.map_toArray, List.map_cons, List.map_nil, Act.eval, Array.getD_eq_getD_getElem?, Option.getD_some, e22, e26, e31, e21]; done) | (simp only [List.map_toArray, List.map_cons, List.map_nil, Act.eval, Array.getD_eq_getD_getElem?, Option.getD_some, e22, e26, e31, e21]; rfl)) ?_
              with_reducible refine (HCMP.out w' x y).mono ?_
              rintro e w2 ⟨r_, rfl, hr_, hb⟩
              refine ⟨_, rfl, ?_⟩
              refine hK.out _ _ ⟨.int .i64 r_, (by rw [ha.out]; exact putSel_upk 14 hb_ rfl rfl rfl), below_row B0.out HG.out R0.out hb, RowB.below R0.out hb, fun _ => ⟨r_, rfl, hr_.trans HTV.out⟩⟩
            refine steps_cons ?_ ?_
            · rintro b a w' ⟨rv, ha, Q_B0, Q_R0, Q_HRV⟩ hb_ hon hoff
              refine ⟨_, rfl, fun K hK => ?_⟩
              have e32 : a.tmps[32]? = some (rv) := by rw [ha]; exact putSel_on (e := (14, 32, rv)) 14 rfl rfl (hon 14 (by kernel_rfl)) rfl
              have e21 : a.tmps[21]? = some (.bool true) := by rw [ha]; exact putSel_on (e := (3, 21, .bool true)) 3 rfl rfl (hon 3 (by kernel_rfl)) rfl
              replace ha := Aside0.mk ha
              have B0 := Aside0.mk Q_B0
              have R0 := Aside0.mk Q_R0
              have HRV := Aside0.mk (Q_HRV (hon 14 (by kernel_rfl)))
              obtain ⟨r_, hr1_, hr2_⟩ := HRV.out
              rw [hr1_] at e32
              refine value_ (w1 := w') (v := .bool false) (wanted_on rfl rfl rfl (e21.trans (by first | rfl | (simp [*]; done)))) rfl ?_ ?_
              · go_simp
                (try simp only [i64_w])
                try rfl
              refine hK.out _ _ ⟨rv, (by rw [ha.out]; exact putSel_upk 15 hb_ rfl rfl rfl), Q_B0, Q_R0, Q_HRV⟩
            refine steps_cons ?_ ?_
            · rintro b a w' ⟨rv, ha, Q_B0, Q_R0, Q_HRV⟩ hb_ hon hoff
              refine ⟨_, rfl, fun K hK => ?_⟩
              have e21 : a.tmps[21]? = some (.bool true) := by rw [ha]; exact putSel_on (e := (3, 21, .bool true)) 3 rfl rfl (hon 3 (by kernel_rfl)) rfl
              have e33 : a.tmps[33]? = some (.bool false) := by rw [ha]; exact putSel_on (e := (15, 33, .bool false)) 15 rfl rfl (hon 15 (by kernel_rfl)) rfl
              replace ha := Aside0.mk ha
              have B0 := Aside0.mk Q_B0
              have R0 := Aside0.mk Q_R0
              have HRV := Aside0.mk (Q_HRV (hon 14 (by kernel_rfl)))
              refine value_ (w1 := w') (v := .bool false) (by rfl) rfl ?_ ?_
              · go_simp
                (try simp only [i64_w])
                try rfl
              refine hK.out _ _ ⟨rv, (by rw [ha.out]; exact putSel_upk 16 hb_ rfl rfl rfl), Q_B0, Q_R0, Q_HRV⟩
            exact steps_nil
          rintro b a wl hall ⟨rv, ha, Q_B0, Q_R0, Q_HRV⟩
          clear B0 R0
          have hb0_ := hall 0 (by kernel_rfl)
          have hb1_ := hall 1 (by kernel_rfl)
          have hb2_ := hall 2 (by kernel_rfl)
          have hb3_ := hall 3 (by kernel_rfl)
          have hb4_ := hall 4 (by kernel_rfl)
          have hb5_ := hall 5 (by kernel_rfl)
          have hb6_ := hall 6 (by kernel_rfl)
          have hb7_ := hall 7 (by kernel_rfl)
          have hb8_ := hall 8 (by kernel_rfl)
          have hb9_ := hall 9 (by kernel_rfl)
          have hb10_ := hall 10 (by kernel_rfl)
          have hb11_ := hall 11 (by kernel_rfl)
          have hb12_ := hall 12 (by kernel_rfl)
          have hb13_ := hall 13 (by kernel_rfl)
          have hb14_ := hall 14 (by kernel_rfl)
          have hb15_ := hall 15 (by kernel_rfl)
          have hb16_ := hall 16 (by kernel_rfl)
          subst ha
          simp only [putSel, hb0_, hb1_, hb2_, hb3_, hb4_, hb5_, hb6_, hb7_, hb8_, hb9_, hb10_, hb11_, hb12_, hb13_, hb14_, hb15_, hb16_, if_true, Act.put, List.setIfInBounds_toArray, List.set_cons_zero, List.set_cons_succ]
          have B0 := Aside0.mk Q_B0
          clear Q_B0
          have R0 := Aside0.mk Q_R0
          clear Q_R0
          have HRV := Aside0.mk (Q_HRV hb14_)
          clear Q_HRV
          clear hall hb0_ hb1_ hb2_ hb3_ hb4_ hb5_ hb6_ hb7_ hb8_ hb9_ hb10_ hb11_ hb12_ hb13_ hb14_ hb15_ hb16_
          clear HRV
          go_wp2_with fail
          go_roundg (ib + 1 - i)
          case measure => have := HQ.out; have := HI2.out; omega
          case rel => exact ⟨i + 1, by first | rfl | (simp; unfold wrap64; have := HI2.out; have := HL.out; omega), ⟨by have := HI2.out; have := HI.out; omega⟩, ⟨by rw [← HT.out, ← HR2.out, ← HEND.out]; exact R0.out⟩, B0, ⟨by have := HI2.out; omega⟩⟩
end Go.Proofs.Ytnopjcakilfepaa.QS
