/- Parts of the proof of the statement DamageDoes, laid together (2 of 6). -/
import Derived.Test.YtnchdmidaigheaaZDamageDoes0
namespace Go.Proofs.Ytnchdmidaigheaa.QS
set_option linter.unusedVariables false
set_option linter.unusedSimpArgs false
open Go.RowKit Go.Proofs.Ytnchdmidaigheaa.SS Go.Proofs.Ytnchdmidaigheaa.Hp Go.Proofs.YtnchdmidaigheaaW.PrintWords Go.Proofs.YtnchdmidaigheaaW.PrintLast Go.Proofs.YtnchdmidaigheaaW.PrintMore
attribute [local go_sem] max2_int min2_int max_two min_two max_three min_three max_four min_four
set_option maxHeartbeats 4000000 in
set_option maxRecDepth 100000 in
theorem rotate_calls (N : Nat) (w0 : World) (g : Nat) (hg : N ≤ g) (cp : Nat) (fv : Value) (ia im ib n : Nat) (P X Y Q : List Rec) (hP : P.length = ia) (hX : ia + X.length = im) (hY : im + Y.length = ib) (hX0 : 0 < X.length) (hY0 : 0 < Y.length) (hn : (P ++ (X ++ (Y ++ Q))).length = n) (hn2 : n ≤ 1000000) (w : World) (hB : Kp g w0 w) (hR : RowB w g (P ++ (X ++ (Y ++ Q)))) :
    Calls Try.prog 127 #[.slice (some ⟨g, 0, none⟩) n cp, .int .i64 (ia : Int), .int .i64 (im : Int), .int .i64 (ib : Int), fv] w fun e w' => e = .returned (.tuple #[]) ∧ Kp g w0 w' ∧ RowB w' g (P ++ (Y ++ (X ++ Q))) := by
  have HG := Aside0.mk hg
  obtain ⟨tgt, ht⟩ : ∃ t, t = P ++ (Y ++ (X ++ Q)) := ⟨_, rfl⟩
  obtain ⟨i0, hi0⟩ : ∃ i, i = X.length := ⟨_, rfl⟩
  obtain ⟨j0, hj0⟩ : ∃ i, i = Y.length := ⟨_, rfl⟩
  rw [← ht]
  have HTL : Aside0 (tgt.length = n ∧ n ≤ 1000000) := ⟨by rw [ht, ← hn]; simp only [List.length_append]; omega, hn2⟩
  have hw1 : IntKind.i64.wrap ((im : Int) - (ia : Int)) = (i0 : Int) := by rw [i64_w]; unfold wrap64; simp only [List.length_append] at hn; omega
  have hw2 : IntKind.i64.wrap ((ib : Int) - (im : Int)) = (j0 : Int) := by rw [i64_w]; unfold wrap64; simp only [List.length_append] at hn; omega
  have HS : Aside0 (∃ (P X Y Q : List Rec), RowB w g (P ++ (X ++ (Y ++ Q))) ∧ P.length + i0 = im ∧ X.length = i0 ∧ Y.length = j0 ∧ P ++ (Y ++ (X ++ Q)) = tgt) := ⟨P, X, Y, Q, hR, by omega, hi0.symm, hj0.symm, ht.symm⟩
  have HIJ : Aside0 (0 < i0 ∧ 0 < j0) := ⟨by omega⟩
  replace hB := Aside0.mk hB
  clear hg hP hX hY hX0 hY0 hn hn2 hR ht hi0 hj0
  go_enter Try.func127, Try.ntmps127
  go_wp2_with fail
  go_loopg [10, 11] (i0 + j0) (fun kq v10 v11 w' => ∃ i j : Nat, v10 = .int .i64 (i : Int) ∧ v11 = .int .i64 (j : Int) ∧ Aside0 (∃ (P X Y Q : List Rec), RowB w' g (P ++ (X ++ (Y ++ Q))) ∧ P.length + i = im ∧ X.length = i ∧ Y.length = j ∧ P ++ (Y ++ (X ++ Q)) = tgt) ∧ Aside0 (Kp g w0 w') ∧ Aside0 (0 < i ∧ 0 < j) ∧ Aside0 (kq = i + j))
  case atStart => exact ⟨i0, j0, by first | rfl | (rw [← i64_w, hw1]) | (simp [hw1]), by first | rfl | (rw [← i64_w, hw2]) | (simp [hw2]), HS, hB, HIJ, ⟨rfl⟩⟩
  case round =>
    clear HS hB HIJ hw1 hw2
    obtain ⟨i, j, rfl, rfl, HS, BB, HIJ, HQ⟩ := hrel
    obtain ⟨P, X, Y, Q, RR, hP, hX, hY, ht⟩ := HS.out
    clear HS
    have hTL := HTL.out
    have hl : (P ++ (X ++ (Y ++ Q))).length = n := by rw [← hTL.1, ← ht]; simp only [List.length_append]; omega
    have hl' := hl
    simp only [List.length_append] at hl'
    obtain ⟨p, hp⟩ : ∃ p, p = P.length := ⟨_, rfl⟩
    have hw1 : IntKind.i64.wrap ((im : Int) - (i : Int)) = (p : Int) := by rw [i64_w]; unfold wrap64; omega
    by_cases hij : i = j
    case pos =>
      subst hij
      have HC : Aside0 (∀ W, Kp g w0 W → RowB W g (P ++ (X ++ (Y ++ Q))) → Calls Try.prog 131 #[.slice (some ⟨g, 0, none⟩) n cp, .int .i64 (p : Int), .int .i64 (im : Int), .int .i64 (i : Int), fv] W fun e w' => e = .returned (.tuple #[]) ∧ Kp g w0 w' ∧ RowB w' g tgt) := ⟨fun W hB hR => by
        refine (swap_calls N w0 g HG.out cp fv p im i n _ hl hTL.2 (by omega) (by omega) W hB hR).mono ?_
        rintro e w' ⟨h1, h2, h3⟩
        refine ⟨h1, h2, ?_⟩
        have hs := swp_parts P X [] Y Q (by omega)
        simp only [List.nil_append, List.length_nil, Nat.add_zero] at hs
        rw [show P.length = p from hp.symm, show p + X.length = im by omega, hX] at hs
        rw [hs, ht] at h3
        exact h3⟩
      replace RR := Aside0.mk RR
      clear hTL hl hl' hp hP hX hY ht
      go_wp2_with (go_at_call 131; refine (HC.out _ BB.out RR.out).mono ?_; rintro e w2 ⟨rfl, hb, hr⟩)
      go_end0
      exact ⟨rfl, hb, hr⟩
    case neg =>
      by_cases hlt : j < i
      case pos =>
        have HC : Aside0 (∀ W, Kp g w0 W → RowB W g (P ++ (X ++ (Y ++ Q))) → Calls Try.prog 131 #[.slice (some ⟨g, 0, none⟩) n cp, .int .i64 (p : Int), .int .i64 (im : Int), .int .i64 (j : Int), fv] W fun e w' => e = .returned (.tuple #[]) ∧ Kp g w0 w' ∧ RowB w' g ((P ++ Y) ++ (X.drop j ++ (X.take j ++ Q)))) := ⟨fun W hB hR => by
          refine (swap_calls N w0 g HG.out cp fv p im j n _ hl hTL.2 (by omega) (by omega) W hB hR).mono ?_
          rintro e w' ⟨h1, h2, h3⟩
          refine ⟨h1, h2, ?_⟩
          have hs := swp_parts P (X.take j) (X.drop j) Y Q (by rw [List.length_take]; omega)
          rw [show X.take j ++ (X.drop j ++ (Y ++ Q)) = X ++ (Y ++ Q) by rw [← List.append_assoc, List.take_append_drop], List.length_take, List.length_drop, show min j X.length = j by omega, show P.length = p from hp.symm, show p + j + (X.length - j) = im by omega] at hs
          rw [hs, ← List.append_assoc] at h3
          exact h3⟩
        have hw2 : IntKind.i64.wrap ((i : Int) - (j : Int)) = ((i - j : Nat) : Int) := by rw [i64_w]; unfold wrap64; omega
        have HP2 : Aside0 ((P ++ Y).length + (i - j) = im ∧ (X.drop j).length = i - j ∧ (X.take j).length = j ∧ (P ++ Y) ++ (X.take j ++ (X.drop j ++ Q)) = tgt) := ⟨by simp only [List.length_append]; omega, by rw [List.length_drop]; omega, by rw [List.length_take]; omega, by rw [← ht, List.append_assoc, ← List.append_assoc (X.take j), List.take_append_drop]⟩
        generalize (P ++ Y) = P2 at HP2 HC
        generalize X.drop j = X2 at HP2 HC
        generalize X.take j = Y2 at HP2 HC
        replace RR := Aside0.mk RR
        have HLT := Aside0.mk hlt
        clear hTL hl hl' hp hP hX hY ht
        go_wp2_with (go_at_call 131; refine (HC.out _ BB.out RR.out).mono ?_; rintro e w2 ⟨rfl, hb, hr⟩)
        go_roundg (i - j + j)
        case measure => have := HQ.out; have := HIJ.out; have := HLT.out; omega
        case rel => exact ⟨i - j, j, by first | rfl | (rw [← i64_w, hw2]) | (simp [hw2]), rfl, ⟨P2, X2, Y2, Q, hr, HP2.out.1, HP2.out.2.1, HP2.out.2.2.1, HP2.out.2.2.2⟩, ⟨hb⟩, ⟨by have := HLT.out; have := HIJ.out; omega⟩, ⟨rfl⟩⟩
      case neg =>
        have HLT : Aside0 (i < j) := ⟨by omega⟩
        obtain ⟨r, hr⟩ : ∃ r, r = im + j - i := ⟨_, rfl⟩
        have hltf := HLT.out
        have HC : Aside0 (∀ W, Kp g w0 W → RowB W g (P ++ (X ++ (Y ++ Q))) → Calls Try.prog 131 #[.slice (some ⟨g, 0, none⟩) n cp, .int .i64 (p : Int), .int .i64 (r : Int), .int .i64 (i : Int), fv] W fun e w' => e = .returned (.tuple #[]) ∧ Kp g w0 w' ∧ RowB w' g (P ++ (Y.drop (j - i) ++ (Y.take (j - i) ++ (X ++ Q))))) := ⟨fun W hB hR => by
          refine (swap_calls N w0 g HG.out cp fv p r i n _ hl hTL.2 (by omega) (by omega) W hB hR).mono ?_
          rintro e w' ⟨h1, h2, h3⟩
          refine ⟨h1, h2, ?_⟩
          have hs := swp_parts P X (Y.take (j - i)) (Y.drop (j - i)) Q (by rw [List.length_drop]; omega)
          rw [show Y.take (j - i) ++ (Y.drop (j - i) ++ Q) = Y ++ Q by rw [← List.append_assoc, List.take_append_drop], List.length_take, show min (j - i) Y.length = j - i by omega, show P.length = p from hp.symm, show p + X.length + (j - i) = r by omega, hX] at hs
          rw [hs] at h3
          exact h3⟩
        have hw2 : IntKind.i64.wrap ((j : Int) - (i : Int)) = ((j - i : Nat) : Int) := by rw [i64_w]; unfold wrap64; omega
        have hw3 : IntKind.i64.wrap ((im : Int) + (j : Int)) = ((im + j : Nat) : Int) := by rw [i64_w]; unfold wrap64; omega
        have hw4 : IntKind.i64.wrap (((im + j : Nat) : Int) - (i : Int)) = (r : Int) := by rw [i64_w]; unfold wrap64; omega
        have HP2 : Aside0 (P.length + i = im ∧ (Y.drop (j - i)).length = i ∧ (Y.take (j - i)).length = j - i ∧ P ++ (Y.take (j - i) ++ (Y.drop (j - i) ++ (X ++ Q))) = tgt) := ⟨by omega, by rw [List.length_drop]; omega, by rw [List.length_take]; omega, by rw [← ht, ← List.append_assoc (Y.take _), List.take_append_drop]⟩
        generalize X ++ Q = Q2 at HP2 HC
        generalize Y.drop (j - i) = X2 at HP2 HC
        generalize Y.take (j - i) = Y2 at HP2 HC
        replace RR := Aside0.mk RR
        generalize im + j = s at hw3 hw4
        clear hTL hl hl' hp hP hX hY ht hltf hr
        go_wp2_with (go_at_call 131; refine (HC.out _ BB.out RR.out).mono ?_; rintro e w2 ⟨rfl, hb, hr⟩)
        go_roundg (i + (j - i))
        case measure => have := HQ.out; have := HIJ.out; have := HLT.out; omega
        case rel => exact ⟨i, j - i, rfl, by first | rfl | (rw [← i64_w, hw2]) | (simp [hw2]), ⟨P, X2, Y2, Q2, hr, HP2.out.1, HP2.out.2.1, HP2.out.2.2.1, HP2.out.2.2.2⟩, ⟨hb⟩, ⟨by have := HLT.out; have := HIJ.out; omega⟩, ⟨rfl⟩⟩
end Go.Proofs.Ytnchdmidaigheaa.QS
namespace Go.Proofs.Ytnchdmidaigheaa.QS
set_option linter.unusedVariables false
set_option linter.unusedSimpArgs false
open Go.RowKit Go.Proofs.Ytnchdmidaigheaa.SS Go.Proofs.Ytnchdmidaigheaa.Hp Go.Proofs.YtnchdmidaigheaaW.PrintWords Go.Proofs.YtnchdmidaigheaaW.PrintLast Go.Proofs.YtnchdmidaigheaaW.PrintMore
attribute [local go_sem] max2_int min2_int max_two min_two max_three min_three max_four min_four
def ins.T4 : Bool × List (List Nat × List Nat) := (true, [([], []), ([], []), ([0, 1], [0, 1]), ([2], [2]), ([3], [3]), ([3], [3]), ([3], [3]), ([5, 6, 3], [3, 5, 6]), ([7, 3], [3, 7]), ([3], [3]), ([3], [3]), ([10, 3], [3, 10]), ([9, 11, 3], [3, 9, 11]), ([12, 3], [3, 12]), ([4, 8, 13, 3, 3], [3, 4, 8, 13]), ([14, 3], [3, 14]), ([3, 15], [3, 15])])
def ins.B4 : List Nat := [0, 0, 3, 7, 15, 15, 15, 111, 239, 15, 15, 1039, 3599, 7695, 16383, 32767, 65535]
theorem ins.tab4 : rtab .any (opsOf Try.f119 4) = ins.T4 := by kernel_rfl
theorem ins.bits4 : waitsOk ins.T4.2 ins.B4 = true := by kernel_rfl
def ins.T6 : Bool × List (List Nat × List Nat) := (true, [([], []), ([], []), ([], []), ([], []), ([3], [3]), ([], []), ([], []), ([6], [6]), ([5, 7], [5, 7]), ([8], [8]), ([], []), ([], []), ([10, 11], [10, 11]), ([12], [12]), ([0, 1, 0, 1, 5, 6, 7, 8, 9, 13], [0, 1]), ([14, 9, 0, 1, 5, 6, 7, 8, 9, 13], [9, 14]), ([2, 4, 0, 1, 2, 3, 4, 5, 6, 7, 8, 9, 10, 11, 12, 13, 14, 15], [2, 4]), ([16, 13, 15, 0, 1, 2, 3, 4, 5, 6, 7, 8, 9, 10, 11, 12, 13, 14, 15], [13, 16])])
def ins.B6 : List Nat := [0, 0, 0, 0, 8, 0, 0, 64, 224, 480, 0, 0, 3072, 7168, 16355, 32739, 65535, 131071]
theorem ins.tab6 : rtab .any (opsOf Try.f119 6) = ins.T6 := by kernel_rfl
theorem ins.bits6 : waitsOk ins.T6.2 ins.B6 = true := by kernel_rfl
def Cmp (lt : Rec → Rec → Bool) : Prop := ∀ (W : World) (x y : Rec), Calls Try.prog 85 #[.agg #[.int .i64 x.nr, .int .i64 x.kd, .slice x.A x.n x.c], .agg #[.int .i64 y.nr, .int .i64 y.kd, .slice y.A y.n y.c]] W fun e w' => ∃ r : Int, e = .returned (.int .i64 r) ∧ decide (r < 0) = lt x y ∧ Below W.heap.size W w'
set_option maxHeartbeats 8000000 in
set_option maxRecDepth 100000 in
theorem ins_calls (lt : Rec → Rec → Bool) (ho : Ord lt) (hc : Cmp lt) (N : Nat) (w0 : World) (g : Nat) (hg : N ≤ g) (cp : Nat) (ia ib n : Nat) (P S Q : List Rec) (hP : P.length = ia) (hS : ia + S.length = ib) (hn : (P ++ (S ++ Q)).length = n) (hn2 : n ≤ 1000000) (w : World) (hB : Kp g w0 w) (hR : RowB w g (P ++ (S ++ Q))) :
    Calls Try.prog 119 #[.slice (some ⟨g, 0, none⟩) n cp, .int .i64 (ia : Int), .int .i64 (ib : Int), .func (.func 85) #[] #[]] w fun e w' => e = .returned (.tuple #[]) ∧ Kp g w0 w' ∧ RowB w' g (P ++ (ssort lt S ++ Q)) := by
  have HG := Aside0.mk hg
  have HO := Aside0.mk ho
  have HCMP : Aside0 (∀ (W : World) (x y : Rec), Calls Try.prog 85 #[.agg #[.int .i64 x.nr, .int .i64 x.kd, .slice x.A x.n x.c], .agg #[.int .i64 y.nr, .int .i64 y.kd, .slice y.A y.n y.c]] W fun e w' => ∃ r : Int, e = .returned (.int .i64 r) ∧ decide (r < 0) = lt x y ∧ Below W.heap.size W w') := ⟨hc⟩
  have HL : Aside0 (P.length = ia ∧ ia + S.length = ib ∧ P.length + (S.length + Q.length) = n ∧ n ≤ 1000000) := ⟨hP, hS, by rw [← hn]; simp only [List.length_append], hn2⟩
  have hS1 : ssort lt (S.take 1) ++ S.drop 1 = S := by
    cases S with
    | nil => rfl
    | cons s S => simp [ssort_one]
  have HR : Aside0 (RowB w g (P ++ (ssort lt (S.take (ia + 1 - ia)) ++ (S.drop (ia + 1 - ia) ++ Q)))) := ⟨by rw [Nat.add_sub_cancel_left, ← List.append_assoc (ssort lt _), hS1]; exact hR⟩
  replace hB := Aside0.mk hB
  clear hg ho hc hP hS hn hn2 hR hS1
  go_enter Try.func119, Try.ntmps119
  go_wp2_with fail
  go_loopg [8] (S.length + 1) (fun kq v8 w' => ∃ i : Nat, v8 = .int .i64 (i : Int) ∧ Aside0 (ia < i ∧ (i ≤ ib ∨ i = ia + 1)) ∧ Aside0 (RowB w' g (P ++ (ssort lt (S.take (i - ia)) ++ (S.drop (i - ia) ++ Q)))) ∧ Aside0 (Kp g w0 w') ∧ Aside0 (kq + i = ib + 2))
  case atStart => exact ⟨ia + 1, by first | rfl | (simp; unfold wrap64; have := HL.out; omega), ⟨by omega⟩, HR, hB, ⟨by have := HL.out; omega⟩⟩
  case round =>
    clear HR hB
    obtain ⟨i, rfl, HI, RR, BB, HQ⟩ := hrel
    by_cases hi : i < ib
    case neg =>
      have t1 : decide (i < ib) = false := decide_eq_false hi
      have h1 : S.take (i - ia) = S := List.take_of_length_le (by have := HL.out; omega)
      have h2 : S.drop (i - ia) = [] := List.drop_of_length_le (by have := HL.out; omega)
      have rr := RR.out
      rw [h1, h2, List.nil_append] at rr
      replace rr := Aside0.mk rr
      clear hi h1 h2 RR
      go_wp2_with fail
      go_end0
      exact ⟨rfl, BB.out, rr.out⟩
    case pos =>
      have t1 : decide (i < ib) = true := decide_eq_true hi
      have hk : i - ia < S.length := by have := HL.out; have := HI.out; omega
      obtain ⟨x, hx⟩ : ∃ x, S[i - ia]? = some x := ⟨_, List.getElem?_eq_getElem hk⟩
      have HIN : Aside0 (∃ A1 A2, RowB wr g (P ++ (A1 ++ (x :: (A2 ++ (S.drop (i - ia + 1) ++ Q))))) ∧ P.length + A1.length = i ∧ Sorted lt A1 ∧ put lt x A1 ++ A2 = ssort lt (S.take (i + 1 - ia))) := ⟨ssort lt (S.take (i - ia)), [], by
        have rr := RR.out
        rw [List.drop_eq_getElem_cons hk, show S[i - ia] = x from Option.some.inj ((List.getElem?_eq_getElem hk).symm.trans hx)] at rr
        exact rr, by rw [ssort_length, List.length_take]; have := HL.out; have := HI.out; omega, (ssort_stable HO.out _).1, by rw [List.append_nil, show i + 1 - ia = i - ia + 1 by have := HI.out; omega, ssort_take lt S _ x hx]⟩
      have HI2 := Aside0.mk hi
      obtain ⟨T, hT⟩ : ∃ T, T = ssort lt (S.take (i + 1 - ia)) := ⟨_, rfl⟩
      obtain ⟨R, hRR⟩ : ∃ R, R = S.drop (i - ia + 1) ++ Q := ⟨_, rfl⟩
      have hTL : T.length = i + 1 - ia := by rw [hT, ssort_length, List.length_take]; omega
      have HLN : Aside0 (P.length + (T.length + R.length) = n) := ⟨by rw [hTL, hRR, List.length_append, List.length_drop]; have := HL.out; have := HI.out; omega⟩
      rw [← hT, ← hRR] at HIN
      have HT := Aside0.mk hT
      have HR2 : Aside0 (R = S.drop (i + 1 - ia) ++ Q) := ⟨by rw [show i + 1 - ia = i - ia + 1 by have := HI.out; omega]; exact hRR⟩
      clear hi hk hx RR hT hRR hTL
      go_upto_region 4 with fail
      go_loopg [9] (i + 1) (fun kq v9 w' => ∃ j : Nat, v9 = .int .i64 (j : Int) ∧ Aside0 (∃ A1 A2, RowB w' g (P ++ (A1 ++ (x :: (A2 ++ R)))) ∧ P.length + A1.length = j ∧ Sorted lt A1 ∧ put lt x A1 ++ A2 = T) ∧ Aside0 (Kp g w0 w') ∧ Aside0 (kq = j + 1))
      case atStart => exact ⟨i, rfl, HIN, BB, ⟨rfl⟩⟩
      case round =>
      clear HIN BB
      obtain ⟨j, rfl, HIN, BB, HQJ⟩ := hrel
      go_upto_region 4 with fail
      obtain ⟨A1, A2, rr, hj, hs, hp⟩ := HIN.out
      clear HIN
      have hpl : A1.length + 1 + A2.length = T.length := by rw [← hp, put_mrg, List.length_append, mrg_length]; rfl
      have hlen : (P ++ (A1 ++ (x :: (A2 ++ R)))).length = n := by rw [← HLN.out]; simp only [List.length_append, List.length_cons]; omega
      obtain ⟨dd, hdd⟩ : ∃ dd, dd = P ++ (A1 ++ (x :: (A2 ++ R))) := ⟨_, rfl⟩
      have hx : dd[j]? = some x := by rw [hdd, List.getElem?_append_right (by omega), List.getElem?_append_right (by omega), show j - P.length - A1.length = 0 by omega]; rfl
      rw [← hdd] at rr hlen
      have hjn : j < n := by
        rcases Nat.lt_or_ge j dd.length with h | h
        · omega
        · rw [List.getElem?_eq_none h] at hx; cases hx
      have B0 := Aside0.mk (kp_drew BB.out)
      have R0 := Aside0.mk (RowB.below rr (below_drew1 (Below.refl wr.heap.size wr)))
      have HX_j := Aside0.mk hx
      have LO_j := Aside0.mk (eq_true (show (0 : Int) ≤ (j : Int) by omega))
      have HI_j := Aside0.mk (eq_true (show (j : Int) < (n : Int) by omega))
      clear rr BB
      rcases List.eq_nil_or_concat A1 with hnil | ⟨A0, y, hc⟩
      · have hje : j = ia := by rw [hnil] at hj; have := HL.out; simp at hj; omega
        have HGT : Aside0 (decide ((j : Int) > (ia : Int)) = false ∧ decide ((ia : Int) < (j : Int)) = false ∧ decide (ia < j) = false) := ⟨by simp [hje]⟩
        have HEND : Aside0 (dd = P ++ (T ++ R)) := ⟨by rw [hdd, ← hp, hnil]; simp [put]⟩
        clear hx hjn hlen hdd hpl hj hs hp hnil hje HX_j
        refine start_ (n := 17) (S := fun w' => True) (ds := []) #[false, false, false, false, false, false, false, false, false, false, false, false, false, false, false, false, false] (by kernel_rfl) rfl rfl trivial (fun hHeld => ?_)
        refine with_tabW ins.tab4 ins.bits4 (fun HT_ HW_ => ?_)
        generalize wr.drew = wq at B0 R0 hHeld ⊢
        refine inv_at [0, 1, 2, 3, 4, 5, 6, 7, 8, 9, 10, 11, 12, 13, 14, 15, 16] (fun a0_ b a w' => a = putSel a0_ b [(0, 18, .int .i64 (j : Int)), (1, 19, .int .i64 (ia : Int)), (2, 20, .bool false), (3, 21, .bool false), (4, 22, undef), (5, 23, undef), (6, 24, undef), (7, 25, undef), (8, 26, undef), (9, 27, undef), (10, 28, undef), (11, 29, undef), (12, 30, undef), (13, 31, undef), (14, 32, undef), (15, 33, undef), (16, 34, .bool false)] ∧ (Kp g w0 w') ∧ (RowB w' g dd)) HT_.out HW_.out (by kernel_rfl) (by kernel_rfl) ?_ ?_ ?_
        · exact ⟨by simp only [putSel, Bool.false_eq_true, if_false], B0.out, R0.out⟩
        · skip
          clear B0 R0
          refine steps_cons ?_ ?_
          · rintro b a w' ⟨ha, Q_B0, Q_R0⟩ hb_ hon hoff
            refine ⟨_, rfl, fun K hK => ?_⟩
            have e9 : a.tmps[9]? = some (.int .i64 (j : Int)) := by rw [ha]; exact (putSel_off rfl).trans rfl
            replace ha := Aside0.mk ha
            have B0 := Aside0.mk Q_B0
            have R0 := Aside0.mk Q_R0
            refine value_ (w1 := w') (v := .int .i64 (j : Int)) (by rfl) rfl ?_ ?_
            · go_simp
              (try simp only [i64_w])
              try rfl
            refine hK.out _ _ ⟨(by rw [ha.out]; exact putSel_upk 0 hb_ rfl rfl rfl), Q_B0, Q_R0⟩
          refine steps_cons ?_ ?_
          · rintro b a w' ⟨ha, Q_B0, Q_R0⟩ hb_ hon hoff
            refine ⟨_, rfl, fun K hK => ?_⟩
            have e1 : a.tmps[1]? = some (.int .i64 (ia : Int)) := by rw [ha]; exact (putSel_off rfl).trans rfl
            replace ha := Aside0.mk ha
            have B0 := Aside0.mk Q_B0
            have R0 := Aside0.mk Q_R0
            refine value_ (w1 := w') (v := .int .i64 (ia : Int)) (by rfl) rfl ?_ ?_
            · go_simp
              (try simp only [i64_w])
              try rfl
            refine hK.out _ _ ⟨(by rw [ha.out]; exact putSel_upk 1 hb_ rfl rfl rfl), Q_B0, Q_R0⟩
          refine steps_cons ?_ ?_
          · rintro b a w' ⟨ha, Q_B0, Q_R0⟩ hb_ hon hoff
            refine ⟨_, rfl, fun K hK => ?_⟩
            have e18 : a.tmps[18]? = some (.int .i64 (j : Int)) := by rw [ha]; exact putSel_on (e := (0, 18, .int .i64 (j : Int))) 0 rfl rfl (hon 0 (by kernel_rfl)) rfl
            have e19 : a.tmps[19]? = some (.int .i64 (ia : Int)) := by rw [ha]; exact putSel_on (e := (1, 19, .int .i64 (ia : Int))) 1 rfl rfl (hon 1 (by kernel_rfl)) rfl
            replace ha := Aside0.mk ha
            have B0 := Aside0.mk Q_B0
            have R0 := Aside0.mk Q_R0
            have hw0_ := HGT.out.1
            have hw1_ := HGT.out.2.1
            have hw2_ := HGT.out.2.2
            refine value_ (w1 := w') (v := .bool false) (by rfl) rfl ?_ ?_
            · go_simp
              (try simp only [i64_w])
              try rfl
            refine hK.out _ _ ⟨(by rw [ha.out]; exact putSel_upk 2 hb_ rfl rfl rfl), Q_B0, Q_R0⟩
          refine steps_cons ?_ ?_
          · rintro b a w' ⟨ha, Q_B0, Q_R0⟩ hb_ hon hoff
            refine ⟨_, rfl, fun K hK => ?_⟩
            have e20 : a.tmps[20]? = some (.bool false) := by rw [ha]; exact putSel_on (e := (2, 20, .bool false)) 2 rfl rfl (hon 2 (by kernel_rfl)) rfl
            replace ha := Aside0.mk ha
            have B0 := Aside0.mk Q_B0
            have R0 := Aside0.mk Q_R0
            refine value_ (w1 := w') (v := .bool false) (by rfl) rfl ?_ ?_
            · go_simp
              (try simp only [i64_w])
              try rfl
            refine hK.out _ _ ⟨(by rw [ha.out]; exact putSel_upk 3 hb_ rfl rfl rfl), Q_B0, Q_R0⟩
          refine steps_cons ?_ ?_
          · rintro b a w' ⟨ha, Q_B0, Q_R0⟩ hb_ hon hoff
            refine ⟨_, rfl, fun K hK => ?_⟩
            have e21 : a.tmps[21]? = some (.bool false) := by rw [ha]; exact putSel_on (e := (3, 21, .bool false)) 3 rfl rfl (hon 3 (by kernel_rfl)) rfl
            replace ha := Aside0.mk ha
            have B0 := Aside0.mk Q_B0
            have R0 := Aside0.mk Q_R0
            refine off_ (wanted_off rfl rfl rfl (e21.trans (by first | rfl | (simp [*]; done)))) ?_
            refine hK.out _ _ ⟨(by rw [ha.out]; exact putSel_upk 4 hb_ rfl rfl rfl), Q_B0, Q_R0⟩
          refine steps_cons ?_ ?_
          · rintro b a w' ⟨ha, Q_B0, Q_R0⟩ hb_ hon hoff
            refine ⟨_, rfl, fun K hK => ?_⟩
            have e21 : a.tmps[21]? = some (.bool false) := by rw [ha]; exact putSel_on (e := (3, 21, .bool false)) 3 rfl rfl (hon 3 (by kernel_rfl)) rfl
            replace ha := Aside0.mk ha
            have B0 := Aside0.mk Q_B0
            have R0 := Aside0.mk Q_R0
            refine off_ (wanted_off rfl rfl rfl (e21.trans (by first | rfl | (simp [*]; done)))) ?_
            refine hK.out _ _ ⟨(by rw [ha.out]; exact putSel_upk 5 hb_ rfl rfl rfl), Q_B0, Q_R0⟩
          refine steps_cons ?_ ?_
          · rintro b a w' ⟨ha, Q_B0, Q_R0⟩ hb_ hon hoff
            refine ⟨_, rfl, fun K hK => ?_⟩
            have e21 : a.tmps[21]? = some (.bool false) := by rw [ha]; exact putSel_on (e := (3, 21, .bool false)) 3 rfl rfl (hon 3 (by kernel_rfl)) rfl
            replace ha := Aside0.mk ha
            have B0 := Aside0.mk Q_B0
            have R0 := Aside0.mk Q_R0
            refine off_ (wanted_off rfl rfl rfl (e21.trans (by first | rfl | (simp [*]; done)))) ?_
            refine hK.out _ _ ⟨(by rw [ha.out]; exact putSel_upk 6 hb_ rfl rfl rfl), Q_B0, Q_R0⟩
          refine steps_cons ?_ ?_
          · rintro b a w' ⟨ha, Q_B0, Q_R0⟩ hb_ hon hoff
            refine ⟨_, rfl, fun K hK => ?_⟩
            have e21 : a.tmps[21]? = some (.bool false) := by rw [ha]; exact putSel_on (e := (3, 21, .bool false)) 3 rfl rfl (hon 3 (by kernel_rfl)) rfl
            replace ha := Aside0.mk ha
            have B0 := Aside0.mk Q_B0
            have R0 := Aside0.mk Q_R0
            refine off_ (wanted_off rfl rfl rfl (e21.trans (by first | rfl | (simp [*]; done)))) ?_
            refine hK.out _ _ ⟨(by rw [ha.out]; exact putSel_upk 7 hb_ rfl rfl rfl), Q_B0, Q_R0⟩
          refine steps_cons ?_ ?_
          · rintro b a w' ⟨ha, Q_B0, Q_R0⟩ hb_ hon hoff
            refine ⟨_, rfl, fun K hK => ?_⟩
            have e21 : a.tmps[21]? = some (.bool false) := by rw [ha]; exact putSel_on (e := (3, 21, .bool false)) 3 rfl rfl (hon 3 (by kernel_rfl)) rfl
            replace ha := Aside0.mk ha
            have B0 := Aside0.mk Q_B0
            have R0 := Aside0.mk Q_R0
            refine off_ (wanted_off rfl rfl rfl (e21.trans (by first | rfl | (simp [*]; done)))) ?_
            refine hK.out _ _ ⟨(by rw [ha.out]; exact putSel_upk 8 hb_ rfl rfl rfl), Q_B0, Q_R0⟩
          refine steps_cons ?_ ?_
          · rintro b a w' ⟨ha, Q_B0, Q_R0⟩ hb_ hon hoff
            refine ⟨_, rfl, fun K hK => ?_⟩
            have e21 : a.tmps[21]? = some (.bool false) := by rw [ha]; exact putSel_on (e := (3, 21, .bool false)) 3 rfl rfl (hon 3 (by kernel_rfl)) rfl
            replace ha := Aside0.mk ha
            have B0 := Aside0.mk Q_B0
            have R0 := Aside0.mk Q_R0
            refine off_ (wanted_off rfl rfl rfl (e21.trans (by first | rfl | (simp [*]; done)))) ?_
            refine hK.out _ _ ⟨(by rw [ha.out]; exact putSel_upk 9 hb_ rfl rfl rfl), Q_B0, Q_R0⟩
          refine steps_cons ?_ ?_
          · rintro b a w' ⟨ha, Q_B0, Q_R0⟩ hb_ hon hoff
            refine ⟨_, rfl, fun K hK => ?_⟩
            have e21 : a.tmps[21]? = some (.bool false) := by rw [ha]; exact putSel_on (e := (3, 21, .bool false)) 3 rfl rfl (hon 3 (by kernel_rfl)) rfl
            replace ha := Aside0.mk ha
            have B0 := Aside0.mk Q_B0
            have R0 := Aside0.mk Q_R0
            refine off_ (wanted_off rfl rfl rfl (e21.trans (by first | rfl | (simp [*]; done)))) ?_
            refine hK.out _ _ ⟨(by rw [ha.out]; exact putSel_upk 10 hb_ rfl rfl rfl), Q_B0, Q_R0⟩
          refine steps_cons ?_ ?_
          · rintro b a w' ⟨ha, Q_B0, Q_R0⟩ hb_ hon hoff
            refine ⟨_, rfl, fun K hK => ?_⟩
            have e21 : a.tmps[21]? = some (.bool false) := by rw [ha]; exact putSel_on (e := (3, 21, .bool false)) 3 rfl rfl (hon 3 (by kernel_rfl)) rfl
            replace ha := Aside0.mk ha
            have B0 := Aside0.mk Q_B0
            have R0 := Aside0.mk Q_R0
            refine off_ (wanted_off rfl rfl rfl (e21.trans (by first | rfl | (simp [*]; done)))) ?_
            refine hK.out _ _ ⟨(by rw [ha.out]; exact putSel_upk 11 hb_ rfl rfl rfl), Q_B0, Q_R0⟩
          refine steps_cons ?_ ?_
          · rintro b a w' ⟨ha, Q_B0, Q_R0⟩ hb_ hon hoff
            refine ⟨_, rfl, fun K hK => ?_⟩
            have e21 : a.tmps[21]? = some (.bool false) := by rw [ha]; exact putSel_on (e := (3, 21, .bool false)) 3 rfl rfl (hon 3 (by kernel_rfl)) rfl
            replace ha := Aside0.mk ha
            have B0 := Aside0.mk Q_B0
            have R0 := Aside0.mk Q_R0
            refine off_ (wanted_off rfl rfl rfl (e21.trans (by first | rfl | (simp [*]; done)))) ?_
            refine hK.out _ _ ⟨(by rw [ha.out]; exact putSel_upk 12 hb_ rfl rfl rfl), Q_B0, Q_R0⟩
          refine steps_cons ?_ ?_
          · rintro b a w' ⟨ha, Q_B0, Q_R0⟩ hb_ hon hoff
            refine ⟨_, rfl, fun K hK => ?_⟩
            have e21 : a.tmps[21]? = some (.bool false) := by rw [ha]; exact putSel_on (e := (3, 21, .bool false)) 3 rfl rfl (hon 3 (by kernel_rfl)) rfl
            replace ha := Aside0.mk ha
            have B0 := Aside0.mk Q_B0
            have R0 := Aside0.mk Q_R0
            refine off_ (wanted_off rfl rfl rfl (e21.trans (by first | rfl | (simp [*]; done)))) ?_
            refine hK.out _ _ ⟨(by rw [ha.out]; exact putSel_upk 13 hb_ rfl rfl rfl), Q_B0, Q_R0⟩
          refine steps_cons ?_ ?_
          · rintro b a w' ⟨ha, Q_B0, Q_R0⟩ hb_ hon hoff
            refine ⟨_, rfl, fun K hK => ?_⟩
            have e21 : a.tmps[21]? = some (.bool false) := by rw [ha]; exact putSel_on (e := (3, 21, .bool false)) 3 rfl rfl (hon 3 (by kernel_rfl)) rfl
            replace ha := Aside0.mk ha
            have B0 := Aside0.mk Q_B0
            have R0 := Aside0.mk Q_R0
            refine off_ (wanted_off rfl rfl rfl (e21.trans (by first | rfl | (simp [*]; done)))) ?_
            refine hK.out _ _ ⟨(by rw [ha.out]; exact putSel_upk 14 hb_ rfl rfl rfl), Q_B0, Q_R0⟩
          refine steps_cons ?_ ?_
          · rintro b a w' ⟨ha, Q_B0, Q_R0⟩ hb_ hon hoff
            refine ⟨_, rfl, fun K hK => ?_⟩
            have e21 : a.tmps[21]? = some (.bool false) := by rw [ha]; exact putSel_on (e := (3, 21, .bool false)) 3 rfl rfl (hon 3 (by kernel_rfl)) rfl
            replace ha := Aside0.mk ha
            have B0 := Aside0.mk Q_B0
            have R0 := Aside0.mk Q_R0
            refine off_ (wanted_off rfl rfl rfl (e21.trans (by first | rfl | (simp [*]; done)))) ?_
            refine hK.out _ _ ⟨(by rw [ha.out]; exact putSel_upk 15 hb_ rfl rfl rfl), Q_B0, Q_R0⟩
          refine steps_cons ?_ ?_
          · rintro b a w' ⟨ha, Q_B0, Q_R0⟩ hb_ hon hoff
            refine ⟨_, rfl, fun K hK => ?_⟩
            have e21 : a.tmps[21]? = some (.bool false) := by rw [ha]; exact putSel_on (e := (3, 21, .bool false)) 3 rfl rfl (hon 3 (by kernel_rfl)) rfl
            have e33 : a.tmps[33]? = some (undef) := by rw [ha]; exact putSel_on (e := (15, 33, undef)) 15 rfl rfl (hon 15 (by kernel_rfl)) rfl
            replace ha := Aside0.mk ha
            have B0 := Aside0.mk Q_B0
            have R0 := Aside0.mk Q_R0
            refine value_ (w1 := w') (v := .bool false) (by rfl) rfl ?_ ?_
            · go_simp
              (try simp only [i64_w])
              try rfl
            refine hK.out _ _ ⟨(by rw [ha.out]; exact putSel_upk 16 hb_ rfl rfl rfl), Q_B0, Q_R0⟩
          exact steps_nil
        rintro b a wl hall ⟨ha, Q_B0, Q_R0⟩
        clear B0 R0
        have hb0_ := hall 0 (by kernel_rfl)
        have hb1_ := hall 1 (by kernel_rfl)
        have hb2_ := hall 2 (by kernel_rfl)
        have hb3_ := hall 3 (by kernel_rfl)
        have hb4_ := hall 4 (by kernel_rfl)
        have hb5_ := hall 5 (by kernel_rfl)
        have hb6_ := hall 6 (by kernel_rfl)
        have hb7_ := hall 7 (by kernel_rfl)
        have hb8_ := hall 8 (by kernel_rfl)
        have hb9_ := hall 9 (by kernel_rfl)
        have hb10_ := hall 10 (by kernel_rfl)
        have hb11_ := hall 11 (by kernel_rfl)
        have hb12_ := hall 12 (by kernel_rfl)
        have hb13_ := hall 13 (by kernel_rfl)
        have hb14_ := hall 14 (by kernel_rfl)
        have hb15_ := hall 15 (by kernel_rfl)
        have hb16_ := hall 16 (by kernel_rfl)
        subst ha
        simp only [putSel, hb0_, hb1_, hb2_, hb3_, hb4_, hb5_, hb6_, hb7_, hb8_, hb9_, hb10_, hb11_, hb12_, hb13_, hb14_, hb15_, hb16_, if_true, Act.put, List.setIfInBounds_toArray, List.set_cons_zero, List.set_cons_succ]
        have B0 := Aside0.mk Q_B0
        clear Q_B0
        have R0 := Aside0.mk Q_R0
        clear Q_R0
        clear hall hb0_ hb1_ hb2_ hb3_ hb4_ hb5_ hb6_ hb7_ hb8_ hb9_ hb10_ hb11_ hb12_ hb13_ hb14_ hb15_ hb16_
        go_wp2_with fail
        go_roundg (ib + 1 - i)
        case measure => have := HQ.out; have := HI2.out; omega
        case rel => exact ⟨i + 1, by first | rfl | (simp; unfold wrap64; have := HI2.out; have := HL.out; omega), ⟨by have := HI2.out; have := HI.out; omega⟩, ⟨by rw [← HT.out, ← HR2.out, ← HEND.out]; exact R0.out⟩, B0, ⟨by have := HI2.out; omega⟩⟩
      · have hjl : P.length + A0.length + 1 = j := by rw [← hj, hc]; simp [Nat.add_assoc]
        obtain ⟨j1, hj1⟩ : ∃ j1, j1 = P.length + A0.length := ⟨_, rfl⟩
        have hy : dd[j1]? = some y := by rw [hdd, hc, List.getElem?_append_right (by omega), List.concat_eq_append, List.append_assoc, List.getElem?_append_right (by omega), show j1 - P.length - A0.length = 0 by omega]; rfl
        have HX_j1 := Aside0.mk hy
        have HW1 : Aside0 (IntKind.i64.wrap ((j : Int) - 1) = (j1 : Int)) := ⟨by rw [i64_w]; unfold wrap64; have := HL.out; omega⟩
        have HX2 : Aside0 ((dd.set j y)[j1]? = some y) := ⟨by rw [List.getElem?_set_ne (by omega)]; exact hy⟩
        have LO_j1 := Aside0.mk (eq_true (show (0 : Int) ≤ (j1 : Int) by omega))
        have HI_j1 := Aside0.mk (eq_true (show (j1 : Int) < (n : Int) by omega))
        have HGT : Aside0 (decide ((j : Int) > (ia : Int)) = true ∧ decide ((ia : Int) < (j : Int)) = true ∧ decide (ia < j) = true) := ⟨by have := HL.out; refine ⟨decide_eq_true (by omega), decide_eq_true (by omega), decide_eq_true (by omega)⟩⟩
        have hcc : A1 = A0 ++ [y] := by rw [hc, List.concat_eq_append]
        rw [hcc] at hs hp
        have HJ := Aside0.mk (And.intro hjl (And.intro hj1 hjn))
        by_cases htv : lt x y = true
        · have HTV := Aside0.mk htv
          have HIN : Aside0 (∃ A1 A2', (dd.set j y).set j1 x = P ++ (A1 ++ (x :: (A2' ++ R))) ∧ P.length + A1.length = j1 ∧ Sorted lt A1 ∧ put lt x A1 ++ A2' = T) := ⟨A0, y :: A2, by
            have h1 : swp1 dd j j1 = (dd.set j y).set j1 x := by unfold swp1; rw [hx, hy]
            rw [← h1, swp1_comm dd j j1 (by omega) (by omega), hdd, hcc]
            have h2 := swp1_next (P ++ A0) (A2 ++ R) y x
            rw [show (P ++ A0).length = j1 by rw [List.length_append]; omega, show j1 + 1 = j by omega] at h2
            simpa [List.append_assoc] using h2, by omega, (List.pairwise_append.1 hs).1, by rw [← hp, put_last lt x y htv, List.append_assoc]; rfl⟩
          clear htv hx hy hjn hlen hdd hpl hj hs hp hc hcc hjl hj1
          refine start_ (n := 17) (S := fun w' => True) (ds := []) #[false, false, false, false, false, false, false, false, false, false, false, false, false, false, false, false, false] (by kernel_rfl) rfl rfl trivial (fun hHeld => ?_)
          refine with_tabW ins.tab4 ins.bits4 (fun HT_ HW_ => ?_)
          generalize wr.drew = wq at B0 R0 hHeld ⊢
          refine inv_at [0, 1, 2, 3, 4, 5, 6, 7, 8, 9, 10, 11, 12, 13, 14, 15, 16] (fun a0_ b a w' => ∃ (rv : Value), a = putSel a0_ b [(0, 18, .int .i64 (j : Int)), (1, 19, .int .i64 (ia : Int)), (2, 20, .bool true), (3, 21, .bool true), (4, 22, .func (.func 85) #[] #[]), (5, 23, .slice (some ⟨g, 0, none⟩) n cp), (6, 24, .int .i64 (j : Int)), (7, 25, .pointer (some ⟨g, j * 3, none⟩)), (8, 26, .agg #[.int .i64 x.nr, .int .i64 x.kd, .slice x.A x.n x.c]), (9, 27, .slice (some ⟨g, 0, none⟩) n cp), (10, 28, .int .i64 (j : Int)), (11, 29, .int .i64 (j1 : Int)), (12, 30, .pointer (some ⟨g, j1 * 3, none⟩)), (13, 31, .agg #[.int .i64 y.nr, .int .i64 y.kd, .slice y.A y.n y.c]), (14, 32, rv), (15, 33, .bool true), (16, 34, .bool true)] ∧ (Kp g w0 w') ∧ (RowB w' g dd) ∧ (b 14 = true → ∃ r_ : Int, rv = .int .i64 r_ ∧ decide (r_ < 0) = true)) HT_.out HW_.out (by kernel_rfl) (by kernel_rfl) ?_ ?_ ?_
          · exact ⟨.bool false, by simp only [putSel, Bool.false_eq_true, if_false], B0.out, R0.out, fun h_ => absurd h_ (by decide)⟩
          · skip
            clear B0 R0
            refine steps_cons ?_ ?_
            · rintro b a w' ⟨rv, ha, Q_B0, Q_R0, Q_HRV⟩ hb_ hon hoff
              refine ⟨_, rfl, fun K hK => ?_⟩
              have e9 : a.tmps[9]? = some (.int .i64 (j : Int)) := by rw [ha]; exact (putSel_off rfl).trans rfl
              replace ha := Aside0.mk ha
              have B0 := Aside0.mk Q_B0
              have R0 := Aside0.mk Q_R0
              refine value_ (w1 := w') (v := .int .i64 (j : Int)) (by rfl) rfl ?_ ?_
              · go_simp
                (try simp only [i64_w])
                try rfl
              refine hK.out _ _ ⟨rv, (by rw [ha.out]; exact putSel_upk 0 hb_ rfl rfl rfl), Q_B0, Q_R0, fun h0_ => absurd ((hoff 14 (by kernel_rfl)).symm.trans h0_) (by decide)⟩
            refine steps_cons ?_ ?_
            · rintro b a w' ⟨rv, ha, Q_B0, Q_R0, Q_HRV⟩ hb_ hon hoff
              refine ⟨_, rfl, fun K hK => ?_⟩
              have e1 : a.tmps[1]? = some (.int .i64 (ia : Int)) := by rw [ha]; exact (putSel_off rfl).trans rfl
              replace ha := Aside0.mk ha
              have B0 := Aside0.mk Q_B0
              have R0 := Aside0.mk Q_R0
              refine value_ (w1 := w') (v := .int .i64 (ia : Int)) (by rfl) rfl ?_ ?_
              · go_simp
                (try simp only [i64_w])
                try rfl
              refine hK.out _ _ ⟨rv, (by rw [ha.out]; exact putSel_upk 1 hb_ rfl rfl rfl), Q_B0, Q_R0, fun h0_ => absurd ((hoff 14 (by kernel_rfl)).symm.trans h0_) (by decide)⟩
            refine steps_cons ?_ ?_
            · rintro b a w' ⟨rv, ha, Q_B0, Q_R0, Q_HRV⟩ hb_ hon hoff
              refine ⟨_, rfl, fun K hK => ?_⟩
              have e18 : a.tmps[18]? = some (.int .i64 (j : Int)) := by rw [ha]; exact putSel_on (e := (0, 18, .int .i64 (j : Int))) 0 rfl rfl (hon 0 (by kernel_rfl)) rfl
              have e19 : a.tmps[19]? = some (.int .i64 (ia : Int)) := by rw [ha]; exact putSel_on (e := (1, 19, .int .i64 (ia : Int))) 1 rfl rfl (hon 1 (by kernel_rfl)) rfl
              replace ha := Aside0.mk ha
              have B0 := Aside0.mk Q_B0
              have R0 := Aside0.mk Q_R0
              have hw0_ := HGT.out.1
              have hw1_ := HGT.out.2.1
              have hw2_ := HGT.out.2.2
              refine value_ (w1 := w') (v := .bool true) (by rfl) rfl ?_ ?_
              · go_simp
                (try simp only [i64_w])
                try rfl
              refine hK.out _ _ ⟨rv, (by rw [ha.out]; exact putSel_upk 2 hb_ rfl rfl rfl), Q_B0, Q_R0, fun h0_ => absurd ((hoff 14 (by kernel_rfl)).symm.trans h0_) (by decide)⟩
            refine steps_cons ?_ ?_
            · rintro b a w' ⟨rv, ha, Q_B0, Q_R0, Q_HRV⟩ hb_ hon hoff
              refine ⟨_, rfl, fun K hK => ?_⟩
              have e20 : a.tmps[20]? = some (.bool true) := by rw [ha]; exact putSel_on (e := (2, 20, .bool true)) 2 rfl rfl (hon 2 (by kernel_rfl)) rfl
              replace ha := Aside0.mk ha
              have B0 := Aside0.mk Q_B0
              have R0 := Aside0.mk Q_R0
              refine value_ (w1 := w') (v := .bool true) (by rfl) rfl ?_ ?_
              · go_simp
                (try simp only [i64_w])
                try rfl
              refine hK.out _ _ ⟨rv, (by rw [ha.out]; exact putSel_upk 3 hb_ rfl rfl rfl), Q_B0, Q_R0, fun h0_ => absurd ((hoff 14 (by kernel_rfl)).symm.trans h0_) (by decide)⟩
            refine steps_cons ?_ ?_
            · rintro b a w' ⟨rv, ha, Q_B0, Q_R0, Q_HRV⟩ hb_ hon hoff
              refine ⟨_, rfl, fun K hK => ?_⟩
              have e3 : a.tmps[3]? = some (.func (.func 85) #[] #[]) := by rw [ha]; exact (putSel_off rfl).trans rfl
              have e21 : a.tmps[21]? = some (.bool true) := by rw [ha]; exact putSel_on (e := (3, 21, .bool true)) 3 rfl rfl (hon 3 (by kernel_rfl)) rfl
              replace ha := Aside0.mk ha
              have B0 := Aside0.mk Q_B0
              have R0 := Aside0.mk Q_R0
              refine value_ (w1 := w') (v := .func (.func 85) #[] #[]) (wanted_on rfl rfl rfl (e21.trans (by first | rfl | (simp [*]; done)))) rfl ?_ ?_
              · go_simp
                (try simp only [i64_w])
                try rfl
              refine hK.out _ _ ⟨rv, (by rw [ha.out]; exact putSel_upk 4 hb_ rfl rfl rfl), Q_B0, Q_R0, fun h0_ => absurd ((hoff 14 (by kernel_rfl)).symm.trans h0_) (by decide)⟩
            refine steps_cons ?_ ?_
            · rintro b a w' ⟨rv, ha, Q_B0, Q_R0, Q_HRV⟩ hb_ hon hoff
              refine ⟨_, rfl, fun K hK => ?_⟩
              have e0 : a.tmps[0]? = some (.slice (some ⟨g, 0, none⟩) n cp) := by rw [ha]; exact (putSel_off rfl).trans rfl
              have e21 : a.tmps[21]? = some (.bool true) := by rw [ha]; exact putSel_on (e := (3, 21, .bool true)) 3 rfl rfl (hon 3 (by kernel_rfl)) rfl
              replace ha := Aside0.mk ha
              have B0 := Aside0.mk Q_B0
              have R0 := Aside0.mk Q_R0
              refine value_ (w1 := w') (v := .slice (some ⟨g, 0, none⟩) n cp) (wanted_on rfl rfl rfl (e21.trans (by first | rfl | (simp [*]; done)))) rfl ?_ ?_
              · go_simp
                (try simp only [i64_w])
                try rfl
              refine hK.out _ _ ⟨rv, (by rw [ha.out]; exact putSel_upk 5 hb_ rfl rfl rfl), Q_B0, Q_R0, fun h0_ => absurd ((hoff 14 (by kernel_rfl)).symm.trans h0_) (by decide)⟩
            refine steps_cons ?_ ?_
            · rintro b a w' ⟨rv, ha, Q_B0, Q_R0, Q_HRV⟩ hb_ hon hoff
              refine ⟨_, rfl, fun K hK => ?_⟩
              have e9 : a.tmps[9]? = some (.int .i64 (j : Int)) := by rw [ha]; exact (putSel_off rfl).trans rfl
              have e21 : a.tmps[21]? = some (.bool true) := by rw [ha]; exact putSel_on (e := (3, 21, .bool true)) 3 rfl rfl (hon 3 (by kernel_rfl)) rfl
              replace ha := Aside0.mk ha
              have B0 := Aside0.mk Q_B0
              have R0 := Aside0.mk Q_R0
              refine value_ (w1 := w') (v := .int .i64 (j : Int)) (wanted_on rfl rfl rfl (e21.trans (by first | rfl | (simp [*]; done)))) rfl ?_ ?_
              · go_simp
                (try simp only [i64_w])
                try rfl
              refine hK.out _ _ ⟨rv, (by rw [ha.out]; exact putSel_upk 6 hb_ rfl rfl rfl), Q_B0, Q_R0, fun h0_ => absurd ((hoff 14 (by kernel_rfl)).symm.trans h0_) (by decide)⟩
            refine steps_cons ?_ ?_
            · rintro b a w' ⟨rv, ha, Q_B0, Q_R0, Q_HRV⟩ hb_ hon hoff
              refine ⟨_, rfl, fun K hK => ?_⟩
              have e23 : a.tmps[23]? = some (.slice (some ⟨g, 0, none⟩) n cp) := by rw [ha]; exact putSel_on (e := (5, 23, .slice (some ⟨g, 0, none⟩) n cp)) 5 rfl rfl (hon 5 (by kernel_rfl)) rfl
              have e24 : a.tmps[24]? = some (.int .i64 (j : Int)) := by rw [ha]; exact putSel_on (e := (6, 24, .int .i64 (j : Int))) 6 rfl rfl (hon 6 (by kernel_rfl)) rfl
              have e21 : a.tmps[21]? = some (.bool true) := by rw [ha]; exact putSel_on (e := (3, 21, .bool true)) 3 rfl rfl (hon 3 (by kernel_rfl)) rfl
              replace ha := Aside0.mk ha
              have B0 := Aside0.mk Q_B0
              have R0 := Aside0.mk Q_R0
              have p1_ := LO_j.out
              have q1_ := HI_j.out
              refine value_ (w1 := w') (v := .pointer (some ⟨g, j * 3, none⟩)) (wanted_on rfl rfl rfl (e21.trans (by first | rfl | (simp [*]; done)))) rfl ?_ ?_
              · go_simp
                (try simp only [i64_w])
                try rfl
              refine hK.out _ _ ⟨rv, (by rw [ha.out]; exact putSel_upk 7 hb_ rfl rfl rfl), Q_B0, Q_R0, fun h0_ => absurd ((hoff 14 (by kernel_rfl)).symm.trans h0_) (by decide)⟩
            refine steps_cons ?_ ?_
            · rintro b a w' ⟨rv, ha, Q_B0, Q_R0, Q_HRV⟩ hb_ hon hoff
              refine ⟨_, rfl, fun K hK => ?_⟩
              have e25 : a.tmps[25]? = some (.pointer (some ⟨g, j * 3, none⟩)) := by rw [ha]; exact putSel_on (e := (7, 25, .pointer (some ⟨g, j * 3, none⟩))) 7 rfl rfl (hon 7 (by kernel_rfl)) rfl
              have e21 : a.tmps[21]? = some (.bool true) := by rw [ha]; exact putSel_on (e := (3, 21, .bool true)) 3 rfl rfl (hon 3 (by kernel_rfl)) rfl
              replace ha := Aside0.mk ha
              have B0 := Aside0.mk Q_B0
              have R0 := Aside0.mk Q_R0
              have cs_ := R0.out.cells HX_j.out
              refine value_ (w1 := w') (v := .agg #[.int .i64 x.nr, .int .i64 x.kd, .slice x.A x.n x.c]) (wanted_on rfl rfl rfl (e21.trans (by first | rfl | (simp [*]; done)))) rfl ?_ ?_
              · go_simp
                (try simp only [i64_w])
                try rfl
              refine hK.out _ _ ⟨rv, (by rw [ha.out]; exact putSel_upk 8 hb_ rfl rfl rfl), Q_B0, Q_R0, fun h0_ => absurd ((hoff 14 (by kernel_rfl)).symm.trans h0_) (by decide)⟩
            refine steps_cons ?_ ?_
            · rintro b a w' ⟨rv, ha, Q_B0, Q_R0, Q_HRV⟩ hb_ hon hoff
              refine ⟨_, rfl, fun K hK => ?_⟩
              have e0 : a.tmps[0]? = some (.slice (some ⟨g, 0, none⟩) n cp) := by rw [ha]; exact (putSel_off rfl).trans rfl
              have e21 : a.tmps[21]? = some (.bool true) := by rw [ha]; exact putSel_on (e := (3, 21, .bool true)) 3 rfl rfl (hon 3 (by kernel_rfl)) rfl
              replace ha := Aside0.mk ha
              have B0 := Aside0.mk Q_B0
              have R0 := Aside0.mk Q_R0
              refine value_ (w1 := w') (v := .slice (some ⟨g, 0, none⟩) n cp) (wanted_on rfl rfl rfl (e21.trans (by first | rfl | (simp [*]; done)))) rfl ?_ ?_
              · go_simp
                (try simp only [i64_w])
                try rfl
              refine hK.out _ _ ⟨rv, (by rw [ha.out]; exact putSel_upk 9 hb_ rfl rfl rfl), Q_B0, Q_R0, fun h0_ => absurd ((hoff 14 (by kernel_rfl)).symm.trans h0_) (by decide)⟩
            refine steps_cons ?_ ?_
            · rintro b a w' ⟨rv, ha, Q_B0, Q_R0, Q_HRV⟩ hb_ hon hoff
              refine ⟨_, rfl, fun K hK => ?_⟩
              have e9 : a.tmps[9]? = some (.int .i64 (j : Int)) := by rw [ha]; exact (putSel_off rfl).trans rfl
              have e21 : a.tmps[21]? = some (.bool true) := by rw [ha]; exact putSel_on (e := (3, 21, .bool true)) 3 rfl rfl (hon 3 (by kernel_rfl)) rfl
              replace ha := Aside0.mk ha
              have B0 := Aside0.mk Q_B0
              have R0 := Aside0.mk Q_R0
              refine value_ (w1 := w') (v := .int .i64 (j : Int)) (wanted_on rfl rfl rfl (e21.trans (by first | rfl | (simp [*]; done)))) rfl ?_ ?_
              · go_simp
                (try simp only [i64_w])
                try rfl
              refine hK.out _ _ ⟨rv, (by rw [ha.out]; exact putSel_upk 10 hb_ rfl rfl rfl), Q_B0, Q_R0, fun h0_ => absurd ((hoff 14 (by kernel_rfl)).symm.trans h0_) (by decide)⟩
            refine steps_cons ?_ ?_
            · rintro b a w' ⟨rv, ha, Q_B0, Q_R0, Q_HRV⟩ hb_ hon hoff
              refine ⟨_, rfl, fun K hK => ?_⟩
              have e28 : a.tmps[28]? = some (.int .i64 (j : Int)) := by rw [ha]; exact putSel_on (e := (10, 28, .int .i64 (j : Int))) 10 rfl rfl (hon 10 (by kernel_rfl)) rfl
              have e21 : a.tmps[21]? = some (.bool true) := by rw [ha]; exact putSel_on (e := (3, 21, .bool true)) 3 rfl rfl (hon 3 (by kernel_rfl)) rfl
              replace ha := Aside0.mk ha
              have B0 := Aside0.mk Q_B0
              have R0 := Aside0.mk Q_R0
              have hw0_ := HW1.out
              refine value_ (w1 := w') (v := .int .i64 (j1 : Int)) (wanted_on rfl rfl rfl (e21.trans (by first | rfl | (simp [*]; done)))) rfl ?_ ?_
              · go_simp
                (try simp only [i64_w])
                try rfl
              refine hK.out _ _ ⟨rv, (by rw [ha.out]; exact putSel_upk 11 hb_ rfl rfl rfl), Q_B0, Q_R0, fun h0_ => absurd ((hoff 14 (by kernel_rfl)).symm.trans h0_) (by decide)⟩
            refine steps_cons ?_ ?_
            · rintro b a w' ⟨rv, ha, Q_B0, Q_R0, Q_HRV⟩ hb_ hon hoff
              refine ⟨_, rfl, fun K hK => ?_⟩
              have e27 : a.tmps[27]? = some (.slice (some ⟨g, 0, none⟩) n cp) := by rw [ha]; exact putSel_on (e := (9, 27, .slice (some ⟨g, 0, none⟩) n cp)) 9 rfl rfl (hon 9 (by kernel_rfl)) rfl
              have e29 : a.tmps[29]? = some (.int .i64 (j1 : Int)) := by rw [ha]; exact putSel_on (e := (11, 29, .int .i64 (j1 : Int))) 11 rfl rfl (hon 11 (by kernel_rfl)) rfl
              have e21 : a.tmps[21]? = some (.bool true) := by rw [ha]; exact putSel_on (e := (3, 21, .bool true)) 3 rfl rfl (hon 3 (by kernel_rfl)) rfl
              replace ha := Aside0.mk ha
              have B0 := Aside0.mk Q_B0
              have R0 := Aside0.mk Q_R0
              have p1_ := LO_j1.out
              have q1_ := HI_j1.out
              refine value_ (w1 := w') (v := .pointer (some ⟨g, j1 * 3, none⟩)) (wanted_on rfl rfl rfl (e21.trans (by first | rfl | (simp [*]; done)))) rfl ?_ ?_
              · go_simp
                (try simp only [i64_w])
                try rfl
              refine hK.out _ _ ⟨rv, (by rw [ha.out]; exact putSel_upk 12 hb_ rfl rfl rfl), Q_B0, Q_R0, fun h0_ => absurd ((hoff 14 (by kernel_rfl)).symm.trans h0_) (by decide)⟩
            refine steps_cons ?_ ?_
            · rintro b a w' ⟨rv, ha, Q_B0, Q_R0, Q_HRV⟩ hb_ hon hoff
              refine ⟨_, rfl, fun K hK => ?_⟩
              have e30 : a.tmps[30]? = some (.pointer (some ⟨g, j1 * 3, none⟩)) := by rw [ha]; exact putSel_on (e := (12, 30, .pointer (some ⟨g, j1 * 3, none⟩))) 12 rfl rfl (hon 12 (by kernel_rfl)) rfl
              have e21 : a.tmps[21]? = some (.bool true) := by rw [ha]; exact putSel_on (e := (3, 21, .bool true)) 3 rfl rfl (hon 3 (by kernel_rfl)) rfl
              replace ha := Aside0.mk ha
              have B0 := Aside0.mk Q_B0
              have R0 := Aside0.mk Q_R0
              have cs_ := R0.out.cells HX_j1.out
              refine value_ (w1 := w') (v := .agg #[.int .i64 y.nr, .int .i64 y.kd, .slice y.A y.n y.c]) (wanted_on rfl rfl rfl (e21.trans (by first | rfl | (simp [*]; done)))) rfl ?_ ?_
              · go_simp
                (try simp only [i64_w])
                try rfl
              refine hK.out _ _ ⟨rv, (by rw [ha.out]; exact putSel_upk 13 hb_ rfl rfl rfl), Q_B0, Q_R0, fun h0_ => absurd ((hoff 14 (by kernel_rfl)).symm.trans h0_) (by decide)⟩
            refine steps_cons ?_ ?_
            · rintro b a w' ⟨rv, ha, Q_B0, Q_R0, Q_HRV⟩ hb_ hon hoff
              refine ⟨_, rfl, fun K hK => ?_⟩
              have e22 : a.tmps[22]? = some (.func (.func 85) #[] #[]) := by rw [ha]; exact putSel_on (e := (4, 22, .func (.func 85) #[] #[])) 4 rfl rfl (hon 4 (by kernel_rfl)) rfl
              have e26 : a.tmps[26]? = some (.agg #[.int .i64 x.nr, .int .i64 x.kd, .slice x.A x.n x.c]) := by rw [ha]; exact putSel_on (e := (8, 26, .agg #[.int .i64 x.nr, .int .i64 x.kd, .slice x.A x.n x.c])) 8 rfl rfl (hon 8 (by kernel_rfl)) rfl
              have e31 : a.tmps[31]? = some (.agg #[.int .i64 y.nr, .int .i64 y.kd, .slice y.A y.n y.c]) := by rw [ha]; exact putSel_on (e := (13, 31, .agg #[.int .i64 y.nr, .int .i64 y.kd, .slice y.A y.n y.c])) 13 rfl rfl (hon 13 (by kernel_rfl)) rfl
              have e21 : a.tmps[21]? = some (.bool true) := by rw [ha]; exact putSel_on (e := (3, 21, .bool true)) 3 rfl rfl (hon 3 (by kernel_rfl)) rfl
              replace ha := Aside0.mk ha
              have B0 := Aside0.mk Q_B0
              have R0 := Aside0.mk Q_R0
              refine goesv_ (t := 22) Try.func85 (by kernel_rfl) rfl #[.agg #[.int .i64 x.nr, .int .i64 x.kd, .slice x.A x.n x.c], .agg #[.int .i64 y.nr, .int .i64 y.kd, .slice y.A y.n y.c]] (wanted_on rfl rfl rfl (e21.trans rfl)) rfl rfl e22 (by first | (simp only [List.map_toArray, List.map_cons, List.map_nil, Act.eval, Array.getD_eq_getD_getElem?, Option.getD_some, e22, e26, e31, e21]; done) | (simp only [List.map_toArray, List.map_cons, List.map_nil, Act.eval, Array.getD_eq_getD_getElem?, Option.getD_some, e22, e26, e31, e21]; rfl)) ?_
              with_reducible refine (HCMP.out w' x y).mono ?_
              rintro e w2 ⟨r_, rfl, hr_, hb⟩
              refine ⟨_, rfl, ?_⟩
              refine hK.out _ _ ⟨.int .i64 r_, (by rw [ha.out]; exact putSel_upk 14 hb_ rfl rfl rfl), below_row B0.out HG.out R0.out hb, RowB.below R0.out hb, fun _ => ⟨r_, rfl, hr_.trans HTV.out⟩⟩
            refine steps_cons ?_ ?_
            · rintro b a w' ⟨rv, ha, Q_B0, Q_R0, Q_HRV⟩ hb_ hon hoff
              refine ⟨_, rfl, fun K hK => ?_⟩
              have e32 : a.tmps[32]? = some (rv) := by rw [ha]; exact putSel_on (e := (14, 32, rv)) 14 rfl rfl (hon 14 (by kernel_rfl)) rfl
              have e21 : a.tmps[21]? = some (.bool true) := by rw [ha]; exact putSel_on (e := (3, 21, .bool true)) 3 rfl rfl (hon 3 (by kernel_rfl)) rfl
              replace ha := Aside0.mk ha
              have B0 := Aside0.mk Q_B0
              have R0 := Aside0.mk Q_R0
              have HRV := Aside0.mk (Q_HRV (hon 14 (by kernel_rfl)))
              obtain ⟨r_, hr1_, hr2_⟩ := HRV.out
              rw [hr1_] at e32
              refine value_ (w1 := w') (v := .bool true) (wanted_on rfl rfl rfl (e21.trans (by first | rfl | (simp [*]; done)))) rfl ?_ ?_
              · go_simp
                (try simp only [i64_w])
                try rfl
              refine hK.out _ _ ⟨rv, (by rw [ha.out]; exact putSel_upk 15 hb_ rfl rfl rfl), Q_B0, Q_R0, Q_HRV⟩
            refine steps_cons ?_ ?_
            · rintro b a w' ⟨rv, ha, Q_B0, Q_R0, Q_HRV⟩ hb_ hon hoff
              refine ⟨_, rfl, fun K hK => ?_⟩
              have e21 : a.tmps[21]? = some (.bool true) := by rw [ha]; exact putSel_on (e := (3, 21, .bool true)) 3 rfl rfl (hon 3 (by kernel_rfl)) rfl
              have e33 : a.tmps[33]? = some (.bool true) := by rw [ha]; exact putSel_on (e := (15, 33, .bool true)) 15 rfl rfl (hon 15 (by kernel_rfl)) rfl
              replace ha := Aside0.mk ha
              have B0 := Aside0.mk Q_B0
              have R0 := Aside0.mk Q_R0
              have HRV := Aside0.mk (Q_HRV (hon 14 (by kernel_rfl)))
              refine value_ (w1 := w') (v := .bool true) (by rfl) rfl ?_ ?_
              · go_simp
                (try simp only [i64_w])
                try rfl
              refine hK.out _ _ ⟨rv, (by rw [ha.out]; exact putSel_upk 16 hb_ rfl rfl rfl), Q_B0, Q_R0, Q_HRV⟩
            exact steps_nil
          rintro b a wl hall ⟨rv, ha, Q_B0, Q_R0, Q_HRV⟩
          clear B0 R0
          have hb0_ := hall 0 (by kernel_rfl)
          have hb1_ := hall 1 (by kernel_rfl)
          have hb2_ := hall 2 (by kernel_rfl)
          have hb3_ := hall 3 (by kernel_rfl)
          have hb4_ := hall 4 (by kernel_rfl)
          have hb5_ := hall 5 (by kernel_rfl)
          have hb6_ := hall 6 (by kernel_rfl)
          have hb7_ := hall 7 (by kernel_rfl)
          have hb8_ := hall 8 (by kernel_rfl)
          have hb9_ := hall 9 (by kernel_rfl)
          have hb10_ := hall 10 (by kernel_rfl)
          have hb11_ := hall 11 (by kernel_rfl)
          have hb12_ := hall 12 (by kernel_rfl)
          have hb13_ := hall 13 (by kernel_rfl)
          have hb14_ := hall 14 (by kernel_rfl)
          have hb15_ := hall 15 (by kernel_rfl)
          have hb16_ := hall 16 (by kernel_rfl)
          subst ha
          simp only [putSel, hb0_, hb1_, hb2_, hb3_, hb4_, hb5_, hb6_, hb7_, hb8_, hb9_, hb10_, hb11_, hb12_, hb13_, hb14_, hb15_, hb16_, if_true, Act.put, List.setIfInBounds_toArray, List.set_cons_zero, List.set_cons_succ]
          have B0 := Aside0.mk Q_B0
          clear Q_B0
          have R0 := Aside0.mk Q_R0
          clear Q_R0
          have HRV := Aside0.mk (Q_HRV hb14_)
          clear Q_HRV
          clear hall hb0_ hb1_ hb2_ hb3_ hb4_ hb5_ hb6_ hb7_ hb8_ hb9_ hb10_ hb11_ hb12_ hb13_ hb14_ hb15_ hb16_
          clear HRV
          replace B0 := Aside0.mk (kp_drew B0.out)
          go_upto_region 6 with fail
          replace R0 := Aside0.mk (RowB.below R0.out (below_drew1 (Below.refl wl.heap.size wl)))
          refine start_ (n := 18) (S := fun w' => True) (ds := []) #[false, false, false, false, false, false, false, false, false, false, false, false, false, false, false, false, false, false] (by kernel_rfl) rfl rfl trivial (fun hHeld => ?_)
          refine with_tabW ins.tab6 ins.bits6 (fun HT_ HW_ => ?_)
          generalize wl.drew = wq at B0 R0 hHeld ⊢
          refine inv_at [0, 1, 2, 3, 4, 5, 6, 7, 8, 9, 10, 11, 12, 13, 14, 15, 16, 17] (fun a0_ b a w' => a = putSel a0_ b [(0, 37, .slice (some ⟨g, 0, none⟩) n cp), (1, 38, .int .i64 (j : Int)), (2, 39, .slice (some ⟨g, 0, none⟩) n cp), (3, 40, .int .i64 (j : Int)), (4, 41, .int .i64 (j1 : Int)), (5, 42, .slice (some ⟨g, 0, none⟩) n cp), (6, 43, .int .i64 (j : Int)), (7, 44, .int .i64 (j1 : Int)), (8, 45, .pointer (some ⟨g, j1 * 3, none⟩)), (9, 46, .agg #[.int .i64 y.nr, .int .i64 y.kd, .slice y.A y.n y.c]), (10, 47, .slice (some ⟨g, 0, none⟩) n cp), (11, 48, .int .i64 (j : Int)), (12, 49, .pointer (some ⟨g, j * 3, none⟩)), (13, 50, .agg #[.int .i64 x.nr, .int .i64 x.kd, .slice x.A x.n x.c]), (14, 51, .pointer (some ⟨g, j * 3, none⟩)), (16, 52, .pointer (some ⟨g, j1 * 3, none⟩))] ∧ (Kp g w0 w') ∧ (b 15 = false → RowB w' g dd) ∧ (b 15 = true → b 17 = false → RowB w' g (dd.set j y)) ∧ (b 17 = true → RowB w' g ((dd.set j y).set j1 x))) HT_.out HW_.out (by kernel_rfl) (by kernel_rfl) ?_ ?_ ?_
          · exact ⟨by simp only [putSel, Bool.false_eq_true, if_false], B0.out, fun _ => R0.out, fun h_ => absurd h_ (by decide), fun h_ => absurd h_ (by decide)⟩
          · skip
            clear B0 R0
            refine steps_cons ?_ ?_
            · rintro b a w' ⟨ha, Q_B0, Q_R0, Q_R1, Q_R2⟩ hb_ hon hoff
              refine ⟨_, rfl, fun K hK => ?_⟩
              have e0 : a.tmps[0]? = some (.slice (some ⟨g, 0, none⟩) n cp) := by rw [ha]; exact (putSel_off rfl).trans rfl
              replace ha := Aside0.mk ha
              have B0 := Aside0.mk Q_B0
              have R0 := Aside0.mk (Q_R0 (hoff 15 (by kernel_rfl)))
              refine value_ (w1 := w') (v := .slice (some ⟨g, 0, none⟩) n cp) (by rfl) rfl ?_ ?_
              · go_simp
                (try simp only [i64_w])
                try rfl
              refine hK.out _ _ ⟨(by rw [ha.out]; exact putSel_upk 0 hb_ rfl rfl rfl), Q_B0, Q_R0, fun h0_ _ => absurd ((hoff 15 (by kernel_rfl)).symm.trans h0_) (by decide), fun h0_ => absurd ((hoff 17 (by kernel_rfl)).symm.trans h0_) (by decide)⟩
            refine steps_cons ?_ ?_
            · rintro b a w' ⟨ha, Q_B0, Q_R0, Q_R1, Q_R2⟩ hb_ hon hoff
              refine ⟨_, rfl, fun K hK => ?_⟩
              have e9 : a.tmps[9]? = some (.int .i64 (j : Int)) := by rw [ha]; exact (putSel_off rfl).trans rfl
              replace ha := Aside0.mk ha
              have B0 := Aside0.mk Q_B0
              have R0 := Aside0.mk (Q_R0 (hoff 15 (by kernel_rfl)))
              refine value_ (w1 := w') (v := .int .i64 (j : Int)) (by rfl) rfl ?_ ?_
              · go_simp
                (try simp only [i64_w])
                try rfl
              refine hK.out _ _ ⟨(by rw [ha.out]; exact putSel_upk 1 hb_ rfl rfl rfl), Q_B0, Q_R0, fun h0_ _ => absurd ((hoff 15 (by kernel_rfl)).symm.trans h0_) (by decide), fun h0_ => absurd ((hoff 17 (by kernel_rfl)).symm.trans h0_) (by decide)⟩
            refine steps_cons ?_ ?_
            · rintro b a w' ⟨ha, Q_B0, Q_R0, Q_R1, Q_R2⟩ hb_ hon hoff
              refine ⟨_, rfl, fun K hK => ?_⟩
              have e0 : a.tmps[0]? = some (.slice (some ⟨g, 0, none⟩) n cp) := by rw [ha]; exact (putSel_off rfl).trans rfl
              replace ha := Aside0.mk ha
              have B0 := Aside0.mk Q_B0
              refine value_ (w1 := w') (v := .slice (some ⟨g, 0, none⟩) n cp) (by rfl) rfl ?_ ?_
              · go_simp
                (try simp only [i64_w])
                try rfl
              refine hK.out _ _ ⟨(by rw [ha.out]; exact putSel_upk 2 hb_ rfl rfl rfl), Q_B0, Q_R0, Q_R1, fun h0_ => absurd ((hoff 17 (by kernel_rfl)).symm.trans h0_) (by decide)⟩
            refine steps_cons ?_ ?_
            · rintro b a w' ⟨ha, Q_B0, Q_R0, Q_R1, Q_R2⟩ hb_ hon hoff
              refine ⟨_, rfl, fun K hK => ?_⟩
              have e9 : a.tmps[9]? = some (.int .i64 (j : Int)) := by rw [ha]; exact (putSel_off rfl).trans rfl
              replace ha := Aside0.mk ha
              have B0 := Aside0.mk Q_B0
              refine value_ (w1 := w') (v := .int .i64 (j : Int)) (by rfl) rfl ?_ ?_
              · go_simp
                (try simp only [i64_w])
                try rfl
              refine hK.out _ _ ⟨(by rw [ha.out]; exact putSel_upk 3 hb_ rfl rfl rfl), Q_B0, Q_R0, Q_R1, fun h0_ => absurd ((hoff 17 (by kernel_rfl)).symm.trans h0_) (by decide)⟩
            refine steps_cons ?_ ?_
            · rintro b a w' ⟨ha, Q_B0, Q_R0, Q_R1, Q_R2⟩ hb_ hon hoff
              refine ⟨_, rfl, fun K hK => ?_⟩
              have e40 : a.tmps[40]? = some (.int .i64 (j : Int)) := by rw [ha]; exact putSel_on (e := (3, 40, .int .i64 (j : Int))) 3 rfl rfl (hon 3 (by kernel_rfl)) rfl
              replace ha := Aside0.mk ha
              have B0 := Aside0.mk Q_B0
              have hw0_ := HW1.out
              refine value_ (w1 := w') (v := .int .i64 (j1 : Int)) (by rfl) rfl ?_ ?_
              · go_simp
                (try simp only [i64_w])
                try rfl
              refine hK.out _ _ ⟨(by rw [ha.out]; exact putSel_upk 4 hb_ rfl rfl rfl), Q_B0, Q_R0, Q_R1, fun h0_ => absurd ((hoff 17 (by kernel_rfl)).symm.trans h0_) (by decide)⟩
            refine steps_cons ?_ ?_
            · rintro b a w' ⟨ha, Q_B0, Q_R0, Q_R1, Q_R2⟩ hb_ hon hoff
              refine ⟨_, rfl, fun K hK => ?_⟩
              have e0 : a.tmps[0]? = some (.slice (some ⟨g, 0, none⟩) n cp) := by rw [ha]; exact (putSel_off rfl).trans rfl
              replace ha := Aside0.mk ha
              have B0 := Aside0.mk Q_B0
              have R0 := Aside0.mk (Q_R0 (hoff 15 (by kernel_rfl)))
              refine value_ (w1 := w') (v := .slice (some ⟨g, 0, none⟩) n cp) (by rfl) rfl ?_ ?_
              · go_simp
                (try simp only [i64_w])
                try rfl
              refine hK.out _ _ ⟨(by rw [ha.out]; exact putSel_upk 5 hb_ rfl rfl rfl), Q_B0, Q_R0, fun h0_ _ => absurd ((hoff 15 (by kernel_rfl)).symm.trans h0_) (by decide), fun h0_ => absurd ((hoff 17 (by kernel_rfl)).symm.trans h0_) (by decide)⟩
            refine steps_cons ?_ ?_
            · rintro b a w' ⟨ha, Q_B0, Q_R0, Q_R1, Q_R2⟩ hb_ hon hoff
              refine ⟨_, rfl, fun K hK => ?_⟩
              have e9 : a.tmps[9]? = some (.int .i64 (j : Int)) := by rw [ha]; exact (putSel_off rfl).trans rfl
              replace ha := Aside0.mk ha
              have B0 := Aside0.mk Q_B0
              have R0 := Aside0.mk (Q_R0 (hoff 15 (by kernel_rfl)))
              refine value_ (w1 := w') (v := .int .i64 (j : Int)) (by rfl) rfl ?_ ?_
              · go_simp
                (try simp only [i64_w])
                try rfl
              refine hK.out _ _ ⟨(by rw [ha.out]; exact putSel_upk 6 hb_ rfl rfl rfl), Q_B0, Q_R0, fun h0_ _ => absurd ((hoff 15 (by kernel_rfl)).symm.trans h0_) (by decide), fun h0_ => absurd ((hoff 17 (by kernel_rfl)).symm.trans h0_) (by decide)⟩
            refine steps_cons ?_ ?_
            · rintro b a w' ⟨ha, Q_B0, Q_R0, Q_R1, Q_R2⟩ hb_ hon hoff
              refine ⟨_, rfl, fun K hK => ?_⟩
              have e43 : a.tmps[43]? = some (.int .i64 (j : Int)) := by rw [ha]; exact putSel_on (e := (6, 43, .int .i64 (j : Int))) 6 rfl rfl (hon 6 (by kernel_rfl)) rfl
              replace ha := Aside0.mk ha
              have B0 := Aside0.mk Q_B0
              have R0 := Aside0.mk (Q_R0 (hoff 15 (by kernel_rfl)))
              have hw0_ := HW1.out
              refine value_ (w1 := w') (v := .int .i64 (j1 : Int)) (by rfl) rfl ?_ ?_
              · go_simp
                (try simp only [i64_w])
                try rfl
              refine hK.out _ _ ⟨(by rw [ha.out]; exact putSel_upk 7 hb_ rfl rfl rfl), Q_B0, Q_R0, fun h0_ _ => absurd ((hoff 15 (by kernel_rfl)).symm.trans h0_) (by decide), fun h0_ => absurd ((hoff 17 (by kernel_rfl)).symm.trans h0_) (by decide)⟩
            refine steps_cons ?_ ?_
            · rintro b a w' ⟨ha, Q_B0, Q_R0, Q_R1, Q_R2⟩ hb_ hon hoff
              refine ⟨_, rfl, fun K hK => ?_⟩
              have e42 : a.tmps[42]? = some (.slice (some ⟨g, 0, none⟩) n cp) := by rw [ha]; exact putSel_on (e := (5, 42, .slice (some ⟨g, 0, none⟩) n cp)) 5 rfl rfl (hon 5 (by kernel_rfl)) rfl
              have e44 : a.tmps[44]? = some (.int .i64 (j1 : Int)) := by rw [ha]; exact putSel_on (e := (7, 44, .int .i64 (j1 : Int))) 7 rfl rfl (hon 7 (by kernel_rfl)) rfl
              replace ha := Aside0.mk ha
              have B0 := Aside0.mk Q_B0
              have R0 := Aside0.mk (Q_R0 (hoff 15 (by kernel_rfl)))
              have p1_ := LO_j1.out
              have q1_ := HI_j1.out
              refine value_ (w1 := w') (v := .pointer (some ⟨g, j1 * 3, none⟩)) (by rfl) rfl ?_ ?_
              · go_simp
                (try simp only [i64_w])
                try rfl
              refine hK.out _ _ ⟨(by rw [ha.out]; exact putSel_upk 8 hb_ rfl rfl rfl), Q_B0, Q_R0, fun h0_ _ => absurd ((hoff 15 (by kernel_rfl)).symm.trans h0_) (by decide), fun h0_ => absurd ((hoff 17 (by kernel_rfl)).symm.trans h0_) (by decide)⟩
            refine steps_cons ?_ ?_
            · rintro b a w' ⟨ha, Q_B0, Q_R0, Q_R1, Q_R2⟩ hb_ hon hoff
              refine ⟨_, rfl, fun K hK => ?_⟩
              have e45 : a.tmps[45]? = some (.pointer (some ⟨g, j1 * 3, none⟩)) := by rw [ha]; exact putSel_on (e := (8, 45, .pointer (some ⟨g, j1 * 3, none⟩))) 8 rfl rfl (hon 8 (by kernel_rfl)) rfl
              replace ha := Aside0.mk ha
              have B0 := Aside0.mk Q_B0
              have R0 := Aside0.mk (Q_R0 (hoff 15 (by kernel_rfl)))
              have cs_ := R0.out.cells HX_j1.out
              refine value_ (w1 := w') (v := .agg #[.int .i64 y.nr, .int .i64 y.kd, .slice y.A y.n y.c]) (by rfl) rfl ?_ ?_
              · go_simp
                (try simp only [i64_w])
                try rfl
              refine hK.out _ _ ⟨(by rw [ha.out]; exact putSel_upk 9 hb_ rfl rfl rfl), Q_B0, Q_R0, fun h0_ _ => absurd ((hoff 15 (by kernel_rfl)).symm.trans h0_) (by decide), fun h0_ => absurd ((hoff 17 (by kernel_rfl)).symm.trans h0_) (by decide)⟩
            refine steps_cons ?_ ?_
            · rintro b a w' ⟨ha, Q_B0, Q_R0, Q_R1, Q_R2⟩ hb_ hon hoff
              refine ⟨_, rfl, fun K hK => ?_⟩
              have e0 : a.tmps[0]? = some (.slice (some ⟨g, 0, none⟩) n cp) := by rw [ha]; exact (putSel_off rfl).trans rfl
              replace ha := Aside0.mk ha
              have B0 := Aside0.mk Q_B0
              have R0 := Aside0.mk (Q_R0 (hoff 15 (by kernel_rfl)))
              refine value_ (w1 := w') (v := .slice (some ⟨g, 0, none⟩) n cp) (by rfl) rfl ?_ ?_
              · go_simp
                (try simp only [i64_w])
                try rfl
              refine hK.out _ _ ⟨(by rw [ha.out]; exact putSel_upk 10 hb_ rfl rfl rfl), Q_B0, Q_R0, fun h0_ _ => absurd ((hoff 15 (by kernel_rfl)).symm.trans h0_) (by decide), fun h0_ => absurd ((hoff 17 (by kernel_rfl)).symm.trans h0_) (by decide)⟩
            refine steps_cons ?_ ?_
            · rintro b a w' ⟨ha, Q_B0, Q_R0, Q_R1, Q_R2⟩ hb_ hon hoff
              refine ⟨_, rfl, fun K hK => ?_⟩
              have e9 : a.tmps[9]? = some (.int .i64 (j : Int)) := by rw [ha]; exact (putSel_off rfl).trans rfl
              replace ha := Aside0.mk ha
              have B0 := Aside0.mk Q_B0
              have R0 := Aside0.mk (Q_R0 (hoff 15 (by kernel_rfl)))
              refine value_ (w1 := w') (v := .int .i64 (j : Int)) (by rfl) rfl ?_ ?_
              · go_simp
                (try simp only [i64_w])
                try rfl
              refine hK.out _ _ ⟨(by rw [ha.out]; exact putSel_upk 11 hb_ rfl rfl rfl), Q_B0, Q_R0, fun h0_ _ => absurd ((hoff 15 (by kernel_rfl)).symm.trans h0_) (by decide), fun h0_ => absurd ((hoff 17 (by kernel_rfl)).symm.trans h0_) (by decide)⟩
            refine steps_cons ?_ ?_
            · rintro b a w' ⟨ha, Q_B0, Q_R0, Q_R1, Q_R2⟩ hb_ hon hoff
              refine ⟨_, rfl, fun K hK => ?_⟩
              have e47 : a.tmps[47]? = some (.slice (some ⟨g, 0, none⟩) n cp) := by rw [ha]; exact putSel_on (e := (10, 47, .slice (some ⟨g, 0, none⟩) n cp)) 10 rfl rfl (hon 10 (by kernel_rfl)) rfl
              have e48 : a.tmps[48]? = some (.int .i64 (j : Int)) := by rw [ha]; exact putSel_on (e := (11, 48, .int .i64 (j : Int))) 11 rfl rfl (hon 11 (by kernel_rfl)) rfl
              replace ha := Aside0.mk ha
              have B0 := Aside0.mk Q_B0
              have R0 := Aside0.mk (Q_R0 (hoff 15 (by kernel_rfl)))
              have p1_ := LO_j.out
              have q1_ := HI_j.out
              refine value_ (w1 := w') (v := .pointer (some ⟨g, j * 3, none⟩)) (by rfl) rfl ?_ ?_
              · go_simp
                (try simp only [i64_w])
                try rfl
              refine hK.out _ _ ⟨(by rw [ha.out]; exact putSel_upk 12 hb_ rfl rfl rfl), Q_B0, Q_R0, fun h0_ _ => absurd ((hoff 15 (by kernel_rfl)).symm.trans h0_) (by decide), fun h0_ => absurd ((hoff 17 (by kernel_rfl)).symm.trans h0_) (by decide)⟩
            refine steps_cons ?_ ?_
            · rintro b a w' ⟨ha, Q_B0, Q_R0, Q_R1, Q_R2⟩ hb_ hon hoff
              refine ⟨_, rfl, fun K hK => ?_⟩
              have e49 : a.tmps[49]? = some (.pointer (some ⟨g, j * 3, none⟩)) := by rw [ha]; exact putSel_on (e := (12, 49, .pointer (some ⟨g, j * 3, none⟩))) 12 rfl rfl (hon 12 (by kernel_rfl)) rfl
              replace ha := Aside0.mk ha
              have B0 := Aside0.mk Q_B0
              have R0 := Aside0.mk (Q_R0 (hoff 15 (by kernel_rfl)))
              have cs_ := R0.out.cells HX_j.out
              refine value_ (w1 := w') (v := .agg #[.int .i64 x.nr, .int .i64 x.kd, .slice x.A x.n x.c]) (by rfl) rfl ?_ ?_
              · go_simp
                (try simp only [i64_w])
                try rfl
              refine hK.out _ _ ⟨(by rw [ha.out]; exact putSel_upk 13 hb_ rfl rfl rfl), Q_B0, Q_R0, fun h0_ _ => absurd ((hoff 15 (by kernel_rfl)).symm.trans h0_) (by decide), fun h0_ => absurd ((hoff 17 (by kernel_rfl)).symm.trans h0_) (by decide)⟩
            refine steps_cons ?_ ?_
            · rintro b a w' ⟨ha, Q_B0, Q_R0, Q_R1, Q_R2⟩ hb_ hon hoff
              refine ⟨_, rfl, fun K hK => ?_⟩
              have e37 : a.tmps[37]? = some (.slice (some ⟨g, 0, none⟩) n cp) := by rw [ha]; exact putSel_on (e := (0, 37, .slice (some ⟨g, 0, none⟩) n cp)) 0 rfl rfl (hon 0 (by kernel_rfl)) rfl
              have e38 : a.tmps[38]? = some (.int .i64 (j : Int)) := by rw [ha]; exact putSel_on (e := (1, 38, .int .i64 (j : Int))) 1 rfl rfl (hon 1 (by kernel_rfl)) rfl
              replace ha := Aside0.mk ha
              have B0 := Aside0.mk Q_B0
              have R0 := Aside0.mk (Q_R0 (hoff 15 (by kernel_rfl)))
              have p1_ := LO_j.out
              have q1_ := HI_j.out
              refine value_ (w1 := w') (v := .pointer (some ⟨g, j * 3, none⟩)) (by rfl) rfl ?_ ?_
              · go_simp
                (try simp only [i64_w])
                try rfl
              refine hK.out _ _ ⟨(by rw [ha.out]; exact putSel_upk 14 hb_ rfl rfl rfl), Q_B0, Q_R0, fun h0_ _ => absurd ((hoff 15 (by kernel_rfl)).symm.trans h0_) (by decide), fun h0_ => absurd ((hoff 17 (by kernel_rfl)).symm.trans h0_) (by decide)⟩
            refine steps_cons ?_ ?_
            · rintro b a w' ⟨ha, Q_B0, Q_R0, Q_R1, Q_R2⟩ hb_ hon hoff
              refine ⟨_, rfl, fun K hK => ?_⟩
              have e51 : a.tmps[51]? = some (.pointer (some ⟨g, j * 3, none⟩)) := by rw [ha]; exact putSel_on (e := (14, 51, .pointer (some ⟨g, j * 3, none⟩))) 14 rfl rfl (hon 14 (by kernel_rfl)) rfl
              have e46 : a.tmps[46]? = some (.agg #[.int .i64 y.nr, .int .i64 y.kd, .slice y.A y.n y.c]) := by rw [ha]; exact putSel_on (e := (9, 46, .agg #[.int .i64 y.nr, .int .i64 y.kd, .slice y.A y.n y.c])) 9 rfl rfl (hon 9 (by kernel_rfl)) rfl
              replace ha := Aside0.mk ha
              have B0 := Aside0.mk Q_B0
              have R0 := Aside0.mk (Q_R0 hb_)
              have cs_ := R0.out.cells HX_j.out
              have f0_ := R0.out.frozen (j * 3)
              have f1_ := R0.out.frozen (j * 3 + 1)
              have f2_ := R0.out.frozen (j * 3 + 2)
              refine skip_ (w1 := ?_) (by rfl) rfl ?_ ?_
              rotate_left
              · go_simp
                rfl
              refine hK.out _ _ ⟨(by rw [ha.out]; exact putSel_none (v := undef) rfl), setRec_below (j := j) (x := y) B0.out HG.out, fun h0_ => absurd ((up_self b 15).symm.trans h0_) (by decide), fun _ _ => R0.out.set j y, fun h0_ => absurd ((hoff 17 (by kernel_rfl)).symm.trans h0_) (by decide)⟩
            refine steps_cons ?_ ?_
            · rintro b a w' ⟨ha, Q_B0, Q_R0, Q_R1, Q_R2⟩ hb_ hon hoff
              refine ⟨_, rfl, fun K hK => ?_⟩
              have e39 : a.tmps[39]? = some (.slice (some ⟨g, 0, none⟩) n cp) := by rw [ha]; exact putSel_on (e := (2, 39, .slice (some ⟨g, 0, none⟩) n cp)) 2 rfl rfl (hon 2 (by kernel_rfl)) rfl
              have e41 : a.tmps[41]? = some (.int .i64 (j1 : Int)) := by rw [ha]; exact putSel_on (e := (4, 41, .int .i64 (j1 : Int))) 4 rfl rfl (hon 4 (by kernel_rfl)) rfl
              replace ha := Aside0.mk ha
              have B0 := Aside0.mk Q_B0
              have R1 := Aside0.mk (Q_R1 (hon 15 (by kernel_rfl)) (hoff 17 (by kernel_rfl)))
              have p1_ := LO_j1.out
              have q1_ := HI_j1.out
              refine value_ (w1 := w') (v := .pointer (some ⟨g, j1 * 3, none⟩)) (by rfl) rfl ?_ ?_
              · go_simp
                (try simp only [i64_w])
                try rfl
              refine hK.out _ _ ⟨(by rw [ha.out]; exact putSel_upk 15 hb_ rfl rfl rfl), Q_B0, fun h0_ => absurd ((hon 15 (by kernel_rfl)).symm.trans h0_) (by decide), Q_R1, fun h0_ => absurd ((hoff 17 (by kernel_rfl)).symm.trans h0_) (by decide)⟩
            refine steps_cons ?_ ?_
            · rintro b a w' ⟨ha, Q_B0, Q_R0, Q_R1, Q_R2⟩ hb_ hon hoff
              refine ⟨_, rfl, fun K hK => ?_⟩
              have e52 : a.tmps[52]? = some (.pointer (some ⟨g, j1 * 3, none⟩)) := by rw [ha]; exact putSel_on (e := (16, 52, .pointer (some ⟨g, j1 * 3, none⟩))) 15 rfl rfl (hon 16 (by kernel_rfl)) rfl
              have e50 : a.tmps[50]? = some (.agg #[.int .i64 x.nr, .int .i64 x.kd, .slice x.A x.n x.c]) := by rw [ha]; exact putSel_on (e := (13, 50, .agg #[.int .i64 x.nr, .int .i64 x.kd, .slice x.A x.n x.c])) 13 rfl rfl (hon 13 (by kernel_rfl)) rfl
              replace ha := Aside0.mk ha
              have B0 := Aside0.mk Q_B0
              have R1 := Aside0.mk (Q_R1 (hon 15 (by kernel_rfl)) hb_)
              have cs_ := R1.out.cells HX2.out
              have f0_ := R1.out.frozen (j1 * 3)
              have f1_ := R1.out.frozen (j1 * 3 + 1)
              have f2_ := R1.out.frozen (j1 * 3 + 2)
              refine skip_ (w1 := ?_) (by rfl) rfl ?_ ?_
              rotate_left
              · go_simp
                rfl
              refine hK.out _ _ ⟨(by rw [ha.out]; exact putSel_none (v := undef) rfl), setRec_below (j := j1) (x := x) B0.out HG.out, fun h0_ => absurd ((hon 15 (by kernel_rfl)).symm.trans h0_) (by decide), fun _ h1_ => absurd ((up_self b 17).symm.trans h1_) (by decide), fun _ => R1.out.set j1 x⟩
            exact steps_nil
          rintro b a wm hall ⟨ha, Q_B0, Q_R0, Q_R1, Q_R2⟩
          clear B0 R0
          have hb0_ := hall 0 (by kernel_rfl)
          have hb1_ := hall 1 (by kernel_rfl)
          have hb2_ := hall 2 (by kernel_rfl)
          have hb3_ := hall 3 (by kernel_rfl)
          have hb4_ := hall 4 (by kernel_rfl)
          have hb5_ := hall 5 (by kernel_rfl)
          have hb6_ := hall 6 (by kernel_rfl)
          have hb7_ := hall 7 (by kernel_rfl)
          have hb8_ := hall 8 (by kernel_rfl)
          have hb9_ := hall 9 (by kernel_rfl)
          have hb10_ := hall 10 (by kernel_rfl)
          have hb11_ := hall 11 (by kernel_rfl)
          have hb12_ := hall 12 (by kernel_rfl)
          have hb13_ := hall 13 (by kernel_rfl)
          have hb14_ := hall 14 (by kernel_rfl)
          have hb15_ := hall 15 (by kernel_rfl)
          have hb16_ := hall 16 (by kernel_rfl)
          have hb17_ := hall 17 (by kernel_rfl)
          subst ha
          simp only [putSel, hb0_, hb1_, hb2_, hb3_, hb4_, hb5_, hb6_, hb7_, hb8_, hb9_, hb10_, hb11_, hb12_, hb13_, hb14_, hb15_, hb16_, hb17_, if_true, Act.put, List.setIfInBounds_toArray, List.set_cons_zero, List.set_cons_succ]
          have B0 := Aside0.mk Q_B0
          clear Q_B0
          clear Q_R0
          clear Q_R1
          have R2 := Aside0.mk (Q_R2 hb17_)
          clear Q_R2
          clear hall hb0_ hb1_ hb2_ hb3_ hb4_ hb5_ hb6_ hb7_ hb8_ hb9_ hb10_ hb11_ hb12_ hb13_ hb14_ hb15_ hb16_ hb17_
          go_wp2_with fail
          go_roundg (j1 + 1)
          case measure => have := HQJ.out; have := HJ.out; omega
          case rel =>
            obtain ⟨A1', A2', h1, h2, h3, h4⟩ := HIN.out
            exact ⟨j1, by first | rfl | (rw [← i64_w, HW1.out]) | (simp; unfold wrap64; have := HJ.out; have := HL.out; omega), ⟨A1', A2', by rw [← h1]; exact R2.out, h2, h3, h4⟩, B0, ⟨rfl⟩⟩
        · have htv : lt x y = false := by simpa using htv
          have HTV := Aside0.mk htv
          have HEND : Aside0 (dd = P ++ (T ++ R)) := ⟨by rw [hdd, ← hp, put_end HO.out x y htv A0 hs, hcc]; simp [List.append_assoc]⟩
          clear htv hx hy hjn hlen hdd hpl hj hs hp hc hcc hjl hj1
          refine start_ (n := 17) (S := fun w' => True) (ds := []) #[false, false, false, false, false, false, false, false, false, false, false, false, false, false, false, false, false] (by kernel_rfl) rfl rfl trivial (fun hHeld => ?_)
          refine with_tabW ins.tab4 ins.bits4 (fun HT_ HW_ => ?_)
          generalize wr.drew = wq at B0 R0 hHeld ⊢
          refine inv_at [0, 1, 2, 3, 4, 5, 6, 7, 8, 9, 10, 11, 12, 13, 14, 15, 16] (fun a0_ b a w' => ∃ (rv : Value), a = putSel a0_ b [(0, 18, .int .i64 (j : Int)), (1, 19, .int .i64 (ia : Int)), (2, 20, .bool true), (3, 21, .bool true), (4, 22, .func (.func 85) #[] #[]), (5, 23, .slice (some ⟨g, 0, none⟩) n cp), (6, 24, .int .i64 (j : Int)), (7, 25, .pointer (some ⟨g, j * 3, none⟩)), (8, 26, .agg #[.int .i64 x.nr, .int .i64 x.kd, .slice x.A x.n x.c]), (9, 27, .slice (some ⟨g, 0, none⟩) n cp), (10, 28, .int .i64 (j : Int)), (11, 29, .int .i64 (j1 : Int)), (12, 30, .pointer (some ⟨g, j1 * 3, none⟩)), (13, 31, .agg #[.int .i64 y.nr, .int .i64 y.kd, .slice y.A y.n y.c]), (14, 32, rv), (15, 33, .bool false), (16, 34, .bool false)] ∧ (Kp g w0 w') ∧ (RowB w' g dd) ∧ (b 14 = true → ∃ r_ : Int, rv = .int .i64 r_ ∧ decide (r_ < 0) = false)) HT_.out HW_.out (by kernel_rfl) (by kernel_rfl) ?_ ?_ ?_
          · exact ⟨.bool false, by simp only [putSel, Bool.false_eq_true, if_false], B0.out, R0.out, fun h_ => absurd h_ (by decide)⟩
          · skip
            clear B0 R0
            refine steps_cons ?_ ?_
            · rintro b a w' ⟨rv, ha, Q_B0, Q_R0, Q_HRV⟩ hb_ hon hoff
              refine ⟨_, rfl, fun K hK => ?_⟩
              have e9 : a.tmps[9]? = some (.int .i64 (j : Int)) := by rw [ha]; exact (putSel_off rfl).trans rfl
              replace ha := Aside0.mk ha
              have B0 := Aside0.mk Q_B0
              have R0 := Aside0.mk Q_R0
              refine value_ (w1 := w') (v := .int .i64 (j : Int)) (by rfl) rfl ?_ ?_
              · go_simp
                (try simp only [i64_w])
                try rfl
              refine hK.out _ _ ⟨rv, (by rw [ha.out]; exact putSel_upk 0 hb_ rfl rfl rfl), Q_B0, Q_R0, fun h0_ => absurd ((hoff 14 (by kernel_rfl)).symm.trans h0_) (by decide)⟩
            refine steps_cons ?_ ?_
            · rintro b a w' ⟨rv, ha, Q_B0, Q_R0, Q_HRV⟩ hb_ hon hoff
              refine ⟨_, rfl, fun K hK => ?_⟩
              have e1 : a.tmps[1]? = some (.int .i64 (ia : Int)) := by rw [ha]; exact (putSel_off rfl).trans rfl
              replace ha := Aside0.mk ha
              have B0 := Aside0.mk Q_B0
              have R0 := Aside0.mk Q_R0
              refine value_ (w1 := w') (v := .int .i64 (ia : Int)) (by rfl) rfl ?_ ?_
              · go_simp
                (try simp only [i64_w])
                try rfl
              refine hK.out _ _ ⟨rv, (by rw [ha.out]; exact putSel_upk 1 hb_ rfl rfl rfl), Q_B0, Q_R0, fun h0_ => absurd ((hoff 14 (by kernel_rfl)).symm.trans h0_) (by decide)⟩
            refine steps_cons ?_ ?_
            · rintro b a w' ⟨rv, ha, Q_B0, Q_R0, Q_HRV⟩ hb_ hon hoff
              refine ⟨_, rfl, fun K hK => ?_⟩
              have e18 : a.tmps[18]? = some (.int .i64 (j : Int)) := by rw [ha]; exact putSel_on (e := (0, 18, .int .i64 (j : Int))) 0 rfl rfl (hon 0 (by kernel_rfl)) rfl
              have e19 : a.tmps[19]? = some (.int .i64 (ia : Int)) := by rw [ha]; exact putSel_on (e := (1, 19, .int .i64 (ia : Int))) 1 rfl rfl (hon 1 (by kernel_rfl)) rfl
              replace ha := Aside0.mk ha
              have B0 := Aside0.mk Q_B0
              have R0 := Aside0.mk Q_R0
              have hw0_ := HGT.out.1
              have hw1_ := HGT.out.2.1
              have hw2_ := HGT.out.2.2
              refine value_ (w1 := w') (v := .bool true) (by rfl) rfl ?_ ?_
              · go_simp
                (try simp only [i64_w])
                try rfl
              refine hK.out _ _ ⟨rv, (by rw [ha.out]; exact putSel_upk 2 hb_ rfl rfl rfl), Q_B0, Q_R0, fun h0_ => absurd ((hoff 14 (by kernel_rfl)).symm.trans h0_) (by decide)⟩
            refine steps_cons ?_ ?_
            · rintro b a w' ⟨rv, ha, Q_B0, Q_R0, Q_HRV⟩ hb_ hon hoff
              refine ⟨_, rfl, fun K hK => ?_⟩
              have e20 : a.tmps[20]? = some (.bool true) := by rw [ha]; exact putSel_on (e := (2, 20, .bool true)) 2 rfl rfl (hon 2 (by kernel_rfl)) rfl
              replace ha := Aside0.mk ha
              have B0 := Aside0.mk Q_B0
              have R0 := Aside0.mk Q_R0
              refine value_ (w1 := w') (v := .bool true) (by rfl) rfl ?_ ?_
              · go_simp
                (try simp only [i64_w])
                try rfl
              refine hK.out _ _ ⟨rv, (by rw [ha.out]; exact putSel_upk 3 hb_ rfl rfl rfl), Q_B0, Q_R0, fun h0_ => absurd ((hoff 14 (by kernel_rfl)).symm.trans h0_) (by decide)⟩
            refine steps_cons ?_ ?_
            · rintro b a w' ⟨rv, ha, Q_B0, Q_R0, Q_HRV⟩ hb_ hon hoff
              refine ⟨_, rfl, fun K hK => ?_⟩
              have e3 : a.tmps[3]? = some (.func (.func 85) #[] #[]) := by rw [ha]; exact (putSel_off rfl).trans rfl
              have e21 : a.tmps[21]? = some (.bool true) := by rw [ha]; exact putSel_on (e := (3, 21, .bool true)) 3 rfl rfl (hon 3 (by kernel_rfl)) rfl
              replace ha := Aside0.mk ha
              have B0 := Aside0.mk Q_B0
              have R0 := Aside0.mk Q_R0
              refine value_ (w1 := w') (v := .func (.func 85) #[] #[]) (wanted_on rfl rfl rfl (e21.trans (by first | rfl | (simp [*]; done)))) rfl ?_ ?_
              · go_simp
                (try simp only [i64_w])
                try rfl
              refine hK.out _ _ ⟨rv, (by rw [ha.out]; exact putSel_upk 4 hb_ rfl rfl rfl), Q_B0, Q_R0, fun h0_ => absurd ((hoff 14 (by kernel_rfl)).symm.trans h0_) (by decide)⟩
            refine steps_cons ?_ ?_
            · rintro b a w' ⟨rv, ha, Q_B0, Q_R0, Q_HRV⟩ hb_ hon hoff
              refine ⟨_, rfl, fun K hK => ?_⟩
              have e0 : a.tmps[0]? = some (.slice (some ⟨g, 0, none⟩) n cp) := by rw [ha]; exact (putSel_off rfl).trans rfl
              have e21 : a.tmps[21]? = some (.bool true) := by rw [ha]; exact putSel_on (e := (3, 21, .bool true)) 3 rfl rfl (hon 3 (by kernel_rfl)) rfl
              replace ha := Aside0.mk ha
              have B0 := Aside0.mk Q_B0
              have R0 := Aside0.mk Q_R0
              refine value_ (w1 := w') (v := .slice (some ⟨g, 0, none⟩) n cp) (wanted_on rfl rfl rfl (e21.trans (by first | rfl | (simp [*]; done)))) rfl ?_ ?_
              · go_simp
                (try simp only [i64_w])
                try rfl
              refine hK.out _ _ ⟨rv, (by rw [ha.out]; exact putSel_upk 5 hb_ rfl rfl rfl), Q_B0, Q_R0, fun h0_ => absurd ((hoff 14 (by kernel_rfl)).symm.trans h0_) (by decide)⟩
            refine steps_cons ?_ ?_
            · rintro b a w' ⟨rv, ha, Q_B0, Q_R0, Q_HRV⟩ hb_ hon hoff
              refine ⟨_, rfl, fun K hK => ?_⟩
              have e9 : a.tmps[9]? = some (.int .i64 (j : Int)) := by rw [ha]; exact (putSel_off rfl).trans rfl
              have e21 : a.tmps[21]? = some (.bool true) := by rw [ha]; exact putSel_on (e := (3, 21, .bool true)) 3 rfl rfl (hon 3 (by kernel_rfl)) rfl
              replace ha := Aside0.mk ha
              have B0 := Aside0.mk Q_B0
              have R0 := Aside0.mk Q_R0
              refine value_ (w1 := w') (v := .int .i64 (j : Int)) (wanted_on rfl rfl rfl (e21.trans (by first | rfl | (simp [*]; done)))) rfl ?_ ?_
              · go_simp
                (try simp only [i64_w])
                try rfl
              refine hK.out _ _ ⟨rv, (by rw [ha.out]; exact putSel_upk 6 hb_ rfl rfl rfl), Q_B0, Q_R0, fun h0_ => absurd ((hoff 14 (by kernel_rfl)).symm.trans h0_) (by decide)⟩
            refine steps_cons ?_ ?_
            · rintro b a w' ⟨rv, ha, Q_B0, Q_R0, Q_HRV⟩ hb_ hon hoff
              refine ⟨_, rfl, fun K hK => ?_⟩
              have e23 : a.tmps[23]? = some (.slice (some ⟨g, 0, none⟩) n cp) := by rw [ha]; exact putSel_on (e := (5, 23, .slice (some ⟨g, 0, none⟩) n cp)) 5 rfl rfl (hon 5 (by kernel_rfl)) rfl
              have e24 : a.tmps[24]? = some (.int .i64 (j : Int)) := by rw [ha]; exact putSel_on (e := (6, 24, .int .i64 (j : Int))) 6 rfl rfl (hon 6 (by kernel_rfl)) rfl
              have e21 : a.tmps[21]? = some (.bool true) := by rw [ha]; exact putSel_on (e := (3, 21, .bool true)) 3 rfl rfl (hon 3 (by kernel_rfl)) rfl
              replace ha := Aside0.mk ha
              have B0 := Aside0.mk Q_B0
              have R0 := Aside0.mk Q_R0
              have p1_ := LO_j.out
              have q1_ := HI_j.out
              refine value_ (w1 := w') (v := .pointer (some ⟨g, j * 3, none⟩)) (wanted_on rfl rfl rfl (e21.trans (by first | rfl | (simp [*]; done)))) rfl ?_ ?_
              · go_simp
                (try simp only [i64_w])
                try rfl
              refine hK.out _ _ ⟨rv, (by rw [ha.out]; exact putSel_upk 7 hb_ rfl rfl rfl), Q_B0, Q_R0, fun h0_ => absurd ((hoff 14 (by kernel_rfl)).symm.trans h0_) (by decide)⟩
            refine steps_cons ?_ ?_
            · rintro b a w' ⟨rv, ha, Q_B0, Q_R0, Q_HRV⟩ hb_ hon hoff
              refine ⟨_, rfl, fun K hK => ?_⟩
              have e25 : a.tmps[25]? = some (.pointer (some ⟨g, j * 3, none⟩)) := by rw [ha]; exact putSel_on (e := (7, 25, .pointer (some ⟨g, j * 3, none⟩))) 7 rfl rfl (hon 7 (by kernel_rfl)) rfl
              have e21 : a.tmps[21]? = some (.bool true) := by rw [ha]; exact putSel_on (e := (3, 21, .bool true)) 3 rfl rfl (hon 3 (by kernel_rfl)) rfl
              replace ha := Aside0.mk ha
              have B0 := Aside0.mk Q_B0
              have R0 := Aside0.mk Q_R0
              have cs_ := R0.out.cells HX_j.out
              refine value_ (w1 := w') (v := .agg #[.int .i64 x.nr, .int .i64 x.kd, .slice x.A x.n x.c]) (wanted_on rfl rfl rfl (e21.trans (by first | rfl | (simp [*]; done)))) rfl ?_ ?_
              · go_simp
                (try simp only [i64_w])
                try rfl
              refine hK.out _ _ ⟨rv, (by rw [ha.out]; exact putSel_upk 8 hb_ rfl rfl rfl), Q_B0, Q_R0, fun h0_ => absurd ((hoff 14 (by kernel_rfl)).symm.trans h0_) (by decide)⟩
            refine steps_cons ?_ ?_
            · rintro b a w' ⟨rv, ha, Q_B0, Q_R0, Q_HRV⟩ hb_ hon hoff
              refine ⟨_, rfl, fun K hK => ?_⟩
              have e0 : a.tmps[0]? = some (.slice (some ⟨g, 0, none⟩) n cp) := by rw [ha]; exact (putSel_off rfl).trans rfl
              have e21 : a.tmps[21]? = some (.bool true) := by rw [ha]; exact putSel_on (e := (3, 21, .bool true)) 3 rfl rfl (hon 3 (by kernel_rfl)) rfl
              replace ha := Aside0.mk ha
              have B0 := Aside0.mk Q_B0
              have R0 := Aside0.mk Q_R0
              refine value_ (w1 := w') (v := .slice (some ⟨g, 0, none⟩) n cp) (wanted_on rfl rfl rfl (e21.trans (by first | rfl | (simp [*]; done)))) rfl ?_ ?_
              · go_simp
                (try simp only [i64_w])
                try rfl
              refine hK.out _ _ ⟨rv, (by rw [ha.out]; exact putSel_upk 9 hb_ rfl rfl rfl), Q_B0, Q_R0, fun h0_ => absurd ((hoff 14 (by kernel_rfl)).symm.trans h0_) (by decide)⟩
            refine steps_cons ?_ ?_
            · rintro b a w' ⟨rv, ha, Q_B0, Q_R0, Q_HRV⟩ hb_ hon hoff
              refine ⟨_, rfl, fun K hK => ?_⟩
              have e9 : a.tmps[9]? = some (.int .i64 (j : Int)) := by rw [ha]; exact (putSel_off rfl).trans rfl
              have e21 : a.tmps[21]? = some (.bool true) := by rw [ha]; exact putSel_on (e := (3, 21, .bool true)) 3 rfl rfl (hon 3 (by kernel_rfl)) rfl
              replace ha := Aside0.mk ha
              have B0 := Aside0.mk Q_B0
              have R0 := Aside0.mk Q_R0
              refine value_ (w1 := w') (v := .int .i64 (j : Int)) (wanted_on rfl rfl rfl (e21.trans (by first | rfl | (simp [*]; done)))) rfl ?_ ?_
              · go_simp
                (try simp only [i64_w])
                try rfl
              refine hK.out _ _ ⟨rv, (by rw [ha.out]; exact putSel_upk 10 hb_ rfl rfl rfl), Q_B0, Q_R0, fun h0_ => absurd ((hoff 14 (by kernel_rfl)).symm.trans h0_) (by decide)⟩
            refine steps_cons ?_ ?_
            · rintro b a w' ⟨rv, ha, Q_B0, Q_R0, Q_HRV⟩ hb_ hon hoff
              refine ⟨_, rfl, fun K hK => ?_⟩
              have e28 : a.tmps[28]? = some (.int .i64 (j : Int)) := by rw [ha]; exact putSel_on (e := (10, 28, .int .i64 (j : Int))) 10 rfl rfl (hon 10 (by kernel_rfl)) rfl
              have e21 : a.tmps[21]? = some (.bool true) := by rw [ha]; exact putSel_on (e := (3, 21, .bool true)) 3 rfl rfl (hon 3 (by kernel_rfl)) rfl
              replace ha := Aside0.mk ha
              have B0 := Aside0.mk Q_B0
              have R0 := Aside0.mk Q_R0
              have hw0_ := HW1.out
              refine value_ (w1 := w') (v := .int .i64 (j1 : Int)) (wanted_on rfl rfl rfl (e21.trans (by first | rfl | (simp [*]; done)))) rfl ?_ ?_
              · go_simp
                (try simp only [i64_w])
                try rfl
              refine hK.out _ _ ⟨rv, (by rw [ha.out]; exact putSel_upk 11 hb_ rfl rfl rfl), Q_B0, Q_R0, fun h0_ => absurd ((hoff 14 (by kernel_rfl)).symm.trans h0_) (by decide)⟩
            refine steps_cons ?_ ?_
            · rintro b a w' ⟨rv, ha, Q_B0, Q_R0, Q_HRV⟩ hb_ hon hoff
              refine ⟨_, rfl, fun K hK => ?_⟩
              have e27 : a.tmps[27]? = some (.slice (some ⟨g, 0, none⟩) n cp) := by rw [ha]; exact putSel_on (e := (9, 27, .slice (some ⟨g, 0, none⟩) n cp)) 9 rfl rfl (hon 9 (by kernel_rfl)) rfl
              have e29 : a.tmps[29]? = some (.int .i64 (j1 : Int)) := by rw [ha]; exact putSel_on (e := (11, 29, .int .i64 (j1 : Int))) 11 rfl rfl (hon 11 (by kernel_rfl)) rfl
              have e21 : a.tmps[21]? = some (.bool true) := by rw [ha]; exact putSel_on (e := (3, 21, .bool true)) 3 rfl rfl (hon 3 (by kernel_rfl)) rfl
              replace ha := Aside0.mk ha
              have B0 := Aside0.mk Q_B0
              have R0 := Aside0.mk Q_R0
              have p1_ := LO_j1.out
              have q1_ := HI_j1.out
              refine value_ (w1 := w') (v := .pointer (some ⟨g, j1 * 3, none⟩)) (wanted_on rfl rfl rfl (e21.trans (by first | rfl | (simp [*]; done)))) rfl ?_ ?_
              · go_simp
                (try simp only [i64_w])
                try rfl
              refine hK.out _ _ ⟨rv, (by rw [ha.out]; exact putSel_upk 12 hb_ rfl rfl rfl), Q_B0, Q_R0, fun h0_ => absurd ((hoff 14 (by kernel_rfl)).symm.trans h0_) (by decide)⟩
            refine steps_cons ?_ ?_
            · rintro b a w' ⟨rv, ha, Q_B0, Q_R0, Q_HRV⟩ hb_ hon hoff
              refine ⟨_, rfl, fun K hK => ?_⟩
              have e30 : a.tmps[30]? = some (.pointer (some ⟨g, j1 * 3, none⟩)) := by rw [ha]; exact putSel_on (e := (12, 30, .pointer (some ⟨g, j1 * 3, none⟩))) 12 rfl rfl (hon 12 (by kernel_rfl)) rfl
              have e21 : a.tmps[21]? = some (.bool true) := by rw [ha]; exact putSel_on (e := (3, 21, .bool true)) 3 rfl rfl (hon 3 (by kernel_rfl)) rfl
              replace ha := Aside0.mk ha
              have B0 := Aside0.mk Q_B0
              have R0 := Aside0.mk Q_R0
              have cs_ := R0.out.cells HX_j1.out
              refine value_ (w1 := w') (v := .agg #[.int .i64 y.nr, .int .i64 y.kd, .slice y.A y.n y.c]) (wanted_on rfl rfl rfl (e21.trans (by first | rfl | (simp [*]; done)))) rfl ?_ ?_
              · go_simp
                (try simp only [i64_w])
                try rfl
              refine hK.out _ _ ⟨rv, (by rw [ha.out]; exact putSel_upk 13 hb_ rfl rfl rfl), Q_B0, Q_R0, fun h0_ => absurd ((hoff 14 (by kernel_rfl)).symm.trans h0_) (by decide)⟩
            refine steps_cons ?_ ?_
            · rintro b a w' ⟨rv, ha, Q_B0, Q_R0, Q_HRV⟩ hb_ hon hoff
              refine ⟨_, rfl, fun K hK => ?_⟩
              have e22 : a.tmps[22]? = some (.func (.func 85) #[] #[]) := by rw [ha]; exact putSel_on (e := (4, 22, .func (.func 85) #[] #[])) 4 rfl rfl (hon 4 (by kernel_rfl)) rfl
              have e26 : a.tmps[26]? = some (.agg #[.int .i64 x.nr, .int .i64 x.kd, .slice x.A x.n x.c]) := by rw [ha]; exact putSel_on (e := (8, 26, .agg #[.int .i64 x.nr, .int .i64 x.kd, .slice x.A x.n x.c])) 8 rfl rfl (hon 8 (by kernel_rfl)) rfl
              have e31 : a.tmps[31]? = some (.agg #[.int .i64 y.nr, .int .i64 y.kd, .slice y.A y.n y.c]) := by rw [ha]; exact putSel_on (e := (13, 31, .agg #[.int .i64 y.nr, .int .i64 y.kd, .slice y.A y.n y.c])) 13 rfl rfl (hon 13 (by kernel_rfl)) rfl
              have e21 : a.tmps[21]? = some (.bool true) := by rw [ha]; exact putSel_on (e := (3, 21, .bool true)) 3 rfl rfl (hon 3 (by kernel_rfl)) rfl
              replace ha := Aside0.mk ha
              have B0 := Aside0.mk Q_B0
              have R0 := Aside0.mk Q_R0
              refine goesv_ (t := 22) Try.func85 (by kernel_rfl) rfl #[.agg #[.int .i64 x.nr, .int .i64 x.kd, .slice x.A x.n x.c], .agg #[.int .i64 y.nr, .int .i64 y.kd, .slice y.A y.n y.c]] (wanted_on rfl rfl rfl (e21.trans rfl)) rfl rfl e22 (by first | (simp only [List.map_toArray, List.map_cons, List.map_nil, Act.eval, Array.getD_eq_getD_getElem?, Option.getD_some, e22, e26, e31, e21]; done) | (simp only [List.map_toArray, List.map_cons, List.map_nil, Act.eval, Array.getD_eq_getD_getElem?, Option.getD_some, e22, e26, e31, e21]; rfl)) ?_
              with_reducible refine (HCMP.out w' x y).mono ?_
              rintro e w2 ⟨r_, rfl, hr_, hb⟩
              refine ⟨_, rfl, ?_⟩
              refine hK.out _ _ ⟨.int .i64 r_, (by rw [ha.out]; exact putSel_upk 14 hb_ rfl rfl rfl), below_row B0.out HG.out R0.out hb, RowB.below R0.out hb, fun _ => ⟨r_, rfl, hr_.trans HTV.out⟩⟩
            refine steps_cons ?_ ?_
            · rintro b a w' ⟨rv, ha, Q_B0, Q_R0, Q_HRV⟩ hb_ hon hoff
              refine ⟨_, rfl, fun K hK => ?_⟩
              have e32 : a.tmps[32]? = some (rv) := by rw [ha]; exact putSel_on (e := (14, 32, rv)) 14 rfl rfl (hon 14 (by kernel_rfl)) rfl
              have e21 : a.tmps[21]? = some (.bool true) := by rw [ha]; exact putSel_on (e := (3, 21, .bool true)) 3 rfl rfl (hon 3 (by kernel_rfl)) rfl
              replace ha := Aside0.mk ha
              have B0 := Aside0.mk Q_B0
              have R0 := Aside0.mk Q_R0
              have HRV := Aside0.mk (Q_HRV (hon 14 (by kernel_rfl)))
              obtain ⟨r_, hr1_, hr2_⟩ := HRV.out
              rw [hr1_] at e32
              refine value_ (w1 := w') (v := .bool false) (wanted_on rfl rfl rfl (e21.trans (by first | rfl | (simp [*]; done)))) rfl ?_ ?_
              · go_simp
                (try simp only [i64_w])
                try rfl
              refine hK.out _ _ ⟨rv, (by rw [ha.out]; exact putSel_upk 15 hb_ rfl rfl rfl), Q_B0, Q_R0, Q_HRV⟩
            refine steps_cons ?_ ?_
            · rintro b a w' ⟨rv, ha, Q_B0, Q_R0, Q_HRV⟩ hb_ hon hoff
              refine ⟨_, rfl, fun K hK => ?_⟩
              have e21 : a.tmps[21]? = some (.bool true) := by rw [ha]; exact putSel_on (e := (3, 21, .bool true)) 3 rfl rfl (hon 3 (by kernel_rfl)) rfl
              have e33 : a.tmps[33]? = some (.bool false) := by rw [ha]; exact putSel_on (e := (15, 33, .bool false)) 15 rfl rfl (hon 15 (by kernel_rfl)) rfl
              replace ha := Aside0.mk ha
              have B0 := Aside0.mk Q_B0
              have R0 := Aside0.mk Q_R0
              have HRV := Aside0.mk (Q_HRV (hon 14 (by kernel_rfl)))
              refine value_ (w1 := w') (v := .bool false) (by rfl) rfl ?_ ?_
              · go_simp
                (try simp only [i64_w])
                try rfl
              refine hK.out _ _ ⟨rv, (by rw [ha.out]; exact putSel_upk 16 hb_ rfl rfl rfl), Q_B0, Q_R0, Q_HRV⟩
            exact steps_nil
          rintro b a wl hall ⟨rv, ha, Q_B0, Q_R0, Q_HRV⟩
          clear B0 R0
          have hb0_ := hall 0 (by kernel_rfl)
          have hb1_ := hall 1 (by kernel_rfl)
          have hb2_ := hall 2 (by kernel_rfl)
          have hb3_ := hall 3 (by kernel_rfl)
          have hb4_ := hall 4 (by kernel_rfl)
          have hb5_ := hall 5 (by kernel_rfl)
          have hb6_ := hall 6 (by kernel_rfl)
          have hb7_ := hall 7 (by kernel_rfl)
          have hb8_ := hall 8 (by kernel_rfl)
          have hb9_ := hall 9 (by kernel_rfl)
          have hb10_ := hall 10 (by kernel_rfl)
          have hb11_ := hall 11 (by kernel_rfl)
          have hb12_ := hall 12 (by kernel_rfl)
          have hb13_ := hall 13 (by kernel_rfl)
          have hb14_ := hall 14 (by kernel_rfl)
          have hb15_ := hall 15 (by kernel_rfl)
          have hb16_ := hall 16 (by kernel_rfl)
          subst ha
          simp only [putSel, hb0_, hb1_, hb2_, hb3_, hb4_, hb5_, hb6_, hb7_, hb8_, hb9_, hb10_, hb11_, hb12_, hb13_, hb14_, hb15_, hb16_, if_true, Act.put, List.setIfInBounds_toArray, List.set_cons_zero, List.set_cons_succ]
          have B0 := Aside0.mk Q_B0
          clear Q_B0
          have R0 := Aside0.mk Q_R0
          clear Q_R0
          have HRV := Aside0.mk (Q_HRV hb14_)
          clear Q_HRV
          clear hall hb0_ hb1_ hb2_ hb3_ hb4_ hb5_ hb6_ hb7_ hb8_ hb9_ hb10_ hb11_ hb12_ hb13_ hb14_ hb15_ hb16_
          clear HRV
          go_wp2_with fail
          go_roundg (ib + 1 - i)
          case measure => have := HQ.out; have := HI2.out; omega
          case rel => exact ⟨i + 1, by first | rfl | (simp; unfold wrap64; have := HI2.out; have := HL.out; omega), ⟨by have := HI2.out; have := HI.out; omega⟩, ⟨by rw [← HT.out, ← HR2.out, ← HEND.out]; exact R0.out⟩, B0, ⟨by have := HI2.out; omega⟩⟩
end Go.Proofs.Ytnchdmidaigheaa.QS
namespace Go.Proofs.Ytnchdmidaigheaa.QS
set_option linter.unusedVariables false
set_option linter.unusedSimpArgs false
open Go.RowKit Go.Proofs.Ytnchdmidaigheaa.SS Go.Proofs.Ytnchdmidaigheaa.Hp Go.Proofs.YtnchdmidaigheaaW.PrintWords Go.Proofs.YtnchdmidaigheaaW.PrintLast Go.Proofs.YtnchdmidaigheaaW.PrintMore
attribute [local go_sem] max2_int min2_int max_two min_two max_three min_three max_four min_four
theorem mid_val (i j h : Nat) (hh : h = (i + j) / 2) (hs : i + j ≤ 4000000) : wrap64 (IntKind.u64.wrap ((i : Int) + (j : Int)) / 2) = (h : Int) := by
  rw [IntKind.wrap_u64]
  unfold wrap64
  omega
def sym.T5 : Bool × List (List Nat × List Nat) := (true, [([], []), ([], []), ([], []), ([1, 2], [1, 2]), ([3], [3]), ([], []), ([], []), ([5, 6], [5, 6]), ([7], [7]), ([0, 4, 8], [0, 4, 8]), ([9], [9])])
def sym.B5 : List Nat := [0, 0, 0, 6, 14, 0, 0, 96, 224, 511, 1023]
theorem sym.tab5 : rtab .any (opsOf Try.f120 5) = sym.T5 := by kernel_rfl
theorem sym.bits5 : waitsOk sym.T5.2 sym.B5 = true := by kernel_rfl
def sym.T11 : Bool × List (List Nat × List Nat) := (true, [([], []), ([], []), ([], []), ([], []), ([3], [3]), ([], []), ([], []), ([6], [6]), ([5, 7], [5, 7]), ([8], [8]), ([], []), ([], []), ([10, 11], [10, 11]), ([12], [12]), ([0, 1, 0, 1, 5, 6, 7, 8, 9, 13], [0, 1]), ([14, 9, 0, 1, 5, 6, 7, 8, 9, 13], [9, 14]), ([2, 4, 0, 1, 2, 3, 4, 5, 6, 7, 8, 9, 10, 11, 12, 13, 14, 15], [2, 4]), ([16, 13, 15, 0, 1, 2, 3, 4, 5, 6, 7, 8, 9, 10, 11, 12, 13, 14, 15], [13, 16])])
def sym.B11 : List Nat := [0, 0, 0, 0, 8, 0, 0, 64, 224, 480, 0, 0, 3072, 7168, 16355, 32739, 65535, 131071]
theorem sym.tab11 : rtab .any (opsOf Try.f120 11) = sym.T11 := by kernel_rfl
theorem sym.bits11 : waitsOk sym.T11.2 sym.B11 = true := by kernel_rfl
def sym.T17 : Bool × List (List Nat × List Nat) := (true, [([], []), ([], []), ([], []), ([1, 2], [1, 2]), ([3], [3]), ([], []), ([], []), ([5, 6], [5, 6]), ([7], [7]), ([0, 4, 8], [0, 4, 8]), ([9], [9]), ([10], [10])])
def sym.B17 : List Nat := [0, 0, 0, 6, 14, 0, 0, 96, 224, 511, 1023, 2047]
theorem sym.tab17 : rtab .any (opsOf Try.f120 17) = sym.T17 := by kernel_rfl
theorem sym.bits17 : waitsOk sym.T17.2 sym.B17 = true := by kernel_rfl
def sym.T23 : Bool × List (List Nat × List Nat) := (true, [([], []), ([], []), ([], []), ([], []), ([3], [3]), ([], []), ([], []), ([6], [6]), ([5, 7], [5, 7]), ([8], [8]), ([], []), ([], []), ([10, 11], [10, 11]), ([12], [12]), ([0, 1, 0, 1, 5, 6, 7, 8, 9, 13], [0, 1]), ([14, 9, 0, 1, 5, 6, 7, 8, 9, 13], [9, 14]), ([2, 4, 0, 1, 2, 3, 4, 5, 6, 7, 8, 9, 10, 11, 12, 13, 14, 15], [2, 4]), ([16, 13, 15, 0, 1, 2, 3, 4, 5, 6, 7, 8, 9, 10, 11, 12, 13, 14, 15], [13, 16])])
def sym.B23 : List Nat := [0, 0, 0, 0, 8, 0, 0, 64, 224, 480, 0, 0, 3072, 7168, 16355, 32739, 65535, 131071]
theorem sym.tab23 : rtab .any (opsOf Try.f120 23) = sym.T23 := by kernel_rfl
theorem sym.bits23 : waitsOk sym.T23.2 sym.B23 = true := by kernel_rfl
set_option maxHeartbeats 8000000 in
set_option maxRecDepth 100000 in
theorem symL_calls (lt : Rec → Rec → Bool) (ho : Ord lt) (hc : Cmp lt) (N : Nat) (w0 : World) (g : Nat) (hg : N ≤ g) (cp : Nat) (ia im ib n : Nat) (P B Q : List Rec) (x : Rec) (hP : P.length = ia) (hA : ia + 1 = im) (hB1 : im + B.length = ib) (hBs : Sorted lt B) (hn : (P ++ ([x] ++ (B ++ Q))).length = n) (hn2 : n ≤ 1000000) (w : World) (hB : Kp g w0 w) (hR : RowB w g (P ++ ([x] ++ (B ++ Q)))) :
    Calls Try.prog 120 #[.slice (some ⟨g, 0, none⟩) n cp, .int .i64 (ia : Int), .int .i64 (im : Int), .int .i64 (ib : Int), .func (.func 85) #[] #[]] w fun e w' => e = .returned (.tuple #[]) ∧ Kp g w0 w' ∧ RowB w' g (P ++ (mrg lt [x] B ++ Q)) := by
  have HG := Aside0.mk hg
  have HCMP : Aside0 (∀ (W : World) (x y : Rec), Calls Try.prog 85 #[.agg #[.int .i64 x.nr, .int .i64 x.kd, .slice x.A x.n x.c], .agg #[.int .i64 y.nr, .int .i64 y.kd, .slice y.A y.n y.c]] W fun e w' => ∃ r : Int, e = .returned (.int .i64 r) ∧ decide (r < 0) = lt x y ∧ Below W.heap.size W w') := ⟨hc⟩
  have HL : Aside0 (P.length = ia ∧ ia + 1 = im ∧ im + B.length = ib ∧ ib ≤ n ∧ n ≤ 1000000) := ⟨hP, hA, hB1, by rw [← hn]; simp only [List.length_append, List.length_cons, List.length_nil]; omega, hn2⟩
  have HW0 : IntKind.i64.wrap ((im : Int) - (ia : Int)) = 1 := by rw [i64_w]; unfold wrap64; omega
  obtain ⟨dd, hdd⟩ : ∃ dd, dd = P ++ ([x] ++ (B ++ Q)) := ⟨_, rfl⟩
  have HDD := Aside0.mk hdd
  have HDL : Aside0 (dd.length = n) := ⟨by rw [hdd]; exact hn⟩
  have HMO : Aside0 (Mono (fA lt dd x) im ib) := ⟨by
    have := fA_mono ho P [x] B Q x hBs
    rw [← hdd] at this
    rw [show P.length + [x].length = im by simp; omega, hB1] at this
    exact this⟩
  have HX_ia : Aside0 (dd[ia]? = some x) := ⟨by rw [hdd, get_A P [x] B Q ia (by omega) (by simp; omega), show ia - P.length = 0 by omega]; rfl⟩
  have LO_ia := Aside0.mk (eq_true (show (0 : Int) ≤ (ia : Int) by omega))
  have HI_ia : Aside0 (((ia : Int) < (n : Int)) = True) := ⟨eq_true (by have := HL.out; omega)⟩
  rw [← hdd] at hR
  have HR := Aside0.mk hR
  replace hB := Aside0.mk hB
  have HB0 : Aside0 (Bs (fA lt dd x) im ib im ib) := ⟨Bs.init _ _ _ (by omega)⟩
  clear hg ho hc hP hA hB1 hBs hn hn2 hR hdd
  go_enter Try.func120, Try.ntmps120
  go_upto_region 3 with fail
  clear HW0
  go_loopg [10, 11] (ib - im) (fun kq v10 v11 w' => ∃ i j : Nat, v10 = .int .i64 (i : Int) ∧ v11 = .int .i64 (j : Int) ∧ Aside0 (Bs (fA lt dd x) im ib i j) ∧ Aside0 (RowB w' g dd) ∧ Aside0 (Kp g w0 w') ∧ Aside0 (kq + i = j))
  case atStart => exact ⟨im, ib, rfl, rfl, HB0, HR, hB, ⟨by have := HL.out; omega⟩⟩
  case round =>
    clear HB0 HR hB
    obtain ⟨i, j, rfl, rfl, HBS, RR, BB, HQ⟩ := hrel
    by_cases hij : i < j
    case pos =>
      have t1 : decide (i < j) = true := decide_eq_true hij
      have HW1 : IntKind.i64.wrap ((i : Int) + (j : Int)) = ((i + j : Nat) : Int) := by rw [i64_w]; unfold wrap64; have := HL.out; have := HBS.out; unfold Bs at this; omega
      obtain ⟨h, hh⟩ : ∃ h, h = (i + j) / 2 := ⟨_, rfl⟩
      have hb3 := HBS.out
      have hbd : i ≤ h ∧ h < j ∧ j ≤ ib ∧ im ≤ i := by unfold Bs at hb3; omega
      have HMID := Aside0.mk (mid_val i j h hh (by have := HL.out; omega))
      go_upto_region 5 with fail
      rw [HMID.out]
      clear HMID HW1
      obtain ⟨y, hy⟩ : ∃ y, dd[h]? = some y := some_of dd h (by rw [HDL.out]; have := HL.out; omega)
      have HX_h := Aside0.mk hy
      have LO_h := Aside0.mk (eq_true (show (0 : Int) ≤ (h : Int) by omega))
      have HI_h : Aside0 (((h : Int) < (n : Int)) = True) := ⟨eq_true (by have := HL.out; omega)⟩
      have B0 := Aside0.mk (kp_drew BB.out)
      have R0 := Aside0.mk (RowB.below RR.out (below_drew1 (Below.refl wr.heap.size wr)))
      have HBD := Aside0.mk (And.intro hbd hij)
      have hf := fA_at (lt := lt) (x := x) hy
      clear t1 RR BB hb3 hbd hij hh hy
      cases htv : lt y x with
      | true =>
        have HTV := Aside0.mk htv
        have HB2 := Aside0.mk (HBS.out.up HMO.out HBD.out.1.1 HBD.out.1.2.1 (by rw [hf, htv]))
        clear htv hf
        refine start_ (n := 11) (S := fun w' => True) (ds := []) #[false, false, false, false, false, false, false, false, false, false, false] (by kernel_rfl) rfl rfl trivial (fun hHeld => ?_)
        refine with_tabW sym.tab5 sym.bits5 (fun HT_ HW_ => ?_)
        generalize wr.drew = wq at B0 R0 hHeld ⊢
        refine inv_at [0, 1, 2, 3, 4, 5, 6, 7, 8, 9, 10] (fun a0_ b a w' => ∃ (rv : Value), a = putSel a0_ b [(0, 40, .func (.func 85) #[] #[]), (1, 41, .slice (some ⟨g, 0, none⟩) n cp), (2, 42, .int .i64 (h : Int)), (3, 43, .pointer (some ⟨g, h * 3, none⟩)), (4, 44, .agg #[.int .i64 y.nr, .int .i64 y.kd, .slice y.A y.n y.c]), (5, 45, .slice (some ⟨g, 0, none⟩) n cp), (6, 46, .int .i64 (ia : Int)), (7, 47, .pointer (some ⟨g, ia * 3, none⟩)), (8, 48, .agg #[.int .i64 x.nr, .int .i64 x.kd, .slice x.A x.n x.c]), (9, 49, rv), (10, 50, .bool true)] ∧ (Kp g w0 w') ∧ (RowB w' g dd) ∧ (b 9 = true → ∃ r_ : Int, rv = .int .i64 r_ ∧ decide (r_ < 0) = true)) HT_.out HW_.out (by kernel_rfl) (by kernel_rfl) ?_ ?_ ?_
        · exact ⟨.bool false, by simp only [putSel, Bool.false_eq_true, if_false], B0.out, R0.out, fun h_ => absurd h_ (by decide)⟩
        · skip
          clear B0 R0
          refine steps_cons ?_ ?_
          · rintro b a w' ⟨rv, ha, Q_B0, Q_R0, Q_HRV⟩ hb_ hon hoff
            refine ⟨_, rfl, fun K hK => ?_⟩
            have e4 : a.tmps[4]? = some (.func (.func 85) #[] #[]) := by rw [ha]; exact (putSel_off rfl).trans rfl
            replace ha := Aside0.mk ha
            have B0 := Aside0.mk Q_B0
            have R0 := Aside0.mk Q_R0
            refine value_ (w1 := w') (v := .func (.func 85) #[] #[]) (by rfl) rfl ?_ ?_
            · go_simp
              (try simp only [i64_w])
              try rfl
            refine hK.out _ _ ⟨rv, (by rw [ha.out]; exact putSel_upk 0 hb_ rfl rfl rfl), Q_B0, Q_R0, fun h0_ => absurd ((hoff 9 (by kernel_rfl)).symm.trans h0_) (by decide)⟩
          refine steps_cons ?_ ?_
          · rintro b a w' ⟨rv, ha, Q_B0, Q_R0, Q_HRV⟩ hb_ hon hoff
            refine ⟨_, rfl, fun K hK => ?_⟩
            have e0 : a.tmps[0]? = some (.slice (some ⟨g, 0, none⟩) n cp) := by rw [ha]; exact (putSel_off rfl).trans rfl
            replace ha := Aside0.mk ha
            have B0 := Aside0.mk Q_B0
            have R0 := Aside0.mk Q_R0
            refine value_ (w1 := w') (v := .slice (some ⟨g, 0, none⟩) n cp) (by rfl) rfl ?_ ?_
            · go_simp
              (try simp only [i64_w])
              try rfl
            refine hK.out _ _ ⟨rv, (by rw [ha.out]; exact putSel_upk 1 hb_ rfl rfl rfl), Q_B0, Q_R0, fun h0_ => absurd ((hoff 9 (by kernel_rfl)).symm.trans h0_) (by decide)⟩
          refine steps_cons ?_ ?_
          · rintro b a w' ⟨rv, ha, Q_B0, Q_R0, Q_HRV⟩ hb_ hon hoff
            refine ⟨_, rfl, fun K hK => ?_⟩
            have e12 : a.tmps[12]? = some (.int .i64 (h : Int)) := by rw [ha]; exact (putSel_off rfl).trans rfl
            replace ha := Aside0.mk ha
            have B0 := Aside0.mk Q_B0
            have R0 := Aside0.mk Q_R0
            refine value_ (w1 := w') (v := .int .i64 (h : Int)) (by rfl) rfl ?_ ?_
            · go_simp
              (try simp only [i64_w])
              try rfl
            refine hK.out _ _ ⟨rv, (by rw [ha.out]; exact putSel_upk 2 hb_ rfl rfl rfl), Q_B0, Q_R0, fun h0_ => absurd ((hoff 9 (by kernel_rfl)).symm.trans h0_) (by decide)⟩
          refine steps_cons ?_ ?_
          · rintro b a w' ⟨rv, ha, Q_B0, Q_R0, Q_HRV⟩ hb_ hon hoff
            refine ⟨_, rfl, fun K hK => ?_⟩
            have e41 : a.tmps[41]? = some (.slice (some ⟨g, 0, none⟩) n cp) := by rw [ha]; exact putSel_on (e := (1, 41, .slice (some ⟨g, 0, none⟩) n cp)) 1 rfl rfl (hon 1 (by kernel_rfl)) rfl
            have e42 : a.tmps[42]? = some (.int .i64 (h : Int)) := by rw [ha]; exact putSel_on (e := (2, 42, .int .i64 (h : Int))) 2 rfl rfl (hon 2 (by kernel_rfl)) rfl
            replace ha := Aside0.mk ha
            have B0 := Aside0.mk Q_B0
            have R0 := Aside0.mk Q_R0
            have p1_ := LO_h.out
            have q1_ := HI_h.out
            refine value_ (w1 := w') (v := .pointer (some ⟨g, h * 3, none⟩)) (by rfl) rfl ?_ ?_
            · go_simp
              (try simp only [i64_w])
              try rfl
            refine hK.out _ _ ⟨rv, (by rw [ha.out]; exact putSel_upk 3 hb_ rfl rfl rfl), Q_B0, Q_R0, fun h0_ => absurd ((hoff 9 (by kernel_rfl)).symm.trans h0_) (by decide)⟩
          refine steps_cons ?_ ?_
          · rintro b a w' ⟨rv, ha, Q_B0, Q_R0, Q_HRV⟩ hb_ hon hoff
            refine ⟨_, rfl, fun K hK => ?_⟩
            have e43 : a.tmps[43]? = some (.pointer (some ⟨g, h * 3, none⟩)) := by rw [ha]; exact putSel_on (e := (3, 43, .pointer (some ⟨g, h * 3, none⟩))) 3 rfl rfl (hon 3 (by kernel_rfl)) rfl
            replace ha := Aside0.mk ha
            have B0 := Aside0.mk Q_B0
            have R0 := Aside0.mk Q_R0
            have cs_ := R0.out.cells HX_h.out
            refine value_ (w1 := w') (v := .agg #[.int .i64 y.nr, .int .i64 y.kd, .slice y.A y.n y.c]) (by rfl) rfl ?_ ?_
            · go_simp
              (try simp only [i64_w])
              try rfl
            refine hK.out _ _ ⟨rv, (by rw [ha.out]; exact putSel_upk 4 hb_ rfl rfl rfl), Q_B0, Q_R0, fun h0_ => absurd ((hoff 9 (by kernel_rfl)).symm.trans h0_) (by decide)⟩
          refine steps_cons ?_ ?_
          · rintro b a w' ⟨rv, ha, Q_B0, Q_R0, Q_HRV⟩ hb_ hon hoff
            refine ⟨_, rfl, fun K hK => ?_⟩
            have e0 : a.tmps[0]? = some (.slice (some ⟨g, 0, none⟩) n cp) := by rw [ha]; exact (putSel_off rfl).trans rfl
            replace ha := Aside0.mk ha
            have B0 := Aside0.mk Q_B0
            have R0 := Aside0.mk Q_R0
            refine value_ (w1 := w') (v := .slice (some ⟨g, 0, none⟩) n cp) (by rfl) rfl ?_ ?_
            · go_simp
              (try simp only [i64_w])
              try rfl
            refine hK.out _ _ ⟨rv, (by rw [ha.out]; exact putSel_upk 5 hb_ rfl rfl rfl), Q_B0, Q_R0, fun h0_ => absurd ((hoff 9 (by kernel_rfl)).symm.trans h0_) (by decide)⟩
          refine steps_cons ?_ ?_
          · rintro b a w' ⟨rv, ha, Q_B0, Q_R0, Q_HRV⟩ hb_ hon hoff
            refine ⟨_, rfl, fun K hK => ?_⟩
            have e1 : a.tmps[1]? = some (.int .i64 (ia : Int)) := by rw [ha]; exact (putSel_off rfl).trans rfl
            replace ha := Aside0.mk ha
            have B0 := Aside0.mk Q_B0
            have R0 := Aside0.mk Q_R0
            refine value_ (w1 := w') (v := .int .i64 (ia : Int)) (by rfl) rfl ?_ ?_
            · go_simp
              (try simp only [i64_w])
              try rfl
            refine hK.out _ _ ⟨rv, (by rw [ha.out]; exact putSel_upk 6 hb_ rfl rfl rfl), Q_B0, Q_R0, fun h0_ => absurd ((hoff 9 (by kernel_rfl)).symm.trans h0_) (by decide)⟩
          refine steps_cons ?_ ?_
          · rintro b a w' ⟨rv, ha, Q_B0, Q_R0, Q_HRV⟩ hb_ hon hoff
            refine ⟨_, rfl, fun K hK => ?_⟩
            have e45 : a.tmps[45]? = some (.slice (some ⟨g, 0, none⟩) n cp) := by rw [ha]; exact putSel_on (e := (5, 45, .slice (some ⟨g, 0, none⟩) n cp)) 5 rfl rfl (hon 5 (by kernel_rfl)) rfl
            have e46 : a.tmps[46]? = some (.int .i64 (ia : Int)) := by rw [ha]; exact putSel_on (e := (6, 46, .int .i64 (ia : Int))) 6 rfl rfl (hon 6 (by kernel_rfl)) rfl
            replace ha := Aside0.mk ha
            have B0 := Aside0.mk Q_B0
            have R0 := Aside0.mk Q_R0
            have p1_ := LO_ia.out
            have q1_ := HI_ia.out
            refine value_ (w1 := w') (v := .pointer (some ⟨g, ia * 3, none⟩)) (by rfl) rfl ?_ ?_
            · go_simp
              (try simp only [i64_w])
              try rfl
            refine hK.out _ _ ⟨rv, (by rw [ha.out]; exact putSel_upk 7 hb_ rfl rfl rfl), Q_B0, Q_R0, fun h0_ => absurd ((hoff 9 (by kernel_rfl)).symm.trans h0_) (by decide)⟩
          refine steps_cons ?_ ?_
          · rintro b a w' ⟨rv, ha, Q_B0, Q_R0, Q_HRV⟩ hb_ hon hoff
            refine ⟨_, rfl, fun K hK => ?_⟩
            have e47 : a.tmps[47]? = some (.pointer (some ⟨g, ia * 3, none⟩)) := by rw [ha]; exact putSel_on (e := (7, 47, .pointer (some ⟨g, ia * 3, none⟩))) 7 rfl rfl (hon 7 (by kernel_rfl)) rfl
            replace ha := Aside0.mk ha
            have B0 := Aside0.mk Q_B0
            have R0 := Aside0.mk Q_R0
            have cs_ := R0.out.cells HX_ia.out
            refine value_ (w1 := w') (v := .agg #[.int .i64 x.nr, .int .i64 x.kd, .slice x.A x.n x.c]) (by rfl) rfl ?_ ?_
            · go_simp
              (try simp only [i64_w])
              try rfl
            refine hK.out _ _ ⟨rv, (by rw [ha.out]; exact putSel_upk 8 hb_ rfl rfl rfl), Q_B0, Q_R0, fun h0_ => absurd ((hoff 9 (by kernel_rfl)).symm.trans h0_) (by decide)⟩
          refine steps_cons ?_ ?_
          · rintro b a w' ⟨rv, ha, Q_B0, Q_R0, Q_HRV⟩ hb_ hon hoff
            refine ⟨_, rfl, fun K hK => ?_⟩
            have e40 : a.tmps[40]? = some (.func (.func 85) #[] #[]) := by rw [ha]; exact putSel_on (e := (0, 40, .func (.func 85) #[] #[])) 0 rfl rfl (hon 0 (by kernel_rfl)) rfl
            have e44 : a.tmps[44]? = some (.agg #[.int .i64 y.nr, .int .i64 y.kd, .slice y.A y.n y.c]) := by rw [ha]; exact putSel_on (e := (4, 44, .agg #[.int .i64 y.nr, .int .i64 y.kd, .slice y.A y.n y.c])) 4 rfl rfl (hon 4 (by kernel_rfl)) rfl
            have e48 : a.tmps[48]? = some (.agg #[.int .i64 x.nr, .int .i64 x.kd, .slice x.A x.n x.c]) := by rw [ha]; exact putSel_on (e := (8, 48, .agg #[.int .i64 x.nr, .int .i64 x.kd, .slice x.A x.n x.c])) 8 rfl rfl (hon 8 (by kernel_rfl)) rfl
            replace ha := Aside0.mk ha
            have B0 := Aside0.mk Q_B0
            have R0 := Aside0.mk Q_R0
            refine goesv_ (t := 40) Try.func85 (by kernel_rfl) rfl #[.agg #[.int .i64 y.nr, .int .i64 y.kd, .slice y.A y.n y.c], .agg #[.int .i64 x.nr, .int .i64 x.kd, .slice x.A x.n x.c]] (by rfl) rfl rfl e40 (by first | (simp only [List.map_toArray, List.map_cons, List.map_nil, Act.eval, Array.getD_eq_getD_getElem?, Option.getD_some, e40, e44, e48]; done) | (simp only [List.map_toArray, List.map_cons, List.map_nil, Act.eval, Array.getD_eq_getD_getElem?, Option.getD_some, e40, e44, e48]; rfl)) ?_
            with_reducible refine (HCMP.out w' y x).mono ?_
            rintro e w2 ⟨r_, rfl, hr_, hb⟩
            refine ⟨_, rfl, ?_⟩
            refine hK.out _ _ ⟨.int .i64 r_, (by rw [ha.out]; exact putSel_upk 9 hb_ rfl rfl rfl), below_row B0.out HG.out R0.out hb, RowB.below R0.out hb, fun _ => ⟨r_, rfl, hr_.trans HTV.out⟩⟩
          refine steps_cons ?_ ?_
          · rintro b a w' ⟨rv, ha, Q_B0, Q_R0, Q_HRV⟩ hb_ hon hoff
            refine ⟨_, rfl, fun K hK => ?_⟩
            have e49 : a.tmps[49]? = some (rv) := by rw [ha]; exact putSel_on (e := (9, 49, rv)) 9 rfl rfl (hon 9 (by kernel_rfl)) rfl
            replace ha := Aside0.mk ha
            have B0 := Aside0.mk Q_B0
            have R0 := Aside0.mk Q_R0
            have HRV := Aside0.mk (Q_HRV (hon 9 (by kernel_rfl)))
            obtain ⟨r_, hr1_, hr2_⟩ := HRV.out
            rw [hr1_] at e49
            refine value_ (w1 := w') (v := .bool true) (by rfl) rfl ?_ ?_
            · go_simp
              (try simp only [i64_w])
              try rfl
            refine hK.out _ _ ⟨rv, (by rw [ha.out]; exact putSel_upk 10 hb_ rfl rfl rfl), Q_B0, Q_R0, Q_HRV⟩
          exact steps_nil
        rintro b a wl hall ⟨rv, ha, Q_B0, Q_R0, Q_HRV⟩
        clear B0 R0
        have hb0_ := hall 0 (by kernel_rfl)
        have hb1_ := hall 1 (by kernel_rfl)
        have hb2_ := hall 2 (by kernel_rfl)
        have hb3_ := hall 3 (by kernel_rfl)
        have hb4_ := hall 4 (by kernel_rfl)
        have hb5_ := hall 5 (by kernel_rfl)
        have hb6_ := hall 6 (by kernel_rfl)
        have hb7_ := hall 7 (by kernel_rfl)
        have hb8_ := hall 8 (by kernel_rfl)
        have hb9_ := hall 9 (by kernel_rfl)
        have hb10_ := hall 10 (by kernel_rfl)
        subst ha
        simp only [putSel, hb0_, hb1_, hb2_, hb3_, hb4_, hb5_, hb6_, hb7_, hb8_, hb9_, hb10_, if_true, Act.put, List.setIfInBounds_toArray, List.set_cons_zero, List.set_cons_succ]
        have B0 := Aside0.mk Q_B0
        clear Q_B0
        have R0 := Aside0.mk Q_R0
        clear Q_R0
        have HRV := Aside0.mk (Q_HRV hb9_)
        clear Q_HRV
        clear hall hb0_ hb1_ hb2_ hb3_ hb4_ hb5_ hb6_ hb7_ hb8_ hb9_ hb10_
        clear HRV
        go_wp2_with fail
        go_roundg (j - (h + 1))
        case measure => have := HQ.out; have := HBD.out; omega
        case rel => exact ⟨h + 1, j, by first | rfl | (simp; unfold wrap64; have := HBD.out; have := HL.out; omega), by first | rfl | (simp; unfold wrap64; have := HBD.out; have := HL.out; omega), HB2, R0, B0, ⟨by have := HBD.out; omega⟩⟩
      | false =>
        have HTV := Aside0.mk htv
        have HB2 := Aside0.mk (HBS.out.down HMO.out HBD.out.1.1 HBD.out.1.2.1 (by rw [hf, htv]))
        clear htv hf
        refine start_ (n := 11) (S := fun w' => True) (ds := []) #[false, false, false, false, false, false, false, false, false, false, false] (by kernel_rfl) rfl rfl trivial (fun hHeld => ?_)
        refine with_tabW sym.tab5 sym.bits5 (fun HT_ HW_ => ?_)
        generalize wr.drew = wq at B0 R0 hHeld ⊢
        refine inv_at [0, 1, 2, 3, 4, 5, 6, 7, 8, 9, 10] (fun a0_ b a w' => ∃ (rv : Value), a = putSel a0_ b [(0, 40, .func (.func 85) #[] #[]), (1, 41, .slice (some ⟨g, 0, none⟩) n cp), (2, 42, .int .i64 (h : Int)), (3, 43, .pointer (some ⟨g, h * 3, none⟩)), (4, 44, .agg #[.int .i64 y.nr, .int .i64 y.kd, .slice y.A y.n y.c]), (5, 45, .slice (some ⟨g, 0, none⟩) n cp), (6, 46, .int .i64 (ia : Int)), (7, 47, .pointer (some ⟨g, ia * 3, none⟩)), (8, 48, .agg #[.int .i64 x.nr, .int .i64 x.kd, .slice x.A x.n x.c]), (9, 49, rv), (10, 50, .bool false)] ∧ (Kp g w0 w') ∧ (RowB w' g dd) ∧ (b 9 = true → ∃ r_ : Int, rv = .int .i64 r_ ∧ decide (r_ < 0) = false)) HT_.out HW_.out (by kernel_rfl) (by kernel_rfl) ?_ ?_ ?_
        · exact ⟨.bool false, by simp only [putSel, Bool.false_eq_true, if_false], B0.out, R0.out, fun h_ => absurd h_ (by decide)⟩
        · skip
          clear B0 R0
          refine steps_cons ?_ ?_
          · rintro b a w' ⟨rv, ha, Q_B0, Q_R0, Q_HRV⟩ hb_ hon hoff
            refine ⟨_, rfl, fun K hK => ?_⟩
            have e4 : a.tmps[4]? = some (.func (.func 85) #[] #[]) := by rw [ha]; exact (putSel_off rfl).trans rfl
            replace ha := Aside0.mk ha
            have B0 := Aside0.mk Q_B0
            have R0 := Aside0.mk Q_R0
            refine value_ (w1 := w') (v := .func (.func 85) #[] #[]) (by rfl) rfl ?_ ?_
            · go_simp
              (try simp only [i64_w])
              try rfl
            refine hK.out _ _ ⟨rv, (by rw [ha.out]; exact putSel_upk 0 hb_ rfl rfl rfl), Q_B0, Q_R0, fun h0_ => absurd ((hoff 9 (by kernel_rfl)).symm.trans h0_) (by decide)⟩
          refine steps_cons ?_ ?_
          · rintro b a w' ⟨rv, ha, Q_B0, Q_R0, Q_HRV⟩ hb_ hon hoff
            refine ⟨_, rfl, fun K hK => ?_⟩
            have e0 : a.tmps[0]? = some (.slice (some ⟨g, 0, none⟩) n cp) := by rw [ha]; exact (putSel_off rfl).trans rfl
            replace ha := Aside0.mk ha
            have B0 := Aside0.mk Q_B0
            have R0 := Aside0.mk Q_R0
            refine value_ (w1 := w') (v := .slice (some ⟨g, 0, none⟩) n cp) (by rfl) rfl ?_ ?_
            · go_simp
              (try simp only [i64_w])
              try rfl
            refine hK.out _ _ ⟨rv, (by rw [ha.out]; exact putSel_upk 1 hb_ rfl rfl rfl), Q_B0, Q_R0, fun h0_ => absurd ((hoff 9 (by kernel_rfl)).symm.trans h0_) (by decide)⟩
          refine steps_cons ?_ ?_
          · rintro b a w' ⟨rv, ha, Q_B0, Q_R0, Q_HRV⟩ hb_ hon hoff
            refine ⟨_, rfl, fun K hK => ?_⟩
            have e12 : a.tmps[12]? = some (.int .i64 (h : Int)) := by rw [ha]; exact (putSel_off rfl).trans rfl
            replace ha := Aside0.mk ha
            have B0 := Aside0.mk Q_B0
            have R0 := Aside0.mk Q_R0
            refine value_ (w1 := w') (v := .int .i64 (h : Int)) (by rfl) rfl ?_ ?_
            · go_simp
              (try simp only [i64_w])
              try rfl
            refine hK.out _ _ ⟨rv, (by rw [ha.out]; exact putSel_upk 2 hb_ rfl rfl rfl), Q_B0, Q_R0, fun h0_ => absurd ((hoff 9 (by kernel_rfl)).symm.trans h0_) (by decide)⟩
          refine steps_cons ?_ ?_
          · rintro b a w' ⟨rv, ha, Q_B0, Q_R0, Q_HRV⟩ hb_ hon hoff
            refine ⟨_, rfl, fun K hK => ?_⟩
            have e41 : a.tmps[41]? = some (.slice (some ⟨g, 0, none⟩) n cp) := by rw [ha]; exact putSel_on (e := (1, 41, .slice (some ⟨g, 0, none⟩) n cp)) 1 rfl rfl (hon 1 (by kernel_rfl)) rfl
            have e42 : a.tmps[42]? = some (.int .i64 (h : Int)) := by rw [ha]; exact putSel_on (e := (2, 42, .int .i64 (h : Int))) 2 rfl rfl (hon 2 (by kernel_rfl)) rfl
            replace ha := Aside0.mk ha
            have B0 := Aside0.mk Q_B0
            have R0 := Aside0.mk Q_R0
            have p1_ := LO_h.out
            have q1_ := HI_h.out
            refine value_ (w1 := w') (v := .pointer (some ⟨g, h * 3, none⟩)) (by rfl) rfl ?_ ?_
            · go_simp
              (try simp only [i64_w])
              try rfl
            refine hK.out _ _ ⟨rv, (by rw [ha.out]; exact putSel_upk 3 hb_ rfl rfl rfl), Q_B0, Q_R0, fun h0_ => absurd ((hoff 9 (by kernel_rfl)).symm.trans h0_) (by decide)⟩
          refine steps_cons ?_ ?_
          · rintro b a w' ⟨rv, ha, Q_B0, Q_R0, Q_HRV⟩ hb_ hon hoff
            refine ⟨_, rfl, fun K hK => ?_⟩
            have e43 : a.tmps[43]? = some (.pointer (some ⟨g, h * 3, none⟩)) := by rw [ha]; exact putSel_on (e := (3, 43, .pointer (some ⟨g, h * 3, none⟩))) 3 rfl rfl (hon 3 (by kernel_rfl)) rfl
            replace ha := Aside0.mk ha
            have B0 := Aside0.mk Q_B0
            have R0 := Aside0.mk Q_R0
            have cs_ := R0.out.cells HX_h.out
            refine value_ (w1 := w') (v := .agg #[.int .i64 y.nr, .int .i64 y.kd, .slice y.A y.n y.c]) (by rfl) rfl ?_ ?_
            · go_simp
              (try simp only [i64_w])
              try rfl
            refine hK.out _ _ ⟨rv, (by rw [ha.out]; exact putSel_upk 4 hb_ rfl rfl rfl), Q_B0, Q_R0, fun h0_ => absurd ((hoff 9 (by kernel_rfl)).symm.trans h0_) (by decide)⟩
          refine steps_cons ?_ ?_
          · rintro b a w' ⟨rv, ha, Q_B0, Q_R0, Q_HRV⟩ hb_ hon hoff
            refine ⟨_, rfl, fun K hK => ?_⟩
            have e0 : a.tmps[0]? = some (.slice (some ⟨g, 0, none⟩) n cp) := by rw [ha]; exact (putSel_off rfl).trans rfl
            replace ha := Aside0.mk ha
            have B0 := Aside0.mk Q_B0
            have R0 := Aside0.mk Q_R0
            refine value_ (w1 := w') (v := .slice (some ⟨g, 0, none⟩) n cp) (by rfl) rfl ?_ ?_
            · go_simp
              (try simp only [i64_w])
              try rfl
            refine hK.out _ _ ⟨rv, (by rw [ha.out]; exact putSel_upk 5 hb_ rfl rfl rfl), Q_B0, Q_R0, fun h0_ => absurd ((hoff 9 (by kernel_rfl)).symm.trans h0_) (by decide)⟩
          refine steps_cons ?_ ?_
          · rintro b a w' ⟨rv, ha, Q_B0, Q_R0, Q_HRV⟩ hb_ hon hoff
            refine ⟨_, rfl, fun K hK => ?_⟩
            have e1 : a.tmps[1]? = some (.int .i64 (ia : Int)) := by rw [ha]; exact (putSel_off rfl).trans rfl
            replace ha := Aside0.mk ha
            have B0 := Aside0.mk Q_B0
            have R0 := Aside0.mk Q_R0
            refine value_ (w1 := w') (v := .int .i64 (ia : Int)) (by rfl) rfl ?_ ?_
            · go_simp
              (try simp only [i64_w])
              try rfl
            refine hK.out _ _ ⟨rv, (by rw [ha.out]; exact putSel_upk 6 hb_ rfl rfl rfl), Q_B0, Q_R0, fun h0_ => absurd ((hoff 9 (by kernel_rfl)).symm.trans h0_) (by decide)⟩
          refine steps_cons ?_ ?_
          · rintro b a w' ⟨rv, ha, Q_B0, Q_R0, Q_HRV⟩ hb_ hon hoff
            refine ⟨_, rfl, fun K hK => ?_⟩
            have e45 : a.tmps[45]? = some (.slice (some ⟨g, 0, none⟩) n cp) := by rw [ha]; exact putSel_on (e := (5, 45, .slice (some ⟨g, 0, none⟩) n cp)) 5 rfl rfl (hon 5 (by kernel_rfl)) rfl
            have e46 : a.tmps[46]? = some (.int .i64 (ia : Int)) := by rw [ha]; exact putSel_on (e := (6, 46, .int .i64 (ia : Int))) 6 rfl rfl (hon 6 (by kernel_rfl)) rfl
            replace ha := Aside0.mk ha
            have B0 := Aside0.mk Q_B0
            have R0 := Aside0.mk Q_R0
            have p1_ := LO_ia.out
            have q1_ := HI_ia.out
            refine value_ (w1 := w') (v := .pointer (some ⟨g, ia * 3, none⟩)) (by rfl) rfl ?_ ?_
            · go_simp
              (try simp only [i64_w])
              try rfl
            refine hK.out _ _ ⟨rv, (by rw [ha.out]; exact putSel_upk 7 hb_ rfl rfl rfl), Q_B0, Q_R0, fun h0_ => absurd ((hoff 9 (by kernel_rfl)).symm.trans h0_) (by decide)⟩
          refine steps_cons ?_ ?_
          · rintro b a w' ⟨rv, ha, Q_B0, Q_R0, Q_HRV⟩ hb_ hon hoff
            refine ⟨_, rfl, fun K hK => ?_⟩
            have e47 : a.tmps[47]? = some (.pointer (some ⟨g, ia * 3, none⟩)) := by rw [ha]; exact putSel_on (e := (7, 47, .pointer (some ⟨g, ia * 3, none⟩))) 7 rfl rfl (hon 7 (by kernel_rfl)) rfl
            replace ha := Aside0.mk ha
            have B0 := Aside0.mk Q_B0
            have R0 := Aside0.mk Q_R0
            have cs_ := R0.out.cells HX_ia.out
            refine value_ (w1 := w') (v := .agg #[.int .i64 x.nr, .int .i64 x.kd, .slice x.A x.n x.c]) (by rfl) rfl ?_ ?_
            · go_simp
              (try simp only [i64_w])
              try rfl
            refine hK.out _ _ ⟨rv, (by rw [ha.out]; exact putSel_upk 8 hb_ rfl rfl rfl), Q_B0, Q_R0, fun h0_ => absurd ((hoff 9 (by kernel_rfl)).symm.trans h0_) (by decide)⟩
          refine steps_cons ?_ ?_
          · rintro b a w' ⟨rv, ha, Q_B0, Q_R0, Q_HRV⟩ hb_ hon hoff
            refine ⟨_, rfl, fun K hK => ?_⟩
            have e40 : a.tmps[40]? = some (.func (.func 85) #[] #[]) := by rw [ha]; exact putSel_on (e := (0, 40, .func (.func 85) #[] #[])) 0 rfl rfl (hon 0 (by kernel_rfl)) rfl
            have e44 : a.tmps[44]? = some (.agg #[.int .i64 y.nr, .int .i64 y.kd, .slice y.A y.n y.c]) := by rw [ha]; exact putSel_on (e := (4, 44, .agg #[.int .i64 y.nr, .int .i64 y.kd, .slice y.A y.n y.c])) 4 rfl rfl (hon 4 (by kernel_rfl)) rfl
            have e48 : a.tmps[48]? = some (.agg #[.int .i64 x.nr, .int .i64 x.kd, .slice x.A x.n x.c]) := by rw [ha]; exact putSel_on (e := (8, 48, .agg #[.int .i64 x.nr, .int .i64 x.kd, .slice x.A x.n x.c])) 8 rfl rfl (hon 8 (by kernel_rfl)) rfl
            replace ha := Aside0.mk ha
            have B0 := Aside0.mk Q_B0
            have R0 := Aside0.mk Q_R0
            refine goesv_ (t := 40) Try.func85 (by kernel_rfl) rfl #[.agg #[.int .i64 y.nr, .int .i64 y.kd, .slice y.A y.n y.c], .agg #[.int .i64 x.nr, .int .i64 x.kd, .slice x.A x.n x.c]] (by rfl) rfl rfl e40 (by first | (simp only [List.map_toArray, List.map_cons, List.map_nil, Act.eval, Array.getD_eq_getD_getElem?, Option.getD_some, e40, e44, e48]; done) | (simp only [List.map_toArray, List.map_cons, List.map_nil, Act.eval, Array.getD_eq_getD_getElem?, Option.getD_some, e40, e44, e48]; rfl)) ?_
            with_reducible refine (HCMP.out w' y x).mono ?_
            rintro e w2 ⟨r_, rfl, hr_, hb⟩
            refine ⟨_, rfl, ?_⟩
            refine hK.out _ _ ⟨.int .i64 r_, (by rw [ha.out]; exact putSel_upk 9 hb_ rfl rfl rfl), below_row B0.out HG.out R0.out hb, RowB.below R0.out hb, fun _ => ⟨r_, rfl, hr_.trans HTV.out⟩⟩
          refine steps_cons ?_ ?_
          · rintro b a w' ⟨rv, ha, Q_B0, Q_R0, Q_HRV⟩ hb_ hon hoff
            refine ⟨_, rfl, fun K hK => ?_⟩
            have e49 : a.tmps[49]? = some (rv) := by rw [ha]; exact putSel_on (e := (9, 49, rv)) 9 rfl rfl (hon 9 (by kernel_rfl)) rfl
            replace ha := Aside0.mk ha
            have B0 := Aside0.mk Q_B0
            have R0 := Aside0.mk Q_R0
            have HRV := Aside0.mk (Q_HRV (hon 9 (by kernel_rfl)))
            obtain ⟨r_, hr1_, hr2_⟩ := HRV.out
            rw [hr1_] at e49
            refine value_ (w1 := w') (v := .bool false) (by rfl) rfl ?_ ?_
            · go_simp
              (try simp only [i64_w])
              try rfl
            refine hK.out _ _ ⟨rv, (by rw [ha.out]; exact putSel_upk 10 hb_ rfl rfl rfl), Q_B0, Q_R0, Q_HRV⟩
          exact steps_nil
        rintro b a wl hall ⟨rv, ha, Q_B0, Q_R0, Q_HRV⟩
        clear B0 R0
        have hb0_ := hall 0 (by kernel_rfl)
        have hb1_ := hall 1 (by kernel_rfl)
        have hb2_ := hall 2 (by kernel_rfl)
        have hb3_ := hall 3 (by kernel_rfl)
        have hb4_ := hall 4 (by kernel_rfl)
        have hb5_ := hall 5 (by kernel_rfl)
        have hb6_ := hall 6 (by kernel_rfl)
        have hb7_ := hall 7 (by kernel_rfl)
        have hb8_ := hall 8 (by kernel_rfl)
        have hb9_ := hall 9 (by kernel_rfl)
        have hb10_ := hall 10 (by kernel_rfl)
        subst ha
        simp only [putSel, hb0_, hb1_, hb2_, hb3_, hb4_, hb5_, hb6_, hb7_, hb8_, hb9_, hb10_, if_true, Act.put, List.setIfInBounds_toArray, List.set_cons_zero, List.set_cons_succ]
        have B0 := Aside0.mk Q_B0
        clear Q_B0
        have R0 := Aside0.mk Q_R0
        clear Q_R0
        have HRV := Aside0.mk (Q_HRV hb9_)
        clear Q_HRV
        clear hall hb0_ hb1_ hb2_ hb3_ hb4_ hb5_ hb6_ hb7_ hb8_ hb9_ hb10_
        clear HRV
        go_wp2_with fail
        go_roundg (h - i)
        case measure => have := HQ.out; have := HBD.out; omega
        case rel => exact ⟨i, h, by first | rfl | (simp; unfold wrap64; have := HBD.out; have := HL.out; omega), by first | rfl | (simp; unfold wrap64; have := HBD.out; have := HL.out; omega), HB2, R0, B0, ⟨by have := HBD.out; omega⟩⟩
    case neg =>
      have hie : i = j := by have := HBS.out; unfold Bs at this; omega
      subst hie
      have t1 : decide (i < i) = false := decide_eq_false (by omega)
      obtain ⟨i1, hi1⟩ : ∃ i1, i1 = i - 1 := ⟨_, rfl⟩
      have hbd : im ≤ i ∧ i ≤ ib := by have := HBS.out; unfold Bs at this; omega
      have HW2 : IntKind.i64.wrap ((i : Int) - 1) = (i1 : Int) := by rw [i64_w]; unfold wrap64; have := HL.out; omega
      have HBD := Aside0.mk (And.intro hbd hi1)
      have HEND : Aside0 (P ++ (B.take (i1 - ia) ++ (x :: (B.drop (i1 - ia) ++ Q))) = P ++ (mrg lt [x] B ++ Q)) := ⟨by
        have hb := HBS.out
        rw [HDD.out, show im = P.length + 1 by have := HL.out; omega, show ib = P.length + 1 + B.length by have := HL.out; omega] at hb
        have := one_left_end P B Q x i hb
        rw [show i - (P.length + 1) = i1 - ia by have := HL.out; omega] at this
        exact this⟩
      have RK : Aside0 (RowB wr g (P ++ (B.take (ia - ia) ++ (x :: (B.drop (ia - ia) ++ Q))))) := ⟨by rw [Nat.sub_self, shift_zero]; have := RR.out; rw [HDD.out] at this; exact this⟩
      clear hij hi1 hbd HBS RR HX_ia LO_ia HI_ia HMO
      go_upto_region 9 with fail
      clear HW2
      go_loopg [13] (i1 - ia) (fun kq v13 w' => ∃ k : Nat, v13 = .int .i64 (k : Int) ∧ Aside0 (ia ≤ k ∧ k ≤ i1) ∧ Aside0 (RowB w' g (P ++ (B.take (k - ia) ++ (x :: (B.drop (k - ia) ++ Q))))) ∧ Aside0 (Kp g w0 w') ∧ Aside0 (kq + k = i1))
      case atStart => exact ⟨ia, rfl, ⟨by have := HBD.out; have := HL.out; omega⟩, RK, BB, ⟨by have := HBD.out; have := HL.out; omega⟩⟩
      case round =>
      clear RK BB
      obtain ⟨k, rfl, HK, RK, BB, HQK⟩ := hrel
      have HW2 : IntKind.i64.wrap ((i : Int) - 1) = (i1 : Int) := by rw [i64_w]; unfold wrap64; have := HL.out; have := HBD.out; omega
      by_cases hk : k < i1
      case neg =>
        have hke : k = i1 := by have := HK.out; omega
        subst hke
        have t2 : decide (k < k) = false := decide_eq_false (by omega)
        have R2 := Aside0.mk RK.out
        rw [HEND.out] at R2
        clear hk RK
        go_wp2_with fail
        refine bodyPost_ret (results_none rfl _ _ _) rfl ?_
        exact ⟨rfl, BB.out, R2.out⟩
      case pos =>
        have t2 : decide (k < i1) = true := decide_eq_true hk
        have hL := HL.out
        have hBD := HBD.out
        have hK := HK.out
        have htl : k - ia < B.length := by omega
        obtain ⟨k1, hk1⟩ : ∃ k1, k1 = k + 1 := ⟨_, rfl⟩
        obtain ⟨dk, hdk⟩ : ∃ dk, dk = P ++ (B.take (k - ia) ++ (x :: (B.drop (k - ia) ++ Q))) := ⟨_, rfl⟩
        obtain ⟨y, hy⟩ := some_of B (k - ia) htl
        have hx1 : dk[k]? = some x := by rw [hdk]; have := shift_at P B Q x (k - ia) (by omega); rw [show P.length + (k - ia) = k by omega] at this; exact this
        have hy1 : dk[k1]? = some y := by rw [hdk]; have := shift_above P B Q x (k - ia) htl; rw [show P.length + (k - ia) + 1 = k1 by omega, hy] at this; exact this
        have hlen : dk.length = n := by rw [hdk, shift_length]; have := HDL.out; rw [HDD.out] at this; simp only [List.length_append, List.length_cons, List.length_nil] at this; omega
        have HSW : Aside0 ((dk.set k y).set k1 x = P ++ (B.take (k1 - ia) ++ (x :: (B.drop (k1 - ia) ++ Q)))) := ⟨by
          have h1 : swp1 dk k k1 = (dk.set k y).set k1 x := by unfold swp1; rw [hx1, hy1]
          rw [← h1, hdk]
          have := shift_swp P B Q x (k - ia) htl
          rw [show P.length + (k - ia) = k by omega, show k + 1 = k1 by omega, show k - ia + 1 = k1 - ia by omega] at this
          exact this⟩
        have HX_k := Aside0.mk hx1
        have HX_k1 := Aside0.mk hy1
        have HX2 : Aside0 ((dk.set k y)[k1]? = some y) := ⟨by rw [List.getElem?_set_ne (by omega)]; exact hy1⟩
        have HW1 : Aside0 (IntKind.i64.wrap ((k : Int) + 1) = (k1 : Int)) := ⟨by rw [i64_w]; unfold wrap64; omega⟩
        have LO_k := Aside0.mk (eq_true (show (0 : Int) ≤ (k : Int) by omega))
        have LO_k1 := Aside0.mk (eq_true (show (0 : Int) ≤ (k1 : Int) by omega))
        have HI_k := Aside0.mk (eq_true (show (k : Int) < (n : Int) by omega))
        have HI_k1 := Aside0.mk (eq_true (show (k1 : Int) < (n : Int) by omega))
        have HK1 := Aside0.mk (And.intro hk hk1)
        rw [← hdk] at RK
        clear hk hL hBD hK htl hk1 hdk hy hx1 hy1 hlen
        go_upto_region 11 with fail
        have B0 := Aside0.mk (kp_drew BB.out)
        have R0 := Aside0.mk (RowB.below RK.out (below_drew1 (Below.refl wr.heap.size wr)))
        clear RK BB t2
        refine start_ (n := 18) (S := fun w' => True) (ds := []) #[false, false, false, false, false, false, false, false, false, false, false, false, false, false, false, false, false, false] (by kernel_rfl) rfl rfl trivial (fun hHeld => ?_)
        refine with_tabW sym.tab11 sym.bits11 (fun HT_ HW_ => ?_)
        generalize wr.drew = wq at B0 R0 hHeld ⊢
        refine inv_at [0, 1, 2, 3, 4, 5, 6, 7, 8, 9, 10, 11, 12, 13, 14, 15, 16, 17] (fun a0_ b a w' => a = putSel a0_ b [(0, 61, .slice (some ⟨g, 0, none⟩) n cp), (1, 62, .int .i64 (k : Int)), (2, 63, .slice (some ⟨g, 0, none⟩) n cp), (3, 64, .int .i64 (k : Int)), (4, 65, .int .i64 (k1 : Int)), (5, 66, .slice (some ⟨g, 0, none⟩) n cp), (6, 67, .int .i64 (k : Int)), (7, 68, .int .i64 (k1 : Int)), (8, 69, .pointer (some ⟨g, k1 * 3, none⟩)), (9, 70, .agg #[.int .i64 y.nr, .int .i64 y.kd, .slice y.A y.n y.c]), (10, 71, .slice (some ⟨g, 0, none⟩) n cp), (11, 72, .int .i64 (k : Int)), (12, 73, .pointer (some ⟨g, k * 3, none⟩)), (13, 74, .agg #[.int .i64 x.nr, .int .i64 x.kd, .slice x.A x.n x.c]), (14, 75, .pointer (some ⟨g, k * 3, none⟩)), (16, 76, .pointer (some ⟨g, k1 * 3, none⟩))] ∧ (Kp g w0 w') ∧ (b 15 = false → RowB w' g dk) ∧ (b 15 = true → b 17 = false → RowB w' g (dk.set k y)) ∧ (b 17 = true → RowB w' g ((dk.set k y).set k1 x))) HT_.out HW_.out (by kernel_rfl) (by kernel_rfl) ?_ ?_ ?_
        · exact ⟨by simp only [putSel, Bool.false_eq_true, if_false], B0.out, fun _ => R0.out, fun h_ => absurd h_ (by decide), fun h_ => absurd h_ (by decide)⟩
        · skip
          clear B0 R0
          refine steps_cons ?_ ?_
          · rintro b a w' ⟨ha, Q_B0, Q_R0, Q_R1, Q_R2⟩ hb_ hon hoff
            refine ⟨_, rfl, fun K hK => ?_⟩
            have e0 : a.tmps[0]? = some (.slice (some ⟨g, 0, none⟩) n cp) := by rw [ha]; exact (putSel_off rfl).trans rfl
            replace ha := Aside0.mk ha
            have B0 := Aside0.mk Q_B0
            have R0 := Aside0.mk (Q_R0 (hoff 15 (by kernel_rfl)))
            refine value_ (w1 := w') (v := .slice (some ⟨g, 0, none⟩) n cp) (by rfl) rfl ?_ ?_
            · go_simp
              (try simp only [i64_w])
              try rfl
            refine hK.out _ _ ⟨(by rw [ha.out]; exact putSel_upk 0 hb_ rfl rfl rfl), Q_B0, Q_R0, fun h0_ _ => absurd ((hoff 15 (by kernel_rfl)).symm.trans h0_) (by decide), fun h0_ => absurd ((hoff 17 (by kernel_rfl)).symm.trans h0_) (by decide)⟩
          refine steps_cons ?_ ?_
          · rintro b a w' ⟨ha, Q_B0, Q_R0, Q_R1, Q_R2⟩ hb_ hon hoff
            refine ⟨_, rfl, fun K hK => ?_⟩
            have e13 : a.tmps[13]? = some (.int .i64 (k : Int)) := by rw [ha]; exact (putSel_off rfl).trans rfl
            replace ha := Aside0.mk ha
            have B0 := Aside0.mk Q_B0
            have R0 := Aside0.mk (Q_R0 (hoff 15 (by kernel_rfl)))
            refine value_ (w1 := w') (v := .int .i64 (k : Int)) (by rfl) rfl ?_ ?_
            · go_simp
              (try simp only [i64_w])
              try rfl
            refine hK.out _ _ ⟨(by rw [ha.out]; exact putSel_upk 1 hb_ rfl rfl rfl), Q_B0, Q_R0, fun h0_ _ => absurd ((hoff 15 (by kernel_rfl)).symm.trans h0_) (by decide), fun h0_ => absurd ((hoff 17 (by kernel_rfl)).symm.trans h0_) (by decide)⟩
          refine steps_cons ?_ ?_
          · rintro b a w' ⟨ha, Q_B0, Q_R0, Q_R1, Q_R2⟩ hb_ hon hoff
            refine ⟨_, rfl, fun K hK => ?_⟩
            have e0 : a.tmps[0]? = some (.slice (some ⟨g, 0, none⟩) n cp) := by rw [ha]; exact (putSel_off rfl).trans rfl
            replace ha := Aside0.mk ha
            have B0 := Aside0.mk Q_B0
            refine value_ (w1 := w') (v := .slice (some ⟨g, 0, none⟩) n cp) (by rfl) rfl ?_ ?_
            · go_simp
              (try simp only [i64_w])
              try rfl
            refine hK.out _ _ ⟨(by rw [ha.out]; exact putSel_upk 2 hb_ rfl rfl rfl), Q_B0, Q_R0, Q_R1, fun h0_ => absurd ((hoff 17 (by kernel_rfl)).symm.trans h0_) (by decide)⟩
          refine steps_cons ?_ ?_
          · rintro b a w' ⟨ha, Q_B0, Q_R0, Q_R1, Q_R2⟩ hb_ hon hoff
            refine ⟨_, rfl, fun K hK => ?_⟩
            have e13 : a.tmps[13]? = some (.int .i64 (k : Int)) := by rw [ha]; exact (putSel_off rfl).trans rfl
            replace ha := Aside0.mk ha
            have B0 := Aside0.mk Q_B0
            refine value_ (w1 := w') (v := .int .i64 (k : Int)) (by rfl) rfl ?_ ?_
            · go_simp
              (try simp only [i64_w])
              try rfl
            refine hK.out _ _ ⟨(by rw [ha.out]; exact putSel_upk 3 hb_ rfl rfl rfl), Q_B0, Q_R0, Q_R1, fun h0_ => absurd ((hoff 17 (by kernel_rfl)).symm.trans h0_) (by decide)⟩
          refine steps_cons ?_ ?_
          · rintro b a w' ⟨ha, Q_B0, Q_R0, Q_R1, Q_R2⟩ hb_ hon hoff
            refine ⟨_, rfl, fun K hK => ?_⟩
            have e64 : a.tmps[64]? = some (.int .i64 (k : Int)) := by rw [ha]; exact putSel_on (e := (3, 64, .int .i64 (k : Int))) 3 rfl rfl (hon 3 (by kernel_rfl)) rfl
            replace ha := Aside0.mk ha
            have B0 := Aside0.mk Q_B0
            have hw0_ := HW1.out
            refine value_ (w1 := w') (v := .int .i64 (k1 : Int)) (by rfl) rfl ?_ ?_
            · go_simp
              (try simp only [i64_w])
              try rfl
            refine hK.out _ _ ⟨(by rw [ha.out]; exact putSel_upk 4 hb_ rfl rfl rfl), Q_B0, Q_R0, Q_R1, fun h0_ => absurd ((hoff 17 (by kernel_rfl)).symm.trans h0_) (by decide)⟩
          refine steps_cons ?_ ?_
          · rintro b a w' ⟨ha, Q_B0, Q_R0, Q_R1, Q_R2⟩ hb_ hon hoff
            refine ⟨_, rfl, fun K hK => ?_⟩
            have e0 : a.tmps[0]? = some (.slice (some ⟨g, 0, none⟩) n cp) := by rw [ha]; exact (putSel_off rfl).trans rfl
            replace ha := Aside0.mk ha
            have B0 := Aside0.mk Q_B0
            have R0 := Aside0.mk (Q_R0 (hoff 15 (by kernel_rfl)))
            refine value_ (w1 := w') (v := .slice (some ⟨g, 0, none⟩) n cp) (by rfl) rfl ?_ ?_
            · go_simp
              (try simp only [i64_w])
              try rfl
            refine hK.out _ _ ⟨(by rw [ha.out]; exact putSel_upk 5 hb_ rfl rfl rfl), Q_B0, Q_R0, fun h0_ _ => absurd ((hoff 15 (by kernel_rfl)).symm.trans h0_) (by decide), fun h0_ => absurd ((hoff 17 (by kernel_rfl)).symm.trans h0_) (by decide)⟩
          refine steps_cons ?_ ?_
          · rintro b a w' ⟨ha, Q_B0, Q_R0, Q_R1, Q_R2⟩ hb_ hon hoff
            refine ⟨_, rfl, fun K hK => ?_⟩
            have e13 : a.tmps[13]? = some (.int .i64 (k : Int)) := by rw [ha]; exact (putSel_off rfl).trans rfl
            replace ha := Aside0.mk ha
            have B0 := Aside0.mk Q_B0
            have R0 := Aside0.mk (Q_R0 (hoff 15 (by kernel_rfl)))
            refine value_ (w1 := w') (v := .int .i64 (k : Int)) (by rfl) rfl ?_ ?_
            · go_simp
              (try simp only [i64_w])
              try rfl
            refine hK.out _ _ ⟨(by rw [ha.out]; exact putSel_upk 6 hb_ rfl rfl rfl), Q_B0, Q_R0, fun h0_ _ => absurd ((hoff 15 (by kernel_rfl)).symm.trans h0_) (by decide), fun h0_ => absurd ((hoff 17 (by kernel_rfl)).symm.trans h0_) (by decide)⟩
          refine steps_cons ?_ ?_
          · rintro b a w' ⟨ha, Q_B0, Q_R0, Q_R1, Q_R2⟩ hb_ hon hoff
            refine ⟨_, rfl, fun K hK => ?_⟩
            have e67 : a.tmps[67]? = some (.int .i64 (k : Int)) := by rw [ha]; exact putSel_on (e := (6, 67, .int .i64 (k : Int))) 6 rfl rfl (hon 6 (by kernel_rfl)) rfl
            replace ha := Aside0.mk ha
            have B0 := Aside0.mk Q_B0
            have R0 := Aside0.mk (Q_R0 (hoff 15 (by kernel_rfl)))
            have hw0_ := HW1.out
            refine value_ (w1 := w') (v := .int .i64 (k1 : Int)) (by rfl) rfl ?_ ?_
            · go_simp
              (try simp only [i64_w])
              try rfl
            refine hK.out _ _ ⟨(by rw [ha.out]; exact putSel_upk 7 hb_ rfl rfl rfl), Q_B0, Q_R0, fun h0_ _ => absurd ((hoff 15 (by kernel_rfl)).symm.trans h0_) (by decide), fun h0_ => absurd ((hoff 17 (by kernel_rfl)).symm.trans h0_) (by decide)⟩
          refine steps_cons ?_ ?_
          · rintro b a w' ⟨ha, Q_B0, Q_R0, Q_R1, Q_R2⟩ hb_ hon hoff
            refine ⟨_, rfl, fun K hK => ?_⟩
            have e66 : a.tmps[66]? = some (.slice (some ⟨g, 0, none⟩) n cp) := by rw [ha]; exact putSel_on (e := (5, 66, .slice (some ⟨g, 0, none⟩) n cp)) 5 rfl rfl (hon 5 (by kernel_rfl)) rfl
            have e68 : a.tmps[68]? = some (.int .i64 (k1 : Int)) := by rw [ha]; exact putSel_on (e := (7, 68, .int .i64 (k1 : Int))) 7 rfl rfl (hon 7 (by kernel_rfl)) rfl
            replace ha := Aside0.mk ha
            have B0 := Aside0.mk Q_B0
            have R0 := Aside0.mk (Q_R0 (hoff 15 (by kernel_rfl)))
            have p1_ := LO_k1.out
            have q1_ := HI_k1.out
            refine value_ (w1 := w') (v := .pointer (some ⟨g, k1 * 3, none⟩)) (by rfl) rfl ?_ ?_
            · go_simp
              (try simp only [i64_w])
              try rfl
            refine hK.out _ _ ⟨(by rw [ha.out]; exact putSel_upk 8 hb_ rfl rfl rfl), Q_B0, Q_R0, fun h0_ _ => absurd ((hoff 15 (by kernel_rfl)).symm.trans h0_) (by decide), fun h0_ => absurd ((hoff 17 (by kernel_rfl)).symm.trans h0_) (by decide)⟩
          refine steps_cons ?_ ?_
          · rintro b a w' ⟨ha, Q_B0, Q_R0, Q_R1, Q_R2⟩ hb_ hon hoff
            refine ⟨_, rfl, fun K hK => ?_⟩
            have e69 : a.tmps[69]? = some (.pointer (some ⟨g, k1 * 3, none⟩)) := by rw [ha]; exact putSel_on (e := (8, 69, .pointer (some ⟨g, k1 * 3, none⟩))) 8 rfl rfl (hon 8 (by kernel_rfl)) rfl
            replace ha := Aside0.mk ha
            have B0 := Aside0.mk Q_B0
            have R0 := Aside0.mk (Q_R0 (hoff 15 (by kernel_rfl)))
            have cs_ := R0.out.cells HX_k1.out
            refine value_ (w1 := w') (v := .agg #[.int .i64 y.nr, .int .i64 y.kd, .slice y.A y.n y.c]) (by rfl) rfl ?_ ?_
            · go_simp
              (try simp only [i64_w])
              try rfl
            refine hK.out _ _ ⟨(by rw [ha.out]; exact putSel_upk 9 hb_ rfl rfl rfl), Q_B0, Q_R0, fun h0_ _ => absurd ((hoff 15 (by kernel_rfl)).symm.trans h0_) (by decide), fun h0_ => absurd ((hoff 17 (by kernel_rfl)).symm.trans h0_) (by decide)⟩
          refine steps_cons ?_ ?_
          · rintro b a w' ⟨ha, Q_B0, Q_R0, Q_R1, Q_R2⟩ hb_ hon hoff
            refine ⟨_, rfl, fun K hK => ?_⟩
            have e0 : a.tmps[0]? = some (.slice (some ⟨g, 0, none⟩) n cp) := by rw [ha]; exact (putSel_off rfl).trans rfl
            replace ha := Aside0.mk ha
            have B0 := Aside0.mk Q_B0
            have R0 := Aside0.mk (Q_R0 (hoff 15 (by kernel_rfl)))
            refine value_ (w1 := w') (v := .slice (some ⟨g, 0, none⟩) n cp) (by rfl) rfl ?_ ?_
            · go_simp
              (try simp only [i64_w])
              try rfl
            refine hK.out _ _ ⟨(by rw [ha.out]; exact putSel_upk 10 hb_ rfl rfl rfl), Q_B0, Q_R0, fun h0_ _ => absurd ((hoff 15 (by kernel_rfl)).symm.trans h0_) (by decide), fun h0_ => absurd ((hoff 17 (by kernel_rfl)).symm.trans h0_) (by decide)⟩
          refine steps_cons ?_ ?_
          · rintro b a w' ⟨ha, Q_B0, Q_R0, Q_R1, Q_R2⟩ hb_ hon hoff
            refine ⟨_, rfl, fun K hK => ?_⟩
            have e13 : a.tmps[13]? = some (.int .i64 (k : Int)) := by rw [ha]; exact (putSel_off rfl).trans rfl
            replace ha := Aside0.mk ha
            have B0 := Aside0.mk Q_B0
            have R0 := Aside0.mk (Q_R0 (hoff 15 (by kernel_rfl)))
            refine value_ (w1 := w') (v := .int .i64 (k : Int)) (by rfl) rfl ?_ ?_
            · go_simp
              (try simp only [i64_w])
              try rfl
            refine hK.out _ _ ⟨(by rw [ha.out]; exact putSel_upk 11 hb_ rfl rfl rfl), Q_B0, Q_R0, fun h0_ _ => absurd ((hoff 15 (by kernel_rfl)).symm.trans h0_) (by decide), fun h0_ => absurd ((hoff 17 (by kernel_rfl)).symm.trans h0_) (by decide)⟩
          refine steps_cons ?_ ?_
          · rintro b a w' ⟨ha, Q_B0, Q_R0, Q_R1, Q_R2⟩ hb_ hon hoff
            refine ⟨_, rfl, fun K hK => ?_⟩
            have e71 : a.tmps[71]? = some (.slice (some ⟨g, 0, none⟩) n cp) := by rw [ha]; exact putSel_on (e := (10, 71, .slice (some ⟨g, 0, none⟩) n cp)) 10 rfl rfl (hon 10 (by kernel_rfl)) rfl
            have e72 : a.tmps[72]? = some (.int .i64 (k : Int)) := by rw [ha]; exact putSel_on (e := (11, 72, .int .i64 (k : Int))) 11 rfl rfl (hon 11 (by kernel_rfl)) rfl
            replace ha := Aside0.mk ha
            have B0 := Aside0.mk Q_B0
            have R0 := Aside0.mk (Q_R0 (hoff 15 (by kernel_rfl)))
            have p1_ := LO_k.out
            have q1_ := HI_k.out
            refine value_ (w1 := w') (v := .pointer (some ⟨g, k * 3, none⟩)) (by rfl) rfl ?_ ?_
            · go_simp
              (try simp only [i64_w])
              try rfl
            refine hK.out _ _ ⟨(by rw [ha.out]; exact putSel_upk 12 hb_ rfl rfl rfl), Q_B0, Q_R0, fun h0_ _ => absurd ((hoff 15 (by kernel_rfl)).symm.trans h0_) (by decide), fun h0_ => absurd ((hoff 17 (by kernel_rfl)).symm.trans h0_) (by decide)⟩
          refine steps_cons ?_ ?_
          · rintro b a w' ⟨ha, Q_B0, Q_R0, Q_R1, Q_R2⟩ hb_ hon hoff
            refine ⟨_, rfl, fun K hK => ?_⟩
            have e73 : a.tmps[73]? = some (.pointer (some ⟨g, k * 3, none⟩)) := by rw [ha]; exact putSel_on (e := (12, 73, .pointer (some ⟨g, k * 3, none⟩))) 12 rfl rfl (hon 12 (by kernel_rfl)) rfl
            replace ha := Aside0.mk ha
            have B0 := Aside0.mk Q_B0
            have R0 := Aside0.mk (Q_R0 (hoff 15 (by kernel_rfl)))
            have cs_ := R0.out.cells HX_k.out
            refine value_ (w1 := w') (v := .agg #[.int .i64 x.nr, .int .i64 x.kd, .slice x.A x.n x.c]) (by rfl) rfl ?_ ?_
            · go_simp
              (try simp only [i64_w])
              try rfl
            refine hK.out _ _ ⟨(by rw [ha.out]; exact putSel_upk 13 hb_ rfl rfl rfl), Q_B0, Q_R0, fun h0_ _ => absurd ((hoff 15 (by kernel_rfl)).symm.trans h0_) (by decide), fun h0_ => absurd ((hoff 17 (by kernel_rfl)).symm.trans h0_) (by decide)⟩
          refine steps_cons ?_ ?_
          · rintro b a w' ⟨ha, Q_B0, Q_R0, Q_R1, Q_R2⟩ hb_ hon hoff
            refine ⟨_, rfl, fun K hK => ?_⟩
            have e61 : a.tmps[61]? = some (.slice (some ⟨g, 0, none⟩) n cp) := by rw [ha]; exact putSel_on (e := (0, 61, .slice (some ⟨g, 0, none⟩) n cp)) 0 rfl rfl (hon 0 (by kernel_rfl)) rfl
            have e62 : a.tmps[62]? = some (.int .i64 (k : Int)) := by rw [ha]; exact putSel_on (e := (1, 62, .int .i64 (k : Int))) 1 rfl rfl (hon 1 (by kernel_rfl)) rfl
            replace ha := Aside0.mk ha
            have B0 := Aside0.mk Q_B0
            have R0 := Aside0.mk (Q_R0 (hoff 15 (by kernel_rfl)))
            have p1_ := LO_k.out
            have q1_ := HI_k.out
            refine value_ (w1 := w') (v := .pointer (some ⟨g, k * 3, none⟩)) (by rfl) rfl ?_ ?_
            · go_simp
              (try simp only [i64_w])
              try rfl
            refine hK.out _ _ ⟨(by rw [ha.out]; exact putSel_upk 14 hb_ rfl rfl rfl), Q_B0, Q_R0, fun h0_ _ => absurd ((hoff 15 (by kernel_rfl)).symm.trans h0_) (by decide), fun h0_ => absurd ((hoff 17 (by kernel_rfl)).symm.trans h0_) (by decide)⟩
          refine steps_cons ?_ ?_
          · rintro b a w' ⟨ha, Q_B0, Q_R0, Q_R1, Q_R2⟩ hb_ hon hoff
            refine ⟨_, rfl, fun K hK => ?_⟩
            have e75 : a.tmps[75]? = some (.pointer (some ⟨g, k * 3, none⟩)) := by rw [ha]; exact putSel_on (e := (14, 75, .pointer (some ⟨g, k * 3, none⟩))) 14 rfl rfl (hon 14 (by kernel_rfl)) rfl
            have e70 : a.tmps[70]? = some (.agg #[.int .i64 y.nr, .int .i64 y.kd, .slice y.A y.n y.c]) := by rw [ha]; exact putSel_on (e := (9, 70, .agg #[.int .i64 y.nr, .int .i64 y.kd, .slice y.A y.n y.c])) 9 rfl rfl (hon 9 (by kernel_rfl)) rfl
            replace ha := Aside0.mk ha
            have B0 := Aside0.mk Q_B0
            have R0 := Aside0.mk (Q_R0 hb_)
            have cs_ := R0.out.cells HX_k.out
            have f0_ := R0.out.frozen (k * 3)
            have f1_ := R0.out.frozen (k * 3 + 1)
            have f2_ := R0.out.frozen (k * 3 + 2)
            refine skip_ (w1 := ?_) (by rfl) rfl ?_ ?_
            rotate_left
            · go_simp
              rfl
            refine hK.out _ _ ⟨(by rw [ha.out]; exact putSel_none (v := undef) rfl), setRec_below (j := k) (x := y) B0.out HG.out, fun h0_ => absurd ((up_self b 15).symm.trans h0_) (by decide), fun _ _ => R0.out.set k y, fun h0_ => absurd ((hoff 17 (by kernel_rfl)).symm.trans h0_) (by decide)⟩
          refine steps_cons ?_ ?_
          · rintro b a w' ⟨ha, Q_B0, Q_R0, Q_R1, Q_R2⟩ hb_ hon hoff
            refine ⟨_, rfl, fun K hK => ?_⟩
            have e63 : a.tmps[63]? = some (.slice (some ⟨g, 0, none⟩) n cp) := by rw [ha]; exact putSel_on (e := (2, 63, .slice (some ⟨g, 0, none⟩) n cp)) 2 rfl rfl (hon 2 (by kernel_rfl)) rfl
            have e65 : a.tmps[65]? = some (.int .i64 (k1 : Int)) := by rw [ha]; exact putSel_on (e := (4, 65, .int .i64 (k1 : Int))) 4 rfl rfl (hon 4 (by kernel_rfl)) rfl
            replace ha := Aside0.mk ha
            have B0 := Aside0.mk Q_B0
            have R1 := Aside0.mk (Q_R1 (hon 15 (by kernel_rfl)) (hoff 17 (by kernel_rfl)))
            have p1_ := LO_k1.out
            have q1_ := HI_k1.out
            refine value_ (w1 := w') (v := .pointer (some ⟨g, k1 * 3, none⟩)) (by rfl) rfl ?_ ?_
            · go_simp
              (try simp only [i64_w])
              try rfl
            refine hK.out _ _ ⟨(by rw [ha.out]; exact putSel_upk 15 hb_ rfl rfl rfl), Q_B0, fun h0_ => absurd ((hon 15 (by kernel_rfl)).symm.trans h0_) (by decide), Q_R1, fun h0_ => absurd ((hoff 17 (by kernel_rfl)).symm.trans h0_) (by decide)⟩
          refine steps_cons ?_ ?_
          · rintro b a w' ⟨ha, Q_B0, Q_R0, Q_R1, Q_R2⟩ hb_ hon hoff
            refine ⟨_, rfl, fun K hK => ?_⟩
            have e76 : a.tmps[76]? = some (.pointer (some ⟨g, k1 * 3, none⟩)) := by rw [ha]; exact putSel_on (e := (16, 76, .pointer (some ⟨g, k1 * 3, none⟩))) 15 rfl rfl (hon 16 (by kernel_rfl)) rfl
            have e74 : a.tmps[74]? = some (.agg #[.int .i64 x.nr, .int .i64 x.kd, .slice x.A x.n x.c]) := by rw [ha]; exact putSel_on (e := (13, 74, .agg #[.int .i64 x.nr, .int .i64 x.kd, .slice x.A x.n x.c])) 13 rfl rfl (hon 13 (by kernel_rfl)) rfl
            replace ha := Aside0.mk ha
            have B0 := Aside0.mk Q_B0
            have R1 := Aside0.mk (Q_R1 (hon 15 (by kernel_rfl)) hb_)
            have cs_ := R1.out.cells HX2.out
            have f0_ := R1.out.frozen (k1 * 3)
            have f1_ := R1.out.frozen (k1 * 3 + 1)
            have f2_ := R1.out.frozen (k1 * 3 + 2)
            refine skip_ (w1 := ?_) (by rfl) rfl ?_ ?_
            rotate_left
            · go_simp
              rfl
            refine hK.out _ _ ⟨(by rw [ha.out]; exact putSel_none (v := undef) rfl), setRec_below (j := k1) (x := x) B0.out HG.out, fun h0_ => absurd ((hon 15 (by kernel_rfl)).symm.trans h0_) (by decide), fun _ h1_ => absurd ((up_self b 17).symm.trans h1_) (by decide), fun _ => R1.out.set k1 x⟩
          exact steps_nil
        rintro b a wl hall ⟨ha, Q_B0, Q_R0, Q_R1, Q_R2⟩
        clear B0 R0
        have hb0_ := hall 0 (by kernel_rfl)
        have hb1_ := hall 1 (by kernel_rfl)
        have hb2_ := hall 2 (by kernel_rfl)
        have hb3_ := hall 3 (by kernel_rfl)
        have hb4_ := hall 4 (by kernel_rfl)
        have hb5_ := hall 5 (by kernel_rfl)
        have hb6_ := hall 6 (by kernel_rfl)
        have hb7_ := hall 7 (by kernel_rfl)
        have hb8_ := hall 8 (by kernel_rfl)
        have hb9_ := hall 9 (by kernel_rfl)
        have hb10_ := hall 10 (by kernel_rfl)
        have hb11_ := hall 11 (by kernel_rfl)
        have hb12_ := hall 12 (by kernel_rfl)
        have hb13_ := hall 13 (by kernel_rfl)
        have hb14_ := hall 14 (by kernel_rfl)
        have hb15_ := hall 15 (by kernel_rfl)
        have hb16_ := hall 16 (by kernel_rfl)
        have hb17_ := hall 17 (by kernel_rfl)
        subst ha
        simp only [putSel, hb0_, hb1_, hb2_, hb3_, hb4_, hb5_, hb6_, hb7_, hb8_, hb9_, hb10_, hb11_, hb12_, hb13_, hb14_, hb15_, hb16_, hb17_, if_true, Act.put, List.setIfInBounds_toArray, List.set_cons_zero, List.set_cons_succ]
        have B0 := Aside0.mk Q_B0
        clear Q_B0
        clear Q_R0
        clear Q_R1
        have R2 := Aside0.mk (Q_R2 hb17_)
        clear Q_R2
        clear hall hb0_ hb1_ hb2_ hb3_ hb4_ hb5_ hb6_ hb7_ hb8_ hb9_ hb10_ hb11_ hb12_ hb13_ hb14_ hb15_ hb16_ hb17_
        go_wp2_with fail
        go_roundg (i1 - k1)
        case measure => have := HQK.out; have := HK1.out; omega
        case rel => exact ⟨k1, by first | rfl | (rw [← i64_w, HW1.out]) | (simp; unfold wrap64; have := HK1.out; have := HL.out; have := HBD.out; omega), ⟨by have := HK.out; have := HK1.out; omega⟩, ⟨by rw [← HSW.out]; exact R2.out⟩, B0, ⟨by have := HK1.out; omega⟩⟩
set_option maxHeartbeats 8000000 in
set_option maxRecDepth 100000 in
theorem symR_calls (lt : Rec → Rec → Bool) (ho : Ord lt) (hc : Cmp lt) (N : Nat) (w0 : World) (g : Nat) (hg : N ≤ g) (cp : Nat) (ia im ib n : Nat) (P A Q : List Rec) (x : Rec) (hP : P.length = ia) (hA : ia + A.length = im) (hA2 : 2 ≤ A.length) (hB1 : im + 1 = ib) (hAs : Sorted lt A) (hn : (P ++ (A ++ ([x] ++ Q))).length = n) (hn2 : n ≤ 1000000) (w : World) (hB : Kp g w0 w) (hR : RowB w g (P ++ (A ++ ([x] ++ Q)))) :
    Calls Try.prog 120 #[.slice (some ⟨g, 0, none⟩) n cp, .int .i64 (ia : Int), .int .i64 (im : Int), .int .i64 (ib : Int), .func (.func 85) #[] #[]] w fun e w' => e = .returned (.tuple #[]) ∧ Kp g w0 w' ∧ RowB w' g (P ++ (mrg lt A [x] ++ Q)) := by
  have HG := Aside0.mk hg
  have HCMP : Aside0 (∀ (W : World) (x y : Rec), Calls Try.prog 85 #[.agg #[.int .i64 x.nr, .int .i64 x.kd, .slice x.A x.n x.c], .agg #[.int .i64 y.nr, .int .i64 y.kd, .slice y.A y.n y.c]] W fun e w' => ∃ r : Int, e = .returned (.int .i64 r) ∧ decide (r < 0) = lt x y ∧ Below W.heap.size W w') := ⟨hc⟩
  have HL : Aside0 (P.length = ia ∧ ia + A.length = im ∧ im + 1 = ib ∧ ib ≤ n ∧ n ≤ 1000000) := ⟨hP, hA, hB1, by rw [← hn]; simp only [List.length_append, List.length_cons, List.length_nil]; omega, hn2⟩
  obtain ⟨na, hna⟩ : ∃ na, na = A.length := ⟨_, rfl⟩
  have HW0 : IntKind.i64.wrap ((im : Int) - (ia : Int)) = (na : Int) := by rw [i64_w]; unfold wrap64; have := HL.out; omega
  have HW00 : ((na : Int) == 1) = false := by simp; omega
  have HW03 : IntKind.i64.wrap ((ib : Int) - (im : Int)) = 1 := by rw [i64_w]; unfold wrap64; have := HL.out; omega
  obtain ⟨dd, hdd⟩ : ∃ dd, dd = P ++ (A ++ ([x] ++ Q)) := ⟨_, rfl⟩
  have HDD := Aside0.mk hdd
  have HDL : Aside0 (dd.length = n) := ⟨by rw [hdd]; exact hn⟩
  have HMO : Aside0 (Mono (fB lt dd x) ia im) := ⟨by
    have := fB_mono ho P A [x] Q x hAs
    rw [← hdd, hP, hA] at this
    exact this⟩
  have HX_im : Aside0 (dd[im]? = some x) := ⟨by rw [hdd, get_B P A [x] Q im (by omega) (by simp; omega), show im - P.length - A.length = 0 by omega]; rfl⟩
  have LO_im := Aside0.mk (eq_true (show (0 : Int) ≤ (im : Int) by omega))
  have HI_im : Aside0 (((im : Int) < (n : Int)) = True) := ⟨eq_true (by have := HL.out; omega)⟩
  rw [← hdd] at hR
  have HR := Aside0.mk hR
  replace hB := Aside0.mk hB
  have HB0 : Aside0 (Bs (fB lt dd x) ia im ia im) := ⟨Bs.init _ _ _ (by omega)⟩
  clear hg ho hc hP hA hA2 hB1 hAs hn hn2 hR hdd hna
  go_enter Try.func120, Try.ntmps120
  go_upto_region 15 with fail
  clear HW0 HW00 HW03
  go_loopg [14, 15] (im - ia) (fun kq v14 v15 w' => ∃ i j : Nat, v14 = .int .i64 (i : Int) ∧ v15 = .int .i64 (j : Int) ∧ Aside0 (Bs (fB lt dd x) ia im i j) ∧ Aside0 (RowB w' g dd) ∧ Aside0 (Kp g w0 w') ∧ Aside0 (kq + i = j))
  case atStart => exact ⟨ia, im, rfl, rfl, HB0, HR, hB, ⟨by have := HL.out; omega⟩⟩
  case round =>
    clear HB0 HR hB
    obtain ⟨i, j, rfl, rfl, HBS, RR, BB, HQ⟩ := hrel
    by_cases hij : i < j
    case pos =>
      have t1 : decide (i < j) = true := decide_eq_true hij
      have HW1 : IntKind.i64.wrap ((i : Int) + (j : Int)) = ((i + j : Nat) : Int) := by rw [i64_w]; unfold wrap64; have := HL.out; have := HBS.out; unfold Bs at this; omega
      obtain ⟨h, hh⟩ : ∃ h, h = (i + j) / 2 := ⟨_, rfl⟩
      have hb3 := HBS.out
      have hbd : i ≤ h ∧ h < j ∧ j ≤ im ∧ ia ≤ i := by unfold Bs at hb3; omega
      have HMID := Aside0.mk (mid_val i j h hh (by have := HL.out; omega))
      go_upto_region 17 with fail
      rw [HMID.out]
      clear HMID HW1
      obtain ⟨y, hy⟩ : ∃ y, dd[h]? = some y := some_of dd h (by rw [HDL.out]; have := HL.out; omega)
      have HX_h := Aside0.mk hy
      have LO_h := Aside0.mk (eq_true (show (0 : Int) ≤ (h : Int) by omega))
      have HI_h : Aside0 (((h : Int) < (n : Int)) = True) := ⟨eq_true (by have := HL.out; omega)⟩
      have B0 := Aside0.mk (kp_drew BB.out)
      have R0 := Aside0.mk (RowB.below RR.out (below_drew1 (Below.refl wr.heap.size wr)))
      have HBD := Aside0.mk (And.intro hbd hij)
      have hf := fB_at (lt := lt) (x := x) hy
      clear t1 RR BB hb3 hbd hij hh hy
      cases htv : lt x y with
      | true =>
        have HTV := Aside0.mk htv
        have HB2 := Aside0.mk (HBS.out.down HMO.out HBD.out.1.1 HBD.out.1.2.1 (by rw [hf, htv]; rfl))
        clear htv hf
        refine start_ (n := 12) (S := fun w' => True) (ds := []) #[false, false, false, false, false, false, false, false, false, false, false, false] (by kernel_rfl) rfl rfl trivial (fun hHeld => ?_)
        refine with_tabW sym.tab17 sym.bits17 (fun HT_ HW_ => ?_)
        generalize wr.drew = wq at B0 R0 hHeld ⊢
        refine inv_at [0, 1, 2, 3, 4, 5, 6, 7, 8, 9, 10, 11] (fun a0_ b a w' => ∃ (rv : Value), a = putSel a0_ b [(0, 92, .func (.func 85) #[] #[]), (1, 93, .slice (some ⟨g, 0, none⟩) n cp), (2, 94, .int .i64 (im : Int)), (3, 95, .pointer (some ⟨g, im * 3, none⟩)), (4, 96, .agg #[.int .i64 x.nr, .int .i64 x.kd, .slice x.A x.n x.c]), (5, 97, .slice (some ⟨g, 0, none⟩) n cp), (6, 98, .int .i64 (h : Int)), (7, 99, .pointer (some ⟨g, h * 3, none⟩)), (8, 100, .agg #[.int .i64 y.nr, .int .i64 y.kd, .slice y.A y.n y.c]), (9, 101, rv), (10, 102, .bool true), (11, 103, .bool false)] ∧ (Kp g w0 w') ∧ (RowB w' g dd) ∧ (b 9 = true → ∃ r_ : Int, rv = .int .i64 r_ ∧ decide (r_ < 0) = true)) HT_.out HW_.out (by kernel_rfl) (by kernel_rfl) ?_ ?_ ?_
        · exact ⟨.bool false, by simp only [putSel, Bool.false_eq_true, if_false], B0.out, R0.out, fun h_ => absurd h_ (by decide)⟩
        · skip
          clear B0 R0
          refine steps_cons ?_ ?_
          · rintro b a w' ⟨rv, ha, Q_B0, Q_R0, Q_HRV⟩ hb_ hon hoff
            refine ⟨_, rfl, fun K hK => ?_⟩
            have e4 : a.tmps[4]? = some (.func (.func 85) #[] #[]) := by rw [ha]; exact (putSel_off rfl).trans rfl
            replace ha := Aside0.mk ha
            have B0 := Aside0.mk Q_B0
            have R0 := Aside0.mk Q_R0
            refine value_ (w1 := w') (v := .func (.func 85) #[] #[]) (by rfl) rfl ?_ ?_
            · go_simp
              (try simp only [i64_w])
              try rfl
            refine hK.out _ _ ⟨rv, (by rw [ha.out]; exact putSel_upk 0 hb_ rfl rfl rfl), Q_B0, Q_R0, fun h0_ => absurd ((hoff 9 (by kernel_rfl)).symm.trans h0_) (by decide)⟩
          refine steps_cons ?_ ?_
          · rintro b a w' ⟨rv, ha, Q_B0, Q_R0, Q_HRV⟩ hb_ hon hoff
            refine ⟨_, rfl, fun K hK => ?_⟩
            have e0 : a.tmps[0]? = some (.slice (some ⟨g, 0, none⟩) n cp) := by rw [ha]; exact (putSel_off rfl).trans rfl
            replace ha := Aside0.mk ha
            have B0 := Aside0.mk Q_B0
            have R0 := Aside0.mk Q_R0
            refine value_ (w1 := w') (v := .slice (some ⟨g, 0, none⟩) n cp) (by rfl) rfl ?_ ?_
            · go_simp
              (try simp only [i64_w])
              try rfl
            refine hK.out _ _ ⟨rv, (by rw [ha.out]; exact putSel_upk 1 hb_ rfl rfl rfl), Q_B0, Q_R0, fun h0_ => absurd ((hoff 9 (by kernel_rfl)).symm.trans h0_) (by decide)⟩
          refine steps_cons ?_ ?_
          · rintro b a w' ⟨rv, ha, Q_B0, Q_R0, Q_HRV⟩ hb_ hon hoff
            refine ⟨_, rfl, fun K hK => ?_⟩
            have e2 : a.tmps[2]? = some (.int .i64 (im : Int)) := by rw [ha]; exact (putSel_off rfl).trans rfl
            replace ha := Aside0.mk ha
            have B0 := Aside0.mk Q_B0
            have R0 := Aside0.mk Q_R0
            refine value_ (w1 := w') (v := .int .i64 (im : Int)) (by rfl) rfl ?_ ?_
            · go_simp
              (try simp only [i64_w])
              try rfl
            refine hK.out _ _ ⟨rv, (by rw [ha.out]; exact putSel_upk 2 hb_ rfl rfl rfl), Q_B0, Q_R0, fun h0_ => absurd ((hoff 9 (by kernel_rfl)).symm.trans h0_) (by decide)⟩
          refine steps_cons ?_ ?_
          · rintro b a w' ⟨rv, ha, Q_B0, Q_R0, Q_HRV⟩ hb_ hon hoff
            refine ⟨_, rfl, fun K hK => ?_⟩
            have e93 : a.tmps[93]? = some (.slice (some ⟨g, 0, none⟩) n cp) := by rw [ha]; exact putSel_on (e := (1, 93, .slice (some ⟨g, 0, none⟩) n cp)) 1 rfl rfl (hon 1 (by kernel_rfl)) rfl
            have e94 : a.tmps[94]? = some (.int .i64 (im : Int)) := by rw [ha]; exact putSel_on (e := (2, 94, .int .i64 (im : Int))) 2 rfl rfl (hon 2 (by kernel_rfl)) rfl
            replace ha := Aside0.mk ha
            have B0 := Aside0.mk Q_B0
            have R0 := Aside0.mk Q_R0
            have p1_ := LO_im.out
            have q1_ := HI_im.out
            refine value_ (w1 := w') (v := .pointer (some ⟨g, im * 3, none⟩)) (by rfl) rfl ?_ ?_
            · go_simp
              (try simp only [i64_w])
              try rfl
            refine hK.out _ _ ⟨rv, (by rw [ha.out]; exact putSel_upk 3 hb_ rfl rfl rfl), Q_B0, Q_R0, fun h0_ => absurd ((hoff 9 (by kernel_rfl)).symm.trans h0_) (by decide)⟩
          refine steps_cons ?_ ?_
          · rintro b a w' ⟨rv, ha, Q_B0, Q_R0, Q_HRV⟩ hb_ hon hoff
            refine ⟨_, rfl, fun K hK => ?_⟩
            have e95 : a.tmps[95]? = some (.pointer (some ⟨g, im * 3, none⟩)) := by rw [ha]; exact putSel_on (e := (3, 95, .pointer (some ⟨g, im * 3, none⟩))) 3 rfl rfl (hon 3 (by kernel_rfl)) rfl
            replace ha := Aside0.mk ha
            have B0 := Aside0.mk Q_B0
            have R0 := Aside0.mk Q_R0
            have cs_ := R0.out.cells HX_im.out
            refine value_ (w1 := w') (v := .agg #[.int .i64 x.nr, .int .i64 x.kd, .slice x.A x.n x.c]) (by rfl) rfl ?_ ?_
            · go_simp
              (try simp only [i64_w])
              try rfl
            refine hK.out _ _ ⟨rv, (by rw [ha.out]; exact putSel_upk 4 hb_ rfl rfl rfl), Q_B0, Q_R0, fun h0_ => absurd ((hoff 9 (by kernel_rfl)).symm.trans h0_) (by decide)⟩
          refine steps_cons ?_ ?_
          · rintro b a w' ⟨rv, ha, Q_B0, Q_R0, Q_HRV⟩ hb_ hon hoff
            refine ⟨_, rfl, fun K hK => ?_⟩
            have e0 : a.tmps[0]? = some (.slice (some ⟨g, 0, none⟩) n cp) := by rw [ha]; exact (putSel_off rfl).trans rfl
            replace ha := Aside0.mk ha
            have B0 := Aside0.mk Q_B0
            have R0 := Aside0.mk Q_R0
            refine value_ (w1 := w') (v := .slice (some ⟨g, 0, none⟩) n cp) (by rfl) rfl ?_ ?_
            · go_simp
              (try simp only [i64_w])
              try rfl
            refine hK.out _ _ ⟨rv, (by rw [ha.out]; exact putSel_upk 5 hb_ rfl rfl rfl), Q_B0, Q_R0, fun h0_ => absurd ((hoff 9 (by kernel_rfl)).symm.trans h0_) (by decide)⟩
          refine steps_cons ?_ ?_
          · rintro b a w' ⟨rv, ha, Q_B0, Q_R0, Q_HRV⟩ hb_ hon hoff
            refine ⟨_, rfl, fun K hK => ?_⟩
            have e16 : a.tmps[16]? = some (.int .i64 (h : Int)) := by rw [ha]; exact (putSel_off rfl).trans rfl
            replace ha := Aside0.mk ha
            have B0 := Aside0.mk Q_B0
            have R0 := Aside0.mk Q_R0
            refine value_ (w1 := w') (v := .int .i64 (h : Int)) (by rfl) rfl ?_ ?_
            · go_simp
              (try simp only [i64_w])
              try rfl
            refine hK.out _ _ ⟨rv, (by rw [ha.out]; exact putSel_upk 6 hb_ rfl rfl rfl), Q_B0, Q_R0, fun h0_ => absurd ((hoff 9 (by kernel_rfl)).symm.trans h0_) (by decide)⟩
          refine steps_cons ?_ ?_
          · rintro b a w' ⟨rv, ha, Q_B0, Q_R0, Q_HRV⟩ hb_ hon hoff
            refine ⟨_, rfl, fun K hK => ?_⟩
            have e97 : a.tmps[97]? = some (.slice (some ⟨g, 0, none⟩) n cp) := by rw [ha]; exact putSel_on (e := (5, 97, .slice (some ⟨g, 0, none⟩) n cp)) 5 rfl rfl (hon 5 (by kernel_rfl)) rfl
            have e98 : a.tmps[98]? = some (.int .i64 (h : Int)) := by rw [ha]; exact putSel_on (e := (6, 98, .int .i64 (h : Int))) 6 rfl rfl (hon 6 (by kernel_rfl)) rfl
            replace ha := Aside0.mk ha
            have B0 := Aside0.mk Q_B0
            have R0 := Aside0.mk Q_R0
            have p1_ := LO_h.out
            have q1_ := HI_h.out
            refine value_ (w1 := w') (v := .pointer (some ⟨g, h * 3, none⟩)) (by rfl) rfl ?_ ?_
            · go_simp
              (try simp only [i64_w])
              try rfl
            refine hK.out _ _ ⟨rv, (by rw [ha.out]; exact putSel_upk 7 hb_ rfl rfl rfl), Q_B0, Q_R0, fun h0_ => absurd ((hoff 9 (by kernel_rfl)).symm.trans h0_) (by decide)⟩
          refine steps_cons ?_ ?_
          · rintro b a w' ⟨rv, ha, Q_B0, Q_R0, Q_HRV⟩ hb_ hon hoff
            refine ⟨_, rfl, fun K hK => ?_⟩
            have e99 : a.tmps[99]? = some (.pointer (some ⟨g, h * 3, none⟩)) := by rw [ha]; exact putSel_on (e := (7, 99, .pointer (some ⟨g, h * 3, none⟩))) 7 rfl rfl (hon 7 (by kernel_rfl)) rfl
            replace ha := Aside0.mk ha
            have B0 := Aside0.mk Q_B0
            have R0 := Aside0.mk Q_R0
            have cs_ := R0.out.cells HX_h.out
            refine value_ (w1 := w') (v := .agg #[.int .i64 y.nr, .int .i64 y.kd, .slice y.A y.n y.c]) (by rfl) rfl ?_ ?_
            · go_simp
              (try simp only [i64_w])
              try rfl
            refine hK.out _ _ ⟨rv, (by rw [ha.out]; exact putSel_upk 8 hb_ rfl rfl rfl), Q_B0, Q_R0, fun h0_ => absurd ((hoff 9 (by kernel_rfl)).symm.trans h0_) (by decide)⟩
          refine steps_cons ?_ ?_
          · rintro b a w' ⟨rv, ha, Q_B0, Q_R0, Q_HRV⟩ hb_ hon hoff
            refine ⟨_, rfl, fun K hK => ?_⟩
            have e92 : a.tmps[92]? = some (.func (.func 85) #[] #[]) := by rw [ha]; exact putSel_on (e := (0, 92, .func (.func 85) #[] #[])) 0 rfl rfl (hon 0 (by kernel_rfl)) rfl
            have e96 : a.tmps[96]? = some (.agg #[.int .i64 x.nr, .int .i64 x.kd, .slice x.A x.n x.c]) := by rw [ha]; exact putSel_on (e := (4, 96, .agg #[.int .i64 x.nr, .int .i64 x.kd, .slice x.A x.n x.c])) 4 rfl rfl (hon 4 (by kernel_rfl)) rfl
            have e100 : a.tmps[100]? = some (.agg #[.int .i64 y.nr, .int .i64 y.kd, .slice y.A y.n y.c]) := by rw [ha]; exact putSel_on (e := (8, 100, .agg #[.int .i64 y.nr, .int .i64 y.kd, .slice y.A y.n y.c])) 8 rfl rfl (hon 8 (by kernel_rfl)) rfl
            replace ha := Aside0.mk ha
            have B0 := Aside0.mk Q_B0
            have R0 := Aside0.mk Q_R0
            refine goesv_ (t := 92) Try.func85 (by kernel_rfl) rfl #[.agg #[.int .i64 x.nr, .int .i64 x.kd, .slice x.A x.n x.c], .agg #[.int .i64 y.nr, .int .i64 y.kd, .slice y.A y.n y.c]] (by rfl) rfl rfl e92 (by first | (simp only [List.map_toArray, List.map_cons, List.map_nil, Act.eval, Array.getD_eq_getD_getElem?, Option.getD_some, e92, e96, e100]; done) | (simp only [List.map_toArray, List.map_cons, List.map_nil, Act.eval, Array.getD_eq_getD_getElem?, Option.getD_some, e92, e96, e100]; rfl)) ?_
            with_reducible refine (HCMP.out w' x y).mono ?_
            rintro e w2 ⟨r_, rfl, hr_, hb⟩
            refine ⟨_, rfl, ?_⟩
            refine hK.out _ _ ⟨.int .i64 r_, (by rw [ha.out]; exact putSel_upk 9 hb_ rfl rfl rfl), below_row B0.out HG.out R0.out hb, RowB.below R0.out hb, fun _ => ⟨r_, rfl, hr_.trans HTV.out⟩⟩
          refine steps_cons ?_ ?_
          · rintro b a w' ⟨rv, ha, Q_B0, Q_R0, Q_HRV⟩ hb_ hon hoff
            refine ⟨_, rfl, fun K hK => ?_⟩
            have e101 : a.tmps[101]? = some (rv) := by rw [ha]; exact putSel_on (e := (9, 101, rv)) 9 rfl rfl (hon 9 (by kernel_rfl)) rfl
            replace ha := Aside0.mk ha
            have B0 := Aside0.mk Q_B0
            have R0 := Aside0.mk Q_R0
            have HRV := Aside0.mk (Q_HRV (hon 9 (by kernel_rfl)))
            obtain ⟨r_, hr1_, hr2_⟩ := HRV.out
            rw [hr1_] at e101
            refine value_ (w1 := w') (v := .bool true) (by rfl) rfl ?_ ?_
            · go_simp
              (try simp only [i64_w])
              try rfl
            refine hK.out _ _ ⟨rv, (by rw [ha.out]; exact putSel_upk 10 hb_ rfl rfl rfl), Q_B0, Q_R0, Q_HRV⟩
          refine steps_cons ?_ ?_
          · rintro b a w' ⟨rv, ha, Q_B0, Q_R0, Q_HRV⟩ hb_ hon hoff
            refine ⟨_, rfl, fun K hK => ?_⟩
            have e102 : a.tmps[102]? = some (.bool true) := by rw [ha]; exact putSel_on (e := (10, 102, .bool true)) 10 rfl rfl (hon 10 (by kernel_rfl)) rfl
            replace ha := Aside0.mk ha
            have B0 := Aside0.mk Q_B0
            have R0 := Aside0.mk Q_R0
            have HRV := Aside0.mk (Q_HRV (hon 9 (by kernel_rfl)))
            refine value_ (w1 := w') (v := .bool false) (by rfl) rfl ?_ ?_
            · go_simp
              (try simp only [i64_w])
              try rfl
            refine hK.out _ _ ⟨rv, (by rw [ha.out]; exact putSel_upk 11 hb_ rfl rfl rfl), Q_B0, Q_R0, Q_HRV⟩
          exact steps_nil
        rintro b a wl hall ⟨rv, ha, Q_B0, Q_R0, Q_HRV⟩
        clear B0 R0
        have hb0_ := hall 0 (by kernel_rfl)
        have hb1_ := hall 1 (by kernel_rfl)
        have hb2_ := hall 2 (by kernel_rfl)
        have hb3_ := hall 3 (by kernel_rfl)
        have hb4_ := hall 4 (by kernel_rfl)
        have hb5_ := hall 5 (by kernel_rfl)
        have hb6_ := hall 6 (by kernel_rfl)
        have hb7_ := hall 7 (by kernel_rfl)
        have hb8_ := hall 8 (by kernel_rfl)
        have hb9_ := hall 9 (by kernel_rfl)
        have hb10_ := hall 10 (by kernel_rfl)
        have hb11_ := hall 11 (by kernel_rfl)
        subst ha
        simp only [putSel, hb0_, hb1_, hb2_, hb3_, hb4_, hb5_, hb6_, hb7_, hb8_, hb9_, hb10_, hb11_, if_true, Act.put, List.setIfInBounds_toArray, List.set_cons_zero, List.set_cons_succ]
        have B0 := Aside0.mk Q_B0
        clear Q_B0
        have R0 := Aside0.mk Q_R0
        clear Q_R0
        have HRV := Aside0.mk (Q_HRV hb9_)
        clear Q_HRV
        clear hall hb0_ hb1_ hb2_ hb3_ hb4_ hb5_ hb6_ hb7_ hb8_ hb9_ hb10_ hb11_
        clear HRV
        go_wp2_with fail
        go_roundg (h - i)
        case measure => have := HQ.out; have := HBD.out; omega
        case rel => exact ⟨i, h, by first | rfl | (simp; unfold wrap64; have := HBD.out; have := HL.out; omega), by first | rfl | (simp; unfold wrap64; have := HBD.out; have := HL.out; omega), HB2, R0, B0, ⟨by have := HBD.out; omega⟩⟩
      | false =>
        have HTV := Aside0.mk htv
        have HB2 := Aside0.mk (HBS.out.up HMO.out HBD.out.1.1 HBD.out.1.2.1 (by rw [hf, htv]; rfl))
        clear htv hf
        refine start_ (n := 12) (S := fun w' => True) (ds := []) #[false, false, false, false, false, false, false, false, false, false, false, false] (by kernel_rfl) rfl rfl trivial (fun hHeld => ?_)
        refine with_tabW sym.tab17 sym.bits17 (fun HT_ HW_ => ?_)
        generalize wr.drew = wq at B0 R0 hHeld ⊢
        refine inv_at [0, 1, 2, 3, 4, 5, 6, 7, 8, 9, 10, 11] (fun a0_ b a w' => ∃ (rv : Value), a = putSel a0_ b [(0, 92, .func (.func 85) #[] #[]), (1, 93, .slice (some ⟨g, 0, none⟩) n cp), (2, 94, .int .i64 (im : Int)), (3, 95, .pointer (some ⟨g, im * 3, none⟩)), (4, 96, .agg #[.int .i64 x.nr, .int .i64 x.kd, .slice x.A x.n x.c]), (5, 97, .slice (some ⟨g, 0, none⟩) n cp), (6, 98, .int .i64 (h : Int)), (7, 99, .pointer (some ⟨g, h * 3, none⟩)), (8, 100, .agg #[.int .i64 y.nr, .int .i64 y.kd, .slice y.A y.n y.c]), (9, 101, rv), (10, 102, .bool false), (11, 103, .bool true)] ∧ (Kp g w0 w') ∧ (RowB w' g dd) ∧ (b 9 = true → ∃ r_ : Int, rv = .int .i64 r_ ∧ decide (r_ < 0) = false)) HT_.out HW_.out (by kernel_rfl) (by kernel_rfl) ?_ ?_ ?_
        · exact ⟨.bool false, by simp only [putSel, Bool.false_eq_true, if_false], B0.out, R0.out, fun h_ => absurd h_ (by decide)⟩
        · skip
          clear B0 R0
          refine steps_cons ?_ ?_
          · rintro b a w' ⟨rv, ha, Q_B0, Q_R0, Q_HRV⟩ hb_ hon hoff
            refine ⟨_, rfl, fun K hK => ?_⟩
            have e4 : a.tmps[4]? = some (.func (.func 85) #[] #[]) := by rw [ha]; exact (putSel_off rfl).trans rfl
            replace ha := Aside0.mk ha
            have B0 := Aside0.mk Q_B0
            have R0 := Aside0.mk Q_R0
            refine value_ (w1 := w') (v := .func (.func 85) #[] #[]) (by rfl) rfl ?_ ?_
            · go_simp
              (try simp only [i64_w])
              try rfl
            refine hK.out _ _ ⟨rv, (by rw [ha.out]; exact putSel_upk 0 hb_ rfl rfl rfl), Q_B0, Q_R0, fun h0_ => absurd ((hoff 9 (by kernel_rfl)).symm.trans h0_) (by decide)⟩
          refine steps_cons ?_ ?_
          · rintro b a w' ⟨rv, ha, Q_B0, Q_R0, Q_HRV⟩ hb_ hon hoff
            refine ⟨_, rfl, fun K hK => ?_⟩
            have e0 : a.tmps[0]? = some (.slice (some ⟨g, 0, none⟩) n cp) := by rw [ha]; exact (putSel_off rfl).trans rfl
            replace ha := Aside0.mk ha
            have B0 := Aside0.mk Q_B0
            have R0 := Aside0.mk Q_R0
            refine value_ (w1 := w') (v := .slice (some ⟨g, 0, none⟩) n cp) (by rfl) rfl ?_ ?_
            · go_simp
              (try simp only [i64_w])
              try rfl
            refine hK.out _ _ ⟨rv, (by rw [ha.out]; exact putSel_upk 1 hb_ rfl rfl rfl), Q_B0, Q_R0, fun h0_ => absurd ((hoff 9 (by kernel_rfl)).symm.trans h0_) (by decide)⟩
          refine steps_cons ?_ ?_
          · rintro b a w' ⟨rv, ha, Q_B0, Q_R0, Q_HRV⟩ hb_ hon hoff
            refine ⟨_, rfl, fun K hK => ?_⟩
            have e2 : a.tmps[2]? = some (.int .i64 (im : Int)) := by rw [ha]; exact (putSel_off rfl).trans rfl
            replace ha := Aside0.mk ha
            have B0 := Aside0.mk Q_B0
            have R0 := Aside0.mk Q_R0
            refine value_ (w1 := w') (v := .int .i64 (im : Int)) (by rfl) rfl ?_ ?_
            · go_simp
              (try simp only [i64_w])
              try rfl
            refine hK.out _ _ ⟨rv, (by rw [ha.out]; exact putSel_upk 2 hb_ rfl rfl rfl), Q_B0, Q_R0, fun h0_ => absurd ((hoff 9 (by kernel_rfl)).symm.trans h0_) (by decide)⟩
          refine steps_cons ?_ ?_
          · rintro b a w' ⟨rv, ha, Q_B0, Q_R0, Q_HRV⟩ hb_ hon hoff
            refine ⟨_, rfl, fun K hK => ?_⟩
            have e93 : a.tmps[93]? = some (.slice (some ⟨g, 0, none⟩) n cp) := by rw [ha]; exact putSel_on (e := (1, 93, .slice (some ⟨g, 0, none⟩) n cp)) 1 rfl rfl (hon 1 (by kernel_rfl)) rfl
            have e94 : a.tmps[94]? = some (.int .i64 (im : Int)) := by rw [ha]; exact putSel_on (e := (2, 94, .int .i64 (im : Int))) 2 rfl rfl (hon 2 (by kernel_rfl)) rfl
            replace ha := Aside0.mk ha
            have B0 := Aside0.mk Q_B0
            have R0 := Aside0.mk Q_R0
            have p1_ := LO_im.out
            have q1_ := HI_im.out
            refine value_ (w1 := w') (v := .pointer (some ⟨g, im * 3, none⟩)) (by rfl) rfl ?_ ?_
            · go_simp
              (try simp only [i64_w])
              try rfl
            refine hK.out _ _ ⟨rv, (by rw [ha.out]; exact putSel_upk 3 hb_ rfl rfl rfl), Q_B0, Q_R0, fun h0_ => absurd ((hoff 9 (by kernel_rfl)).symm.trans h0_) (by decide)⟩
          refine steps_cons ?_ ?_
          · rintro b a w' ⟨rv, ha, Q_B0, Q_R0, Q_HRV⟩ hb_ hon hoff
            refine ⟨_, rfl, fun K hK => ?_⟩
            have e95 : a.tmps[95]? = some (.pointer (some ⟨g, im * 3, none⟩)) := by rw [ha]; exact putSel_on (e := (3, 95, .pointer (some ⟨g, im * 3, none⟩))) 3 rfl rfl (hon 3 (by kernel_rfl)) rfl
            replace ha := Aside0.mk ha
            have B0 := Aside0.mk Q_B0
            have R0 := Aside0.mk Q_R0
            have cs_ := R0.out.cells HX_im.out
            refine value_ (w1 := w') (v := .agg #[.int .i64 x.nr, .int .i64 x.kd, .slice x.A x.n x.c]) (by rfl) rfl ?_ ?_
            · go_simp
              (try simp only [i64_w])
              try rfl
            refine hK.out _ _ ⟨rv, (by rw [ha.out]; exact putSel_upk 4 hb_ rfl rfl rfl), Q_B0, Q_R0, fun h0_ => absurd ((hoff 9 (by kernel_rfl)).symm.trans h0_) (by decide)⟩
          refine steps_cons ?_ ?_
          · rintro b a w' ⟨rv, ha, Q_B0, Q_R0, Q_HRV⟩ hb_ hon hoff
            refine ⟨_, rfl, fun K hK => ?_⟩
            have e0 : a.tmps[0]? = some (.slice (some ⟨g, 0, none⟩) n cp) := by rw [ha]; exact (putSel_off rfl).trans rfl
            replace ha := Aside0.mk ha
            have B0 := Aside0.mk Q_B0
            have R0 := Aside0.mk Q_R0
            refine value_ (w1 := w') (v := .slice (some ⟨g, 0, none⟩) n cp) (by rfl) rfl ?_ ?_
            · go_simp
              (try simp only [i64_w])
              try rfl
            refine hK.out _ _ ⟨rv, (by rw [ha.out]; exact putSel_upk 5 hb_ rfl rfl rfl), Q_B0, Q_R0, fun h0_ => absurd ((hoff 9 (by kernel_rfl)).symm.trans h0_) (by decide)⟩
          refine steps_cons ?_ ?_
          · rintro b a w' ⟨rv, ha, Q_B0, Q_R0, Q_HRV⟩ hb_ hon hoff
            refine ⟨_, rfl, fun K hK => ?_⟩
            have e16 : a.tmps[16]? = some (.int .i64 (h : Int)) := by rw [ha]; exact (putSel_off rfl).trans rfl
            replace ha := Aside0.mk ha
            have B0 := Aside0.mk Q_B0
            have R0 := Aside0.mk Q_R0
            refine value_ (w1 := w') (v := .int .i64 (h : Int)) (by rfl) rfl ?_ ?_
            · go_simp
              (try simp only [i64_w])
              try rfl
            refine hK.out _ _ ⟨rv, (by rw [ha.out]; exact putSel_upk 6 hb_ rfl rfl rfl), Q_B0, Q_R0, fun h0_ => absurd ((hoff 9 (by kernel_rfl)).symm.trans h0_) (by decide)⟩
          refine steps_cons ?_ ?_
          · rintro b a w' ⟨rv, ha, Q_B0, Q_R0, Q_HRV⟩ hb_ hon hoff
            refine ⟨_, rfl, fun K hK => ?_⟩
            have e97 : a.tmps[97]? = some (.slice (some ⟨g, 0, none⟩) n cp) := by rw [ha]; exact putSel_on (e := (5, 97, .slice (some ⟨g, 0, none⟩) n cp)) 5 rfl rfl (hon 5 (by kernel_rfl)) rfl
            have e98 : a.tmps[98]? = some (.int .i64 (h : Int)) := by rw [ha]; exact putSel_on (e := (6, 98, .int .i64 (h : Int))) 6 rfl rfl (hon 6 (by kernel_rfl)) rfl
            replace ha := Aside0.mk ha
            have B0 := Aside0.mk Q_B0
            have R0 := Aside0.mk Q_R0
            have p1_ := LO_h.out
            have q1_ := HI_h.out
            refine value_ (w1 := w') (v := .pointer (some ⟨g, h * 3, none⟩)) (by rfl) rfl ?_ ?_
            · go_simp
              (try simp only [i64_w])
              try rfl
            refine hK.out _ _ ⟨rv, (by rw [ha.out]; exact putSel_upk 7 hb_ rfl rfl rfl), Q_B0, Q_R0, fun h0_ => absurd ((hoff 9 (by kernel_rfl)).symm.trans h0_) (by decide)⟩
          refine steps_cons ?_ ?_
          · rintro b a w' ⟨rv, ha, Q_B0, Q_R0, Q_HRV⟩ hb_ hon hoff
            refine ⟨_, rfl, fun K hK => ?_⟩
            have e99 : a.tmps[99]? = some (.pointer (some ⟨g, h * 3, none⟩)) := by rw [ha]; exact putSel_on (e := (7, 99, .pointer (some ⟨g, h * 3, none⟩))) 7 rfl rfl (hon 7 (by kernel_rfl)) rfl
            replace ha := Aside0.mk ha
            have B0 := Aside0.mk Q_B0
            have R0 := Aside0.mk Q_R0
            have cs_ := R0.out.cells HX_h.out
            refine value_ (w1 := w') (v := .agg #[.int .i64 y.nr, .int .i64 y.kd, .slice y.A y.n y.c]) (by rfl) rfl ?_ ?_
            · go_simp
              (try simp only [i64_w])
              try rfl
            refine hK.out _ _ ⟨rv, (by rw [ha.out]; exact putSel_upk 8 hb_ rfl rfl rfl), Q_B0, Q_R0, fun h0_ => absurd ((hoff 9 (by kernel_rfl)).symm.trans h0_) (by decide)⟩
          refine steps_cons ?_ ?_
          · rintro b a w' ⟨rv, ha, Q_B0, Q_R0, Q_HRV⟩ hb_ hon hoff
            refine ⟨_, rfl, fun K hK => ?_⟩
            have e92 : a.tmps[92]? = some (.func (.func 85) #[] #[]) := by rw [ha]; exact putSel_on (e := (0, 92, .func (.func 85) #[] #[])) 0 rfl rfl (hon 0 (by kernel_rfl)) rfl
            have e96 : a.tmps[96]? = some (.agg #[.int .i64 x.nr, .int .i64 x.kd, .slice x.A x.n x.c]) := by rw [ha]; exact putSel_on (e := (4, 96, .agg #[.int .i64 x.nr, .int .i64 x.kd, .slice x.A x.n x.c])) 4 rfl rfl (hon 4 (by kernel_rfl)) rfl
            have e100 : a.tmps[100]? = some (.agg #[.int .i64 y.nr, .int .i64 y.kd, .slice y.A y.n y.c]) := by rw [ha]; exact putSel_on (e := (8, 100, .agg #[.int .i64 y.nr, .int .i64 y.kd, .slice y.A y.n y.c])) 8 rfl rfl (hon 8 (by kernel_rfl)) rfl
            replace ha := Aside0.mk ha
            have B0 := Aside0.mk Q_B0
            have R0 := Aside0.mk Q_R0
            refine goesv_ (t := 92) Try.func85 (by kernel_rfl) rfl #[.agg #[.int .i64 x.nr, .int .i64 x.kd, .slice x.A x.n x.c], .agg #[.int .i64 y.nr, .int .i64 y.kd, .slice y.A y.n y.c]] (by rfl) rfl rfl e92 (by first | (simp only [List.map_toArray, List.map_cons, List.map_nil, Act.eval, Array.getD_eq_getD_getElem?, Option.getD_some, e92, e96, e100]; done) | (simp only [List.map_toArray, List.map_cons, List.map_nil, Act.eval, Array.getD_eq_getD_getElem?, Option.getD_some, e92, e96, e100]; rfl)) ?_
            with_reducible refine (HCMP.out w' x y).mono ?_
            rintro e w2 ⟨r_, rfl, hr_, hb⟩
            refine ⟨_, rfl, ?_⟩
            refine hK.out _ _ ⟨.int .i64 r_, (by rw [ha.out]; exact putSel_upk 9 hb_ rfl rfl rfl), below_row B0.out HG.out R0.out hb, RowB.below R0.out hb, fun _ => ⟨r_, rfl, hr_.trans HTV.out⟩⟩
          refine steps_cons ?_ ?_
          · rintro b a w' ⟨rv, ha, Q_B0, Q_R0, Q_HRV⟩ hb_ hon hoff
            refine ⟨_, rfl, fun K hK => ?_⟩
            have e101 : a.tmps[101]? = some (rv) := by rw [ha]; exact putSel_on (e := (9, 101, rv)) 9 rfl rfl (hon 9 (by kernel_rfl)) rfl
            replace ha := Aside0.mk ha
            have B0 := Aside0.mk Q_B0
            have R0 := Aside0.mk Q_R0
            have HRV := Aside0.mk (Q_HRV (hon 9 (by kernel_rfl)))
            obtain ⟨r_, hr1_, hr2_⟩ := HRV.out
            rw [hr1_] at e101
            refine value_ (w1 := w') (v := .bool false) (by rfl) rfl ?_ ?_
            · go_simp
              (try simp only [i64_w])
              try rfl
            refine hK.out _ _ ⟨rv, (by rw [ha.out]; exact putSel_upk 10 hb_ rfl rfl rfl), Q_B0, Q_R0, Q_HRV⟩
          refine steps_cons ?_ ?_
          · rintro b a w' ⟨rv, ha, Q_B0, Q_R0, Q_HRV⟩ hb_ hon hoff
            refine ⟨_, rfl, fun K hK => ?_⟩
            have e102 : a.tmps[102]? = some (.bool false) := by rw [ha]; exact putSel_on (e := (10, 102, .bool false)) 10 rfl rfl (hon 10 (by kernel_rfl)) rfl
            replace ha := Aside0.mk ha
            have B0 := Aside0.mk Q_B0
            have R0 := Aside0.mk Q_R0
            have HRV := Aside0.mk (Q_HRV (hon 9 (by kernel_rfl)))
            refine value_ (w1 := w') (v := .bool true) (by rfl) rfl ?_ ?_
            · go_simp
              (try simp only [i64_w])
              try rfl
            refine hK.out _ _ ⟨rv, (by rw [ha.out]; exact putSel_upk 11 hb_ rfl rfl rfl), Q_B0, Q_R0, Q_HRV⟩
          exact steps_nil
        rintro b a wl hall ⟨rv, ha, Q_B0, Q_R0, Q_HRV⟩
        clear B0 R0
        have hb0_ := hall 0 (by kernel_rfl)
        have hb1_ := hall 1 (by kernel_rfl)
        have hb2_ := hall 2 (by kernel_rfl)
        have hb3_ := hall 3 (by kernel_rfl)
        have hb4_ := hall 4 (by kernel_rfl)
        have hb5_ := hall 5 (by kernel_rfl)
        have hb6_ := hall 6 (by kernel_rfl)
        have hb7_ := hall 7 (by kernel_rfl)
        have hb8_ := hall 8 (by kernel_rfl)
        have hb9_ := hall 9 (by kernel_rfl)
        have hb10_ := hall 10 (by kernel_rfl)
        have hb11_ := hall 11 (by kernel_rfl)
        subst ha
        simp only [putSel, hb0_, hb1_, hb2_, hb3_, hb4_, hb5_, hb6_, hb7_, hb8_, hb9_, hb10_, hb11_, if_true, Act.put, List.setIfInBounds_toArray, List.set_cons_zero, List.set_cons_succ]
        have B0 := Aside0.mk Q_B0
        clear Q_B0
        have R0 := Aside0.mk Q_R0
        clear Q_R0
        have HRV := Aside0.mk (Q_HRV hb9_)
        clear Q_HRV
        clear hall hb0_ hb1_ hb2_ hb3_ hb4_ hb5_ hb6_ hb7_ hb8_ hb9_ hb10_ hb11_
        clear HRV
        go_wp2_with fail
        go_roundg (j - (h + 1))
        case measure => have := HQ.out; have := HBD.out; omega
        case rel => exact ⟨h + 1, j, by first | rfl | (simp; unfold wrap64; have := HBD.out; have := HL.out; omega), by first | rfl | (simp; unfold wrap64; have := HBD.out; have := HL.out; omega), HB2, R0, B0, ⟨by have := HBD.out; omega⟩⟩
    case neg =>
      have hie : i = j := by have := HBS.out; unfold Bs at this; omega
      subst hie
      have t1 : decide (i < i) = false := decide_eq_false (by omega)
      have hbd : ia ≤ i ∧ i ≤ im := by have := HBS.out; unfold Bs at this; omega
      have HBD := Aside0.mk hbd
      have HEND : Aside0 (P ++ (A.take (i - ia) ++ (x :: (A.drop (i - ia) ++ Q))) = P ++ (mrg lt A [x] ++ Q)) := ⟨by
        have hb := HBS.out
        rw [HDD.out, show ia = P.length by have := HL.out; omega, show im = P.length + A.length by have := HL.out; omega] at hb
        have := one_right_end P A Q x i hb
        rw [show P.length = ia by have := HL.out; omega] at this
        exact this⟩
      have RK : Aside0 (RowB wr g (P ++ (A.take (im - ia) ++ (x :: (A.drop (im - ia) ++ Q))))) := ⟨by rw [show im - ia = A.length by have := HL.out; omega, shift_all]; have := RR.out; rw [HDD.out] at this; exact this⟩
      clear hij hbd HBS RR HX_im LO_im HI_im HMO
      go_upto_region 21 with fail
      go_loopg [17] (im - i) (fun kq v17 w' => ∃ k : Nat, v17 = .int .i64 (k : Int) ∧ Aside0 (i ≤ k ∧ k ≤ im) ∧ Aside0 (RowB w' g (P ++ (A.take (k - ia) ++ (x :: (A.drop (k - ia) ++ Q))))) ∧ Aside0 (Kp g w0 w') ∧ Aside0 (kq + i = k))
      case atStart => exact ⟨im, rfl, ⟨by have := HBD.out; have := HL.out; omega⟩, RK, BB, ⟨by have := HBD.out; have := HL.out; omega⟩⟩
      case round =>
      clear RK BB
      obtain ⟨k, rfl, HK, RK, BB, HQK⟩ := hrel
      by_cases hk : i < k
      case neg =>
        have hke : i = k := by have := HK.out; omega
        subst hke
        have t2 : decide (i < i) = false := decide_eq_false (by omega)
        have R2 := Aside0.mk RK.out
        rw [HEND.out] at R2
        clear hk RK
        go_wp2_with fail
        refine bodyPost_ret (results_none rfl _ _ _) rfl ?_
        exact ⟨rfl, BB.out, R2.out⟩
      case pos =>
        have t2 : decide (i < k) = true := decide_eq_true hk
        have hL := HL.out
        have hBD := HBD.out
        have hK := HK.out
        obtain ⟨k1, hk1⟩ : ∃ k1, k1 = k - 1 := ⟨_, rfl⟩
        have htl : k1 - ia < A.length := by omega
        obtain ⟨dk, hdk⟩ : ∃ dk, dk = P ++ (A.take (k - ia) ++ (x :: (A.drop (k - ia) ++ Q))) := ⟨_, rfl⟩
        obtain ⟨y, hy⟩ := some_of A (k1 - ia) htl
        have hx1 : dk[k]? = some x := by rw [hdk]; have := shift_at P A Q x (k - ia) (by omega); rw [show P.length + (k - ia) = k by omega] at this; exact this
        have hy1 : dk[k1]? = some y := by rw [hdk]; have := shift_below P A Q x (k1 - ia) htl; rw [show P.length + (k1 - ia) = k1 by omega, show k1 - ia + 1 = k - ia by omega, hy] at this; exact this
        have hlen : dk.length = n := by rw [hdk, shift_length]; have := HDL.out; rw [HDD.out] at this; simp only [List.length_append, List.length_cons, List.length_nil] at this; omega
        have HSW : Aside0 ((dk.set k y).set k1 x = P ++ (A.take (k1 - ia) ++ (x :: (A.drop (k1 - ia) ++ Q)))) := ⟨by
          have h1 : swp1 dk k k1 = (dk.set k y).set k1 x := by unfold swp1; rw [hx1, hy1]
          rw [← h1, swp1_comm dk k k1 (by omega) (by omega), hdk]
          have := shift_back P A Q x (k1 - ia) htl
          rw [show P.length + (k1 - ia) = k1 by omega, show k1 + 1 = k by omega, show k1 - ia + 1 = k - ia by omega] at this
          exact this⟩
        have HX_k := Aside0.mk hx1
        have HX_k1 := Aside0.mk hy1
        have HX2 : Aside0 ((dk.set k y)[k1]? = some y) := ⟨by rw [List.getElem?_set_ne (by omega)]; exact hy1⟩
        have HW1 : Aside0 (IntKind.i64.wrap ((k : Int) - 1) = (k1 : Int)) := ⟨by rw [i64_w]; unfold wrap64; omega⟩
        have LO_k := Aside0.mk (eq_true (show (0 : Int) ≤ (k : Int) by omega))
        have LO_k1 := Aside0.mk (eq_true (show (0 : Int) ≤ (k1 : Int) by omega))
        have HI_k := Aside0.mk (eq_true (show (k : Int) < (n : Int) by omega))
        have HI_k1 := Aside0.mk (eq_true (show (k1 : Int) < (n : Int) by omega))
        have HK1 := Aside0.mk (And.intro hk hk1)
        rw [← hdk] at RK
        clear hk hL hBD hK htl hk1 hdk hy hx1 hy1 hlen
        go_upto_region 23 with fail
        have B0 := Aside0.mk (kp_drew BB.out)
        have R0 := Aside0.mk (RowB.below RK.out (below_drew1 (Below.refl wr.heap.size wr)))
        clear RK BB t2
        refine start_ (n := 18) (S := fun w' => True) (ds := []) #[false, false, false, false, false, false, false, false, false, false, false, false, false, false, false, false, false, false] (by kernel_rfl) rfl rfl trivial (fun hHeld => ?_)
        refine with_tabW sym.tab23 sym.bits23 (fun HT_ HW_ => ?_)
        generalize wr.drew = wq at B0 R0 hHeld ⊢
        refine inv_at [0, 1, 2, 3, 4, 5, 6, 7, 8, 9, 10, 11, 12, 13, 14, 15, 16, 17] (fun a0_ b a w' => a = putSel a0_ b [(0, 113, .slice (some ⟨g, 0, none⟩) n cp), (1, 114, .int .i64 (k : Int)), (2, 115, .slice (some ⟨g, 0, none⟩) n cp), (3, 116, .int .i64 (k : Int)), (4, 117, .int .i64 (k1 : Int)), (5, 118, .slice (some ⟨g, 0, none⟩) n cp), (6, 119, .int .i64 (k : Int)), (7, 120, .int .i64 (k1 : Int)), (8, 121, .pointer (some ⟨g, k1 * 3, none⟩)), (9, 122, .agg #[.int .i64 y.nr, .int .i64 y.kd, .slice y.A y.n y.c]), (10, 123, .slice (some ⟨g, 0, none⟩) n cp), (11, 124, .int .i64 (k : Int)), (12, 125, .pointer (some ⟨g, k * 3, none⟩)), (13, 126, .agg #[.int .i64 x.nr, .int .i64 x.kd, .slice x.A x.n x.c]), (14, 127, .pointer (some ⟨g, k * 3, none⟩)), (16, 128, .pointer (some ⟨g, k1 * 3, none⟩))] ∧ (Kp g w0 w') ∧ (b 15 = false → RowB w' g dk) ∧ (b 15 = true → b 17 = false → RowB w' g (dk.set k y)) ∧ (b 17 = true → RowB w' g ((dk.set k y).set k1 x))) HT_.out HW_.out (by kernel_rfl) (by kernel_rfl) ?_ ?_ ?_
        · exact ⟨by simp only [putSel, Bool.false_eq_true, if_false], B0.out, fun _ => R0.out, fun h_ => absurd h_ (by decide), fun h_ => absurd h_ (by decide)⟩
        · skip
          clear B0 R0
          refine steps_cons ?_ ?_
          · rintro b a w' ⟨ha, Q_B0, Q_R0, Q_R1, Q_R2⟩ hb_ hon hoff
            refine ⟨_, rfl, fun K hK => ?_⟩
            have e0 : a.tmps[0]? = some (.slice (some ⟨g, 0, none⟩) n cp) := by rw [ha]; exact (putSel_off rfl).trans rfl
            replace ha := Aside0.mk ha
            have B0 := Aside0.mk Q_B0
            have R0 := Aside0.mk (Q_R0 (hoff 15 (by kernel_rfl)))
            refine value_ (w1 := w') (v := .slice (some ⟨g, 0, none⟩) n cp) (by rfl) rfl ?_ ?_
            · go_simp
              (try simp only [i64_w])
              try rfl
            refine hK.out _ _ ⟨(by rw [ha.out]; exact putSel_upk 0 hb_ rfl rfl rfl), Q_B0, Q_R0, fun h0_ _ => absurd ((hoff 15 (by kernel_rfl)).symm.trans h0_) (by decide), fun h0_ => absurd ((hoff 17 (by kernel_rfl)).symm.trans h0_) (by decide)⟩
          refine steps_cons ?_ ?_
          · rintro b a w' ⟨ha, Q_B0, Q_R0, Q_R1, Q_R2⟩ hb_ hon hoff
            refine ⟨_, rfl, fun K hK => ?_⟩
            have e17 : a.tmps[17]? = some (.int .i64 (k : Int)) := by rw [ha]; exact (putSel_off rfl).trans rfl
            replace ha := Aside0.mk ha
            have B0 := Aside0.mk Q_B0
            have R0 := Aside0.mk (Q_R0 (hoff 15 (by kernel_rfl)))
            refine value_ (w1 := w') (v := .int .i64 (k : Int)) (by rfl) rfl ?_ ?_
            · go_simp
              (try simp only [i64_w])
              try rfl
            refine hK.out _ _ ⟨(by rw [ha.out]; exact putSel_upk 1 hb_ rfl rfl rfl), Q_B0, Q_R0, fun h0_ _ => absurd ((hoff 15 (by kernel_rfl)).symm.trans h0_) (by decide), fun h0_ => absurd ((hoff 17 (by kernel_rfl)).symm.trans h0_) (by decide)⟩
          refine steps_cons ?_ ?_
          · rintro b a w' ⟨ha, Q_B0, Q_R0, Q_R1, Q_R2⟩ hb_ hon hoff
            refine ⟨_, rfl, fun K hK => ?_⟩
            have e0 : a.tmps[0]? = some (.slice (some ⟨g, 0, none⟩) n cp) := by rw [ha]; exact (putSel_off rfl).trans rfl
            replace ha := Aside0.mk ha
            have B0 := Aside0.mk Q_B0
            refine value_ (w1 := w') (v := .slice (some ⟨g, 0, none⟩) n cp) (by rfl) rfl ?_ ?_
            · go_simp
              (try simp only [i64_w])
              try rfl
            refine hK.out _ _ ⟨(by rw [ha.out]; exact putSel_upk 2 hb_ rfl rfl rfl), Q_B0, Q_R0, Q_R1, fun h0_ => absurd ((hoff 17 (by kernel_rfl)).symm.trans h0_) (by decide)⟩
          refine steps_cons ?_ ?_
          · rintro b a w' ⟨ha, Q_B0, Q_R0, Q_R1, Q_R2⟩ hb_ hon hoff
            refine ⟨_, rfl, fun K hK => ?_⟩
            have e17 : a.tmps[17]? = some (.int .i64 (k : Int)) := by rw [ha]; exact (putSel_off rfl).trans rfl
            replace ha := Aside0.mk ha
            have B0 := Aside0.mk Q_B0
            refine value_ (w1 := w') (v := .int .i64 (k : Int)) (by rfl) rfl ?_ ?_
            · go_simp
              (try simp only [i64_w])
              try rfl
            refine hK.out _ _ ⟨(by rw [ha.out]; exact putSel_upk 3 hb_ rfl rfl rfl), Q_B0, Q_R0, Q_R1, fun h0_ => absurd ((hoff 17 (by kernel_rfl)).symm.trans h0_) (by decide)⟩
          refine steps_cons ?_ ?_
          · rintro b a w' ⟨ha, Q_B0, Q_R0, Q_R1, Q_R2⟩ hb_ hon hoff
            refine ⟨_, rfl, fun K hK => ?_⟩
            have e116 : a.tmps[116]? = some (.int .i64 (k : Int)) := by rw [ha]; exact putSel_on (e := (3, 116, .int .i64 (k : Int))) 3 rfl rfl (hon 3 (by kernel_rfl)) rfl
            replace ha := Aside0.mk ha
            have B0 := Aside0.mk Q_B0
            have hw0_ := HW1.out
            refine value_ (w1 := w') (v := .int .i64 (k1 : Int)) (by rfl) rfl ?_ ?_
            · go_simp
              (try simp only [i64_w])
              try rfl
            refine hK.out _ _ ⟨(by rw [ha.out]; exact putSel_upk 4 hb_ rfl rfl rfl), Q_B0, Q_R0, Q_R1, fun h0_ => absurd ((hoff 17 (by kernel_rfl)).symm.trans h0_) (by decide)⟩
          refine steps_cons ?_ ?_
          · rintro b a w' ⟨ha, Q_B0, Q_R0, Q_R1, Q_R2⟩ hb_ hon hoff
            refine ⟨_, rfl, fun K hK => ?_⟩
            have e0 : a.tmps[0]? = some (.slice (some ⟨g, 0, none⟩) n cp) := by rw [ha]; exact (putSel_off rfl).trans rfl
            replace ha := Aside0.mk ha
            have B0 := Aside0.mk Q_B0
            have R0 := Aside0.mk (Q_R0 (hoff 15 (by kernel_rfl)))
            refine value_ (w1 := w') (v := .slice (some ⟨g, 0, none⟩) n cp) (by rfl) rfl ?_ ?_
            · go_simp
              (try simp only [i64_w])
              try rfl
            refine hK.out _ _ ⟨(by rw [ha.out]; exact putSel_upk 5 hb_ rfl rfl rfl), Q_B0, Q_R0, fun h0_ _ => absurd ((hoff 15 (by kernel_rfl)).symm.trans h0_) (by decide), fun h0_ => absurd ((hoff 17 (by kernel_rfl)).symm.trans h0_) (by decide)⟩
          refine steps_cons ?_ ?_
          · rintro b a w' ⟨ha, Q_B0, Q_R0, Q_R1, Q_R2⟩ hb_ hon hoff
            refine ⟨_, rfl, fun K hK => ?_⟩
            have e17 : a.tmps[17]? = some (.int .i64 (k : Int)) := by rw [ha]; exact (putSel_off rfl).trans rfl
            replace ha := Aside0.mk ha
            have B0 := Aside0.mk Q_B0
            have R0 := Aside0.mk (Q_R0 (hoff 15 (by kernel_rfl)))
            refine value_ (w1 := w') (v := .int .i64 (k : Int)) (by rfl) rfl ?_ ?_
            · go_simp
              (try simp only [i64_w])
              try rfl
            refine hK.out _ _ ⟨(by rw [ha.out]; exact putSel_upk 6 hb_ rfl rfl rfl), Q_B0, Q_R0, fun h0_ _ => absurd ((hoff 15 (by kernel_rfl)).symm.trans h0_) (by decide), fun h0_ => absurd ((hoff 17 (by kernel_rfl)).symm.trans h0_) (by decide)⟩
          refine steps_cons ?_ ?_
          · rintro b a w' ⟨ha, Q_B0, Q_R0, Q_R1, Q_R2⟩ hb_ hon hoff
            refine ⟨_, rfl, fun K hK => ?_⟩
            have e119 : a.tmps[119]? = some (.int .i64 (k : Int)) := by rw [ha]; exact putSel_on (e := (6, 119, .int .i64 (k : Int))) 6 rfl rfl (hon 6 (by kernel_rfl)) rfl
            replace ha := Aside0.mk ha
            have B0 := Aside0.mk Q_B0
            have R0 := Aside0.mk (Q_R0 (hoff 15 (by kernel_rfl)))
            have hw0_ := HW1.out
            refine value_ (w1 := w') (v := .int .i64 (k1 : Int)) (by rfl) rfl ?_ ?_
            · go_simp
              (try simp only [i64_w])
              try rfl
            refine hK.out _ _ ⟨(by rw [ha.out]; exact putSel_upk 7 hb_ rfl rfl rfl), Q_B0, Q_R0, fun h0_ _ => absurd ((hoff 15 (by kernel_rfl)).symm.trans h0_) (by decide), fun h0_ => absurd ((hoff 17 (by kernel_rfl)).symm.trans h0_) (by decide)⟩
          refine steps_cons ?_ ?_
          · rintro b a w' ⟨ha, Q_B0, Q_R0, Q_R1, Q_R2⟩ hb_ hon hoff
            refine ⟨_, rfl, fun K hK => ?_⟩
            have e118 : a.tmps[118]? = some (.slice (some ⟨g, 0, none⟩) n cp) := by rw [ha]; exact putSel_on (e := (5, 118, .slice (some ⟨g, 0, none⟩) n cp)) 5 rfl rfl (hon 5 (by kernel_rfl)) rfl
            have e120 : a.tmps[120]? = some (.int .i64 (k1 : Int)) := by rw [ha]; exact putSel_on (e := (7, 120, .int .i64 (k1 : Int))) 7 rfl rfl (hon 7 (by kernel_rfl)) rfl
            replace ha := Aside0.mk ha
            have B0 := Aside0.mk Q_B0
            have R0 := Aside0.mk (Q_R0 (hoff 15 (by kernel_rfl)))
            have p1_ := LO_k1.out
            have q1_ := HI_k1.out
            refine value_ (w1 := w') (v := .pointer (some ⟨g, k1 * 3, none⟩)) (by rfl) rfl ?_ ?_
            · go_simp
              (try simp only [i64_w])
              try rfl
            refine hK.out _ _ ⟨(by rw [ha.out]; exact putSel_upk 8 hb_ rfl rfl rfl), Q_B0, Q_R0, fun h0_ _ => absurd ((hoff 15 (by kernel_rfl)).symm.trans h0_) (by decide), fun h0_ => absurd ((hoff 17 (by kernel_rfl)).symm.trans h0_) (by decide)⟩
          refine steps_cons ?_ ?_
          · rintro b a w' ⟨ha, Q_B0, Q_R0, Q_R1, Q_R2⟩ hb_ hon hoff
            refine ⟨_, rfl, fun K hK => ?_⟩
            have e121 : a.tmps[121]? = some (.pointer (some ⟨g, k1 * 3, none⟩)) := by rw [ha]; exact putSel_on (e := (8, 121, .pointer (some ⟨g, k1 * 3, none⟩))) 8 rfl rfl (hon 8 (by kernel_rfl)) rfl
            replace ha := Aside0.mk ha
            have B0 := Aside0.mk Q_B0
            have R0 := Aside0.mk (Q_R0 (hoff 15 (by kernel_rfl)))
            have cs_ := R0.out.cells HX_k1.out
            refine value_ (w1 := w') (v := .agg #[.int .i64 y.nr, .int .i64 y.kd, .slice y.A y.n y.c]) (by rfl) rfl ?_ ?_
            · go_simp
              (try simp only [i64_w])
              try rfl
            refine hK.out _ _ ⟨(by rw [ha.out]; exact putSel_upk 9 hb_ rfl rfl rfl), Q_B0, Q_R0, fun h0_ _ => absurd ((hoff 15 (by kernel_rfl)).symm.trans h0_) (by decide), fun h0_ => absurd ((hoff 17 (by kernel_rfl)).symm.trans h0_) (by decide)⟩
          refine steps_cons ?_ ?_
          · rintro b a w' ⟨ha, Q_B0, Q_R0, Q_R1, Q_R2⟩ hb_ hon hoff
            refine ⟨_, rfl, fun K hK => ?_⟩
            have e0 : a.tmps[0]? = some (.slice (some ⟨g, 0, none⟩) n cp) := by rw [ha]; exact (putSel_off rfl).trans rfl
            replace ha := Aside0.mk ha
            have B0 := Aside0.mk Q_B0
            have R0 := Aside0.mk (Q_R0 (hoff 15 (by kernel_rfl)))
            refine value_ (w1 := w') (v := .slice (some ⟨g, 0, none⟩) n cp) (by rfl) rfl ?_ ?_
            · go_simp
              (try simp only [i64_w])
              try rfl
            refine hK.out _ _ ⟨(by rw [ha.out]; exact putSel_upk 10 hb_ rfl rfl rfl), Q_B0, Q_R0, fun h0_ _ => absurd ((hoff 15 (by kernel_rfl)).symm.trans h0_) (by decide), fun h0_ => absurd ((hoff 17 (by kernel_rfl)).symm.trans h0_) (by decide)⟩
          refine steps_cons ?_ ?_
          · rintro b a w' ⟨ha, Q_B0, Q_R0, Q_R1, Q_R2⟩ hb_ hon hoff
            refine ⟨_, rfl, fun K hK => ?_⟩
            have e17 : a.tmps[17]? = some (.int .i64 (k : Int)) := by rw [ha]; exact (putSel_off rfl).trans rfl
            replace ha := Aside0.mk ha
            have B0 := Aside0.mk Q_B0
            have R0 := Aside0.mk (Q_R0 (hoff 15 (by kernel_rfl)))
            refine value_ (w1 := w') (v := .int .i64 (k : Int)) (by rfl) rfl ?_ ?_
            · go_simp
              (try simp only [i64_w])
              try rfl
            refine hK.out _ _ ⟨(by rw [ha.out]; exact putSel_upk 11 hb_ rfl rfl rfl), Q_B0, Q_R0, fun h0_ _ => absurd ((hoff 15 (by kernel_rfl)).symm.trans h0_) (by decide), fun h0_ => absurd ((hoff 17 (by kernel_rfl)).symm.trans h0_) (by decide)⟩
          refine steps_cons ?_ ?_
          · rintro b a w' ⟨ha, Q_B0, Q_R0, Q_R1, Q_R2⟩ hb_ hon hoff
            refine ⟨_, rfl, fun K hK => ?_⟩
            have e123 : a.tmps[123]? = some (.slice (some ⟨g, 0, none⟩) n cp) := by rw [ha]; exact putSel_on (e := (10, 123, .slice (some ⟨g, 0, none⟩) n cp)) 10 rfl rfl (hon 10 (by kernel_rfl)) rfl
            have e124 : a.tmps[124]? = some (.int .i64 (k : Int)) := by rw [ha]; exact putSel_on (e := (11, 124, .int .i64 (k : Int))) 11 rfl rfl (hon 11 (by kernel_rfl)) rfl
            replace ha := Aside0.mk ha
            have B0 := Aside0.mk Q_B0
            have R0 := Aside0.mk (Q_R0 (hoff 15 (by kernel_rfl)))
            have p1_ := LO_k.out
            have q1_ := HI_k.out
            refine value_ (w1 := w') (v := .pointer (some ⟨g, k * 3, none⟩)) (by rfl) rfl ?_ ?_
            · go_simp
              (try simp only [i64_w])
              try rfl
            refine hK.out _ _ ⟨(by rw [ha.out]; exact putSel_upk 12 hb_ rfl rfl rfl), Q_B0, Q_R0, fun h0_ _ => absurd ((hoff 15 (by kernel_rfl)).symm.trans h0_) (by decide), fun h0_ => absurd ((hoff 17 (by kernel_rfl)).symm.trans h0_) (by decide)⟩
          refine steps_cons ?_ ?_
          · rintro b a w' ⟨ha, Q_B0, Q_R0, Q_R1, Q_R2⟩ hb_ hon hoff
            refine ⟨_, rfl, fun K hK => ?_⟩
            have e125 : a.tmps[125]? = some (.pointer (some ⟨g, k * 3, none⟩)) := by rw [ha]; exact putSel_on (e := (12, 125, .pointer (some ⟨g, k * 3, none⟩))) 12 rfl rfl (hon 12 (by kernel_rfl)) rfl
            replace ha := Aside0.mk ha
            have B0 := Aside0.mk Q_B0
            have R0 := Aside0.mk (Q_R0 (hoff 15 (by kernel_rfl)))
            have cs_ := R0.out.cells HX_k.out
            refine value_ (w1 := w') (v := .agg #[.int .i64 x.nr, .int .i64 x.kd, .slice x.A x.n x.c]) (by rfl) rfl ?_ ?_
            · go_simp
              (try simp only [i64_w])
              try rfl
            refine hK.out _ _ ⟨(by rw [ha.out]; exact putSel_upk 13 hb_ rfl rfl rfl), Q_B0, Q_R0, fun h0_ _ => absurd ((hoff 15 (by kernel_rfl)).symm.trans h0_) (by decide), fun h0_ => absurd ((hoff 17 (by kernel_rfl)).symm.trans h0_) (by decide)⟩
          refine steps_cons ?_ ?_
          · rintro b a w' ⟨ha, Q_B0, Q_R0, Q_R1, Q_R2⟩ hb_ hon hoff
            refine ⟨_, rfl, fun K hK => ?_⟩
            have e113 : a.tmps[113]? = some (.slice (some ⟨g, 0, none⟩) n cp) := by rw [ha]; exact putSel_on (e := (0, 113, .slice (some ⟨g, 0, none⟩) n cp)) 0 rfl rfl (hon 0 (by kernel_rfl)) rfl
            have e114 : a.tmps[114]? = some (.int .i64 (k : Int)) := by rw [ha]; exact putSel_on (e := (1, 114, .int .i64 (k : Int))) 1 rfl rfl (hon 1 (by kernel_rfl)) rfl
            replace ha := Aside0.mk ha
            have B0 := Aside0.mk Q_B0
            have R0 := Aside0.mk (Q_R0 (hoff 15 (by kernel_rfl)))
            have p1_ := LO_k.out
            have q1_ := HI_k.out
            refine value_ (w1 := w') (v := .pointer (some ⟨g, k * 3, none⟩)) (by rfl) rfl ?_ ?_
            · go_simp
              (try simp only [i64_w])
              try rfl
            refine hK.out _ _ ⟨(by rw [ha.out]; exact putSel_upk 14 hb_ rfl rfl rfl), Q_B0, Q_R0, fun h0_ _ => absurd ((hoff 15 (by kernel_rfl)).symm.trans h0_) (by decide), fun h0_ => absurd ((hoff 17 (by kernel_rfl)).symm.trans h0_) (by decide)⟩
          refine steps_cons ?_ ?_
          · rintro b a w' ⟨ha, Q_B0, Q_R0, Q_R1, Q_R2⟩ hb_ hon hoff
            refine ⟨_, rfl, fun K hK => ?_⟩
            have e127 : a.tmps[127]? = some (.pointer (some ⟨g, k * 3, none⟩)) := by rw [ha]; exact putSel_on (e := (14, 127, .pointer (some ⟨g, k * 3, none⟩))) 14 rfl rfl (hon 14 (by kernel_rfl)) rfl
            have e122 : a.tmps[122]? = some (.agg #[.int .i64 y.nr, .int .i64 y.kd, .slice y.A y.n y.c]) := by rw [ha]; exact putSel_on (e := (9, 122, .agg #[.int .i64 y.nr, .int .i64 y.kd, .slice y.A y.n y.c])) 9 rfl rfl (hon 9 (by kernel_rfl)) rfl
            replace ha := Aside0.mk ha
            have B0 := Aside0.mk Q_B0
            have R0 := Aside0.mk (Q_R0 hb_)
            have cs_ := R0.out.cells HX_k.out
            have f0_ := R0.out.frozen (k * 3)
            have f1_ := R0.out.frozen (k * 3 + 1)
            have f2_ := R0.out.frozen (k * 3 + 2)
            refine skip_ (w1 := ?_) (by rfl) rfl ?_ ?_
            rotate_left
            · go_simp
              rfl
            refine hK.out _ _ ⟨(by rw [ha.out]; exact putSel_none (v := undef) rfl), setRec_below (j := k) (x := y) B0.out HG.out, fun h0_ => absurd ((up_self b 15).symm.trans h0_) (by decide), fun _ _ => R0.out.set k y, fun h0_ => absurd ((hoff 17 (by kernel_rfl)).symm.trans h0_) (by decide)⟩
          refine steps_cons ?_ ?_
          · rintro b a w' ⟨ha, Q_B0, Q_R0, Q_R1, Q_R2⟩ hb_ hon hoff
            refine ⟨_, rfl, fun K hK => ?_⟩
            have e115 : a.tmps[115]? = some (.slice (some ⟨g, 0, none⟩) n cp) := by rw [ha]; exact putSel_on (e := (2, 115, .slice (some ⟨g, 0, none⟩) n cp)) 2 rfl rfl (hon 2 (by kernel_rfl)) rfl
            have e117 : a.tmps[117]? = some (.int .i64 (k1 : Int)) := by rw [ha]; exact putSel_on (e := (4, 117, .int .i64 (k1 : Int))) 4 rfl rfl (hon 4 (by kernel_rfl)) rfl
            replace ha := Aside0.mk ha
            have B0 := Aside0.mk Q_B0
            have R1 := Aside0.mk (Q_R1 (hon 15 (by kernel_rfl)) (hoff 17 (by kernel_rfl)))
            have p1_ := LO_k1.out
            have q1_ := HI_k1.out
            refine value_ (w1 := w') (v := .pointer (some ⟨g, k1 * 3, none⟩)) (by rfl) rfl ?_ ?_
            · go_simp
              (try simp only [i64_w])
              try rfl
            refine hK.out _ _ ⟨(by rw [ha.out]; exact putSel_upk 15 hb_ rfl rfl rfl), Q_B0, fun h0_ => absurd ((hon 15 (by kernel_rfl)).symm.trans h0_) (by decide), Q_R1, fun h0_ => absurd ((hoff 17 (by kernel_rfl)).symm.trans h0_) (by decide)⟩
          refine steps_cons ?_ ?_
          · rintro b a w' ⟨ha, Q_B0, Q_R0, Q_R1, Q_R2⟩ hb_ hon hoff
            refine ⟨_, rfl, fun K hK => ?_⟩
            have e128 : a.tmps[128]? = some (.pointer (some ⟨g, k1 * 3, none⟩)) := by rw [ha]; exact putSel_on (e := (16, 128, .pointer (some ⟨g, k1 * 3, none⟩))) 15 rfl rfl (hon 16 (by kernel_rfl)) rfl
            have e126 : a.tmps[126]? = some (.agg #[.int .i64 x.nr, .int .i64 x.kd, .slice x.A x.n x.c]) := by rw [ha]; exact putSel_on (e := (13, 126, .agg #[.int .i64 x.nr, .int .i64 x.kd, .slice x.A x.n x.c])) 13 rfl rfl (hon 13 (by kernel_rfl)) rfl
            replace ha := Aside0.mk ha
            have B0 := Aside0.mk Q_B0
            have R1 := Aside0.mk (Q_R1 (hon 15 (by kernel_rfl)) hb_)
            have cs_ := R1.out.cells HX2.out
            have f0_ := R1.out.frozen (k1 * 3)
            have f1_ := R1.out.frozen (k1 * 3 + 1)
            have f2_ := R1.out.frozen (k1 * 3 + 2)
            refine skip_ (w1 := ?_) (by rfl) rfl ?_ ?_
            rotate_left
            · go_simp
              rfl
            refine hK.out _ _ ⟨(by rw [ha.out]; exact putSel_none (v := undef) rfl), setRec_below (j := k1) (x := x) B0.out HG.out, fun h0_ => absurd ((hon 15 (by kernel_rfl)).symm.trans h0_) (by decide), fun _ h1_ => absurd ((up_self b 17).symm.trans h1_) (by decide), fun _ => R1.out.set k1 x⟩
          exact steps_nil
        rintro b a wl hall ⟨ha, Q_B0, Q_R0, Q_R1, Q_R2⟩
        clear B0 R0
        have hb0_ := hall 0 (by kernel_rfl)
        have hb1_ := hall 1 (by kernel_rfl)
        have hb2_ := hall 2 (by kernel_rfl)
        have hb3_ := hall 3 (by kernel_rfl)
        have hb4_ := hall 4 (by kernel_rfl)
        have hb5_ := hall 5 (by kernel_rfl)
        have hb6_ := hall 6 (by kernel_rfl)
        have hb7_ := hall 7 (by kernel_rfl)
        have hb8_ := hall 8 (by kernel_rfl)
        have hb9_ := hall 9 (by kernel_rfl)
        have hb10_ := hall 10 (by kernel_rfl)
        have hb11_ := hall 11 (by kernel_rfl)
        have hb12_ := hall 12 (by kernel_rfl)
        have hb13_ := hall 13 (by kernel_rfl)
        have hb14_ := hall 14 (by kernel_rfl)
        have hb15_ := hall 15 (by kernel_rfl)
        have hb16_ := hall 16 (by kernel_rfl)
        have hb17_ := hall 17 (by kernel_rfl)
        subst ha
        simp only [putSel, hb0_, hb1_, hb2_, hb3_, hb4_, hb5_, hb6_, hb7_, hb8_, hb9_, hb10_, hb11_, hb12_, hb13_, hb14_, hb15_, hb16_, hb17_, if_true, Act.put, List.setIfInBounds_toArray, List.set_cons_zero, List.set_cons_succ]
        have B0 := Aside0.mk Q_B0
        clear Q_B0
        clear Q_R0
        clear Q_R1
        have R2 := Aside0.mk (Q_R2 hb17_)
        clear Q_R2
        clear hall hb0_ hb1_ hb2_ hb3_ hb4_ hb5_ hb6_ hb7_ hb8_ hb9_ hb10_ hb11_ hb12_ hb13_ hb14_ hb15_ hb16_ hb17_
        go_wp2_with fail
        go_roundg (k1 - i)
        case measure => have := HQK.out; have := HK1.out; omega
        case rel => exact ⟨k1, by first | rfl | (rw [← i64_w, HW1.out]) | (simp; unfold wrap64; have := HK1.out; have := HL.out; have := HBD.out; omega), ⟨by have := HK.out; have := HK1.out; omega⟩, ⟨by rw [← HSW.out]; exact R2.out⟩, B0, ⟨by have := HK1.out; omega⟩⟩
end Go.Proofs.Ytnchdmidaigheaa.QS
