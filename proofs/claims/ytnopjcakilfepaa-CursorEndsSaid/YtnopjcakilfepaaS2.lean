import Derived.Test.YtnopjcakilfepaaS1
namespace Go.Proofs.Ytnopjcakilfepaa.QS
set_option linter.unusedVariables false
set_option linter.unusedSimpArgs false
open Go.RowKit Go.Proofs.Ytnopjcakilfepaa.SS Go.Proofs.Ytnopjcakilfepaa.Hp Go.Proofs.YtnopjcakilfepaaW.PrintWords Go.Proofs.YtnopjcakilfepaaW.PrintLast Go.Proofs.YtnopjcakilfepaaW.PrintMore
attribute [local go_sem] max2_int min2_int max_two min_two max_three min_three max_four min_four
set_option maxHeartbeats 4000000 in
set_option maxRecDepth 100000 in
theorem rotate_calls (N : Nat) (w0 : World) (g : Nat) (hg : N ≤ g) (cp : Nat) (fv : Value) (ia im ib n : Nat) (P X Y Q : List Rec) (hP : P.length = ia) (hX : ia + X.length = im) (hY : im + Y.length = ib) (hX0 : 0 < X.length) (hY0 : 0 < Y.length) (hn : (P ++ (X ++ (Y ++ Q))).length = n) (hn2 : n ≤ 1000000) (w : World) (hB : Kp g w0 w) (hR : RowB w g (P ++ (X ++ (Y ++ Q)))) :
    Calls Try.prog 83 #[.slice (some ⟨g, 0, none⟩) n cp, .int .i64 (ia : Int), .int .i64 (im : Int), .int .i64 (ib : Int), fv] w fun e w' => e = .returned (.tuple #[]) ∧ Kp g w0 w' ∧ RowB w' g (P ++ (Y ++ (X ++ Q))) := by
  have HG := Aside0.mk hg
  obtain ⟨tgt, ht⟩ : ∃ t, t = P ++ (Y ++ (X ++ Q)) := ⟨_, rfl⟩
  obtain ⟨i0, hi0⟩ : ∃ i, i = X.length := ⟨_, rfl⟩
  obtain ⟨j0, hj0⟩ : ∃ i, i = Y.length := ⟨_, rfl⟩
  rw [← ht]
  have HTL : Aside0 (tgt.length = n ∧ n ≤ 1000000) := ⟨by rw [ht, ← hn]; simp only [List.length_append]; omega, hn2⟩
  have hw1 : IntKind.i64.wrap ((im : Int) - (ia : Int)) = (i0 : Int) := by rw [i64_w]; unfold wrap64; simp only [List.length_append] at hn; omega
  have hw2 : IntKind.i64.wrap ((ib : Int) - (im : Int)) = (j0 : Int) := by rw [i64_w]; unfold wrap64; simp only [List.length_append] at hn; omega
  have HS : Aside0 (∃ (P X Y Q : List Rec), RowB w g (P ++ (X ++ (Y ++ Q))) ∧ P.length + i0 = im ∧ X.length = i0 ∧ Y.length = j0 ∧ P ++ (Y ++ (X ++ Q)) = tgt) := ⟨P, X, Y, Q, hR, by omega, hi0.symm, hj0.symm, ht.symm⟩
  have HIJ : Aside0 (0 < i0 ∧ 0 < j0) := ⟨by omega⟩
  replace hB := Aside0.mk hB
  clear hg hP hX hY hX0 hY0 hn hn2 hR ht hi0 hj0
  go_enter Try.func83, Try.ntmps83
  go_wp2_with fail
  go_loopg [10, 11] (i0 + j0) (fun kq v10 v11 w' => ∃ i j : Nat, v10 = .int .i64 (i : Int) ∧ v11 = .int .i64 (j : Int) ∧ Aside0 (∃ (P X Y Q : List Rec), RowB w' g (P ++ (X ++ (Y ++ Q))) ∧ P.length + i = im ∧ X.length = i ∧ Y.length = j ∧ P ++ (Y ++ (X ++ Q)) = tgt) ∧ Aside0 (Kp g w0 w') ∧ Aside0 (0 < i ∧ 0 < j) ∧ Aside0 (kq = i + j))
  case atStart => exact ⟨i0, j0, by first | rfl | (rw [← i64_w, hw1]) | (simp [hw1]), by first | rfl | (rw [← i64_w, hw2]) | (simp [hw2]), HS, hB, HIJ, ⟨rfl⟩⟩
  case round =>
    clear HS hB HIJ hw1 hw2
    obtain ⟨i, j, rfl, rfl, HS, BB, HIJ, HQ⟩ := hrel
    obtain ⟨P, X, Y, Q, RR, hP, hX, hY, ht⟩ := HS.out
    clear HS
    have hTL := HTL.out
    have hl : (P ++ (X ++ (Y ++ Q))).length = n := by rw [← hTL.1, ← ht]; simp only [List.length_append]; omega
    have hl' := hl
    simp only [List.length_append] at hl'
    obtain ⟨p, hp⟩ : ∃ p, p = P.length := ⟨_, rfl⟩
    have hw1 : IntKind.i64.wrap ((im : Int) - (i : Int)) = (p : Int) := by rw [i64_w]; unfold wrap64; omega
    by_cases hij : i = j
    case pos =>
      subst hij
      have HC : Aside0 (∀ W, Kp g w0 W → RowB W g (P ++ (X ++ (Y ++ Q))) → Calls Try.prog 84 #[.slice (some ⟨g, 0, none⟩) n cp, .int .i64 (p : Int), .int .i64 (im : Int), .int .i64 (i : Int), fv] W fun e w' => e = .returned (.tuple #[]) ∧ Kp g w0 w' ∧ RowB w' g tgt) := ⟨fun W hB hR => by
        refine (swap_calls N w0 g HG.out cp fv p im i n _ hl hTL.2 (by omega) (by omega) W hB hR).mono ?_
        rintro e w' ⟨h1, h2, h3⟩
        refine ⟨h1, h2, ?_⟩
        have hs := swp_parts P X [] Y Q (by omega)
        simp only [List.nil_append, List.length_nil, Nat.add_zero] at hs
        rw [show P.length = p from hp.symm, show p + X.length = im by omega, hX] at hs
        rw [hs, ht] at h3
        exact h3⟩
      replace RR := Aside0.mk RR
      clear hTL hl hl' hp hP hX hY ht
      go_wp2_with (go_at_call 84; refine (HC.out _ BB.out RR.out).mono ?_; rintro e w2 ⟨rfl, hb, hr⟩)
      go_end0
      exact ⟨rfl, hb, hr⟩
    case neg =>
      by_cases hlt : j < i
      case pos =>
        have HC : Aside0 (∀ W, Kp g w0 W → RowB W g (P ++ (X ++ (Y ++ Q))) → Calls Try.prog 84 #[.slice (some ⟨g, 0, none⟩) n cp, .int .i64 (p : Int), .int .i64 (im : Int), .int .i64 (j : Int), fv] W fun e w' => e = .returned (.tuple #[]) ∧ Kp g w0 w' ∧ RowB w' g ((P ++ Y) ++ (X.drop j ++ (X.take j ++ Q)))) := ⟨fun W hB hR => by
          refine (swap_calls N w0 g HG.out cp fv p im j n _ hl hTL.2 (by omega) (by omega) W hB hR).mono ?_
          rintro e w' ⟨h1, h2, h3⟩
          refine ⟨h1, h2, ?_⟩
          have hs := swp_parts P (X.take j) (X.drop j) Y Q (by rw [List.length_take]; omega)
          rw [show X.take j ++ (X.drop j ++ (Y ++ Q)) = X ++ (Y ++ Q) by rw [← List.append_assoc, List.take_append_drop], List.length_take, List.length_drop, show min j X.length = j by omega, show P.length = p from hp.symm, show p + j + (X.length - j) = im by omega] at hs
          rw [hs, ← List.append_assoc] at h3
          exact h3⟩
        have hw2 : IntKind.i64.wrap ((i : Int) - (j : Int)) = ((i - j : Nat) : Int) := by rw [i64_w]; unfold wrap64; omega
        have HP2 : Aside0 ((P ++ Y).length + (i - j) = im ∧ (X.drop j).length = i - j ∧ (X.take j).length = j ∧ (P ++ Y) ++ (X.take j ++ (X.drop j ++ Q)) = tgt) := ⟨by simp only [List.length_append]; omega, by rw [List.length_drop]; omega, by rw [List.length_take]; omega, by rw [← ht, List.append_assoc, ← List.append_assoc (X.take j), List.take_append_drop]⟩
        generalize (P ++ Y) = P2 at HP2 HC
        generalize X.drop j = X2 at HP2 HC
        generalize X.take j = Y2 at HP2 HC
        replace RR := Aside0.mk RR
        have HLT := Aside0.mk hlt
        clear hTL hl hl' hp hP hX hY ht
        go_wp2_with (go_at_call 84; refine (HC.out _ BB.out RR.out).mono ?_; rintro e w2 ⟨rfl, hb, hr⟩)
        go_roundg (i - j + j)
        case measure => have := HQ.out; have := HIJ.out; have := HLT.out; omega
        case rel => exact ⟨i - j, j, by first | rfl | (rw [← i64_w, hw2]) | (simp [hw2]), rfl, ⟨P2, X2, Y2, Q, hr, HP2.out.1, HP2.out.2.1, HP2.out.2.2.1, HP2.out.2.2.2⟩, ⟨hb⟩, ⟨by have := HLT.out; have := HIJ.out; omega⟩, ⟨rfl⟩⟩
      case neg =>
        have HLT : Aside0 (i < j) := ⟨by omega⟩
        obtain ⟨r, hr⟩ : ∃ r, r = im + j - i := ⟨_, rfl⟩
        have hltf := HLT.out
        have HC : Aside0 (∀ W, Kp g w0 W → RowB W g (P ++ (X ++ (Y ++ Q))) → Calls Try.prog 84 #[.slice (some ⟨g, 0, none⟩) n cp, .int .i64 (p : Int), .int .i64 (r : Int), .int .i64 (i : Int), fv] W fun e w' => e = .returned (.tuple #[]) ∧ Kp g w0 w' ∧ RowB w' g (P ++ (Y.drop (j - i) ++ (Y.take (j - i) ++ (X ++ Q))))) := ⟨fun W hB hR => by
          refine (swap_calls N w0 g HG.out cp fv p r i n _ hl hTL.2 (by omega) (by omega) W hB hR).mono ?_
          rintro e w' ⟨h1, h2, h3⟩
          refine ⟨h1, h2, ?_⟩
          have hs := swp_parts P X (Y.take (j - i)) (Y.drop (j - i)) Q (by rw [List.length_drop]; omega)
          rw [show Y.take (j - i) ++ (Y.drop (j - i) ++ Q) = Y ++ Q by rw [← List.append_assoc, List.take_append_drop], List.length_take, show min (j - i) Y.length = j - i by omega, show P.length = p from hp.symm, show p + X.length + (j - i) = r by omega, hX] at hs
          rw [hs] at h3
          exact h3⟩
        have hw2 : IntKind.i64.wrap ((j : Int) - (i : Int)) = ((j - i : Nat) : Int) := by rw [i64_w]; unfold wrap64; omega
        have hw3 : IntKind.i64.wrap ((im : Int) + (j : Int)) = ((im + j : Nat) : Int) := by rw [i64_w]; unfold wrap64; omega
        have hw4 : IntKind.i64.wrap (((im + j : Nat) : Int) - (i : Int)) = (r : Int) := by rw [i64_w]; unfold wrap64; omega
        have HP2 : Aside0 (P.length + i = im ∧ (Y.drop (j - i)).length = i ∧ (Y.take (j - i)).length = j - i ∧ P ++ (Y.take (j - i) ++ (Y.drop (j - i) ++ (X ++ Q))) = tgt) := ⟨by omega, by rw [List.length_drop]; omega, by rw [List.length_take]; omega, by rw [← ht, ← List.append_assoc (Y.take _), List.take_append_drop]⟩
        generalize X ++ Q = Q2 at HP2 HC
        generalize Y.drop (j - i) = X2 at HP2 HC
        generalize Y.take (j - i) = Y2 at HP2 HC
        replace RR := Aside0.mk RR
        generalize im + j = s at hw3 hw4
        clear hTL hl hl' hp hP hX hY ht hltf hr
        go_wp2_with (go_at_call 84; refine (HC.out _ BB.out RR.out).mono ?_; rintro e w2 ⟨rfl, hb, hr⟩)
        go_roundg (i + (j - i))
        case measure => have := HQ.out; have := HIJ.out; have := HLT.out; omega
        case rel => exact ⟨i, j - i, rfl, by first | rfl | (rw [← i64_w, hw2]) | (simp [hw2]), ⟨P, X2, Y2, Q2, hr, HP2.out.1, HP2.out.2.1, HP2.out.2.2.1, HP2.out.2.2.2⟩, ⟨hb⟩, ⟨by have := HLT.out; have := HIJ.out; omega⟩, ⟨rfl⟩⟩
end Go.Proofs.Ytnopjcakilfepaa.QS
