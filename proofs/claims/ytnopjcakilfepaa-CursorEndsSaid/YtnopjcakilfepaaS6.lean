import Derived.Test.YtnopjcakilfepaaS5
namespace Go.Proofs.Ytnopjcakilfepaa.QS
set_option linter.unusedVariables false
set_option linter.unusedSimpArgs false
open Go.RowKit Go.Proofs.Ytnopjcakilfepaa.SS Go.Proofs.Ytnopjcakilfepaa.Hp Go.Proofs.YtnopjcakilfepaaW.PrintWords Go.Proofs.YtnopjcakilfepaaW.PrintLast Go.Proofs.YtnopjcakilfepaaW.PrintMore
attribute [local go_sem] max2_int min2_int max_two min_two max_three min_three max_four min_four
set_option maxHeartbeats 8000000 in
set_option maxRecDepth 100000 in
theorem stab_calls (lt : Rec → Rec → Bool) (ho : Ord lt) (hc : Cmp lt) (N : Nat) (w0 : World) (g : Nat) (hg : N ≤ g) (cp n : Nat) (d : List Rec) (hn : d.length = n) (hn2 : n ≤ 100000) (w : World) (hB : Kp g w0 w) (hR : RowB w g d) :
    Calls Try.prog 76 #[.slice (some ⟨g, 0, none⟩) n cp, .int .i64 (n : Int), .func (.func 64) #[] #[]] w fun e w' => e = .returned (.tuple #[]) ∧ Kp g w0 w' ∧ RowB w' g (ssort lt d) := by
  have HG := Aside0.mk hg
  have HO := Aside0.mk ho
  have HC := Aside0.mk hc
  have HN := Aside0.mk (And.intro hn hn2)
  have HI0 : Aside0 (∃ X r : List Rec, RowB w g (X ++ r) ∧ X.length = 0 ∧ X.length + r.length = n ∧ X ++ srt lt 20 r = srt lt 20 d) := ⟨[], d, hR, rfl, by rw [hn]; simp, rfl⟩
  replace hB := Aside0.mk hB
  clear hg ho hc hn hn2 hR
  go_enter Try.func76, Try.ntmps76
  go_wp2_with fail
  go_loopg [7, 8] (n + 1) (fun kq v7 v8 w' => ∃ a b : Nat, v7 = .int .i64 (a : Int) ∧ v8 = .int .i64 (b : Int) ∧ Aside0 (b = a + 20 ∧ a ≤ n ∧ kq = n + 1 - a) ∧ Aside0 (∃ X r : List Rec, RowB w' g (X ++ r) ∧ X.length = a ∧ X.length + r.length = n ∧ X ++ srt lt 20 r = srt lt 20 d) ∧ Aside0 (Kp g w0 w'))
  case atStart => exact ⟨0, 20, rfl, rfl, ⟨rfl, Nat.zero_le _, rfl⟩, HI0, hB⟩
  case round =>
    clear HI0 hB
    obtain ⟨a, b, rfl, rfl, HAB, HI, BB⟩ := hrel
    obtain ⟨X, r, rr, hX, hl, ht⟩ := HI.out
    clear HI
    have hab := HAB.out
    have hN := HN.out
    by_cases hb : b ≤ n
    case pos =>
      have t1 : decide (b ≤ n) = true := decide_eq_true hb
      have hsp : r.take 20 ++ r.drop 20 = r := List.take_append_drop ..
      have HCI : Aside0 (∀ W, Kp g w0 W → RowB W g (X ++ r) → Calls Try.prog 80 #[.slice (some ⟨g, 0, none⟩) n cp, .int .i64 (a : Int), .int .i64 (b : Int), .func (.func 64) #[] #[]] W fun e w' => e = .returned (.tuple #[]) ∧ Kp g w0 w' ∧ RowB w' g (X ++ (ssort lt (r.take 20) ++ r.drop 20))) := ⟨fun W hW hR => by
        rw [← hsp] at hR
        exact ins_calls lt HO.out HC.out N w0 g HG.out cp a b n X (r.take 20) (r.drop 20) hX (by rw [List.length_take]; omega) (by rw [hsp, List.length_append]; omega) (by omega) W hW hR⟩
      have HNX : Aside0 ((X ++ ssort lt (r.take 20)).length = b ∧ (X ++ ssort lt (r.take 20)).length + (r.drop 20).length = n ∧ (X ++ ssort lt (r.take 20)) ++ srt lt 20 (r.drop 20) = srt lt 20 d) := ⟨by rw [List.length_append, ssort_length, List.length_take]; omega, by rw [List.length_append, ssort_length, List.length_take, List.length_drop]; omega, by rw [← ht, srt_step lt 20 (by omega) r (by omega), List.append_assoc]⟩
      replace rr := Aside0.mk rr
      have HBN := Aside0.mk hb
      clear hsp hX hl ht hab hN hb
      go_wp2_with (go_at_call 80; refine (HCI.out _ BB.out rr.out).mono ?_; rintro e w2 ⟨rfl, b2, r2⟩)
      go_roundg (n + 1 - b)
      case measure => have := HAB.out; have := HBN.out; omega
      case rel => exact ⟨b, b + 20, rfl, by first | rfl | (simp; unfold wrap64; have := HBN.out; have := HN.out; omega), ⟨rfl, HBN.out, rfl⟩, ⟨X ++ ssort lt (r.take 20), r.drop 20, by rw [List.append_assoc]; exact r2, HNX.out.1, HNX.out.2.1, HNX.out.2.2⟩, ⟨b2⟩⟩
    case neg =>
      have t1 : decide (b ≤ n) = false := decide_eq_false hb
      have HCI : Aside0 (∀ W, Kp g w0 W → RowB W g (X ++ r) → Calls Try.prog 80 #[.slice (some ⟨g, 0, none⟩) n cp, .int .i64 (a : Int), .int .i64 (n : Int), .func (.func 64) #[] #[]] W fun e w' => e = .returned (.tuple #[]) ∧ Kp g w0 w' ∧ RowB w' g (srt lt 20 d)) := ⟨fun W hW hR => by
        rw [← List.append_nil r] at hR
        have := ins_calls lt HO.out HC.out N w0 g HG.out cp a n n X r [] hX (by omega) (by rw [List.append_nil, List.length_append]; omega) (by omega) W hW hR
        rw [List.append_nil, ← srt_short lt 20 r (by omega), ht] at this
        exact this⟩
      replace rr := Aside0.mk rr
      clear hX hl ht hab hN hb
      go_upto_region 7 with (go_at_call 80; refine (HCI.out _ BB.out rr.out).mono ?_; rintro e w2 ⟨rfl, b2, r2⟩)
      replace b2 := Aside0.mk b2
      replace r2 := Aside0.mk r2
      clear rr BB HCI t1
      go_loopg [6] (n + 1) (fun kq v6 w' => ∃ bs : Nat, v6 = .int .i64 (bs : Int) ∧ Aside0 (20 ≤ bs ∧ bs ≤ 2 * n + 20 ∧ kq = n + 21 - bs) ∧ Aside0 (RowB w' g (srt lt bs d)) ∧ Aside0 (Kp g w0 w'))
      case atStart => exact ⟨20, rfl, ⟨by omega⟩, r2, b2⟩
      case round =>
      clear b2 r2 HAB
      obtain ⟨bs, rfl, HBS, RR, BB⟩ := hrel
      by_cases hbs : bs < n
      case neg =>
        have t1 : decide (bs < n) = false := decide_eq_false hbs
        have rr := RR.out
        rw [srt_short lt bs d (by have := HN.out; omega)] at rr
        replace rr := Aside0.mk rr
        clear hbs RR
        go_wp2_with fail
        go_end0
        exact ⟨rfl, BB.out, rr.out⟩
      case pos =>
      have t1 : decide (bs < n) = true := decide_eq_true hbs
      have HBN := Aside0.mk hbs
      obtain ⟨b2, hb2⟩ : ∃ b2, b2 = 2 * bs := ⟨_, rfl⟩
      have HB2 := Aside0.mk hb2
      have HW2 : IntKind.i64.wrap (2 * (bs : Int)) = (b2 : Int) := by rw [i64_w]; unfold wrap64; have := HBS.out; have := HN.out; omega
      have HI0 : Aside0 (∃ X r : List Rec, RowB wr g (X ++ srt lt bs r) ∧ X.length = 0 ∧ X.length + r.length = n ∧ X ++ srt lt b2 r = srt lt b2 d) := ⟨[], d, RR.out, rfl, by rw [HN.out.1]; simp, rfl⟩
      clear hbs hb2 RR
      go_upto_region 9 with fail
      clear t1
      go_loopg [7, 8] (n + 1) (fun kq v7 v8 w' => ∃ a b : Nat, v7 = .int .i64 (a : Int) ∧ v8 = .int .i64 (b : Int) ∧ Aside0 (b = a + b2 ∧ a ≤ n ∧ kq = n + 1 - a) ∧ Aside0 (∃ X r : List Rec, RowB w' g (X ++ srt lt bs r) ∧ X.length = a ∧ X.length + r.length = n ∧ X ++ srt lt b2 r = srt lt b2 d) ∧ Aside0 (Kp g w0 w'))
      case atStart => exact ⟨0, b2, rfl, by first | rfl | (rw [← i64_w, HW2]), ⟨by omega, Nat.zero_le _, rfl⟩, HI0, BB⟩
      case round =>
      clear HI0 BB
      obtain ⟨a, b, rfl, rfl, HAB, HI, BB⟩ := hrel
      obtain ⟨X, r, rr, hX, hl, ht⟩ := HI.out
      clear HI
      have hab := HAB.out
      have hN := HN.out
      have hB2 := HB2.out
      have hBS := HBS.out
      obtain ⟨m, hm⟩ : ∃ m, m = a + bs := ⟨_, rfl⟩
      have HW3 : IntKind.i64.wrap ((a : Int) + (bs : Int)) = (m : Int) := by rw [i64_w]; unfold wrap64; omega
      obtain ⟨b3, hb3⟩ : ∃ b3, b3 = b + b2 := ⟨_, rfl⟩
      have HB3 := Aside0.mk hb3
      by_cases hb : b ≤ n
      case pos =>
        have t1 : decide (b ≤ n) = true := decide_eq_true hb
        have HW4 : IntKind.i64.wrap ((b : Int) + (b2 : Int)) = (b3 : Int) := by rw [i64_w]; unfold wrap64; omega
        have hsp := srt_two lt bs (by omega) r (by omega)
        have HCI : Aside0 (∀ W, Kp g w0 W → RowB W g (X ++ srt lt bs r) → Calls Try.prog 81 #[.slice (some ⟨g, 0, none⟩) n cp, .int .i64 (a : Int), .int .i64 (m : Int), .int .i64 (b : Int), .func (.func 64) #[] #[]] W fun e w' => e = .returned (.tuple #[]) ∧ Kp g w0 w' ∧ RowB w' g (X ++ (ssort lt (r.take b2) ++ srt lt bs (r.drop b2)))) := ⟨fun W hW hR => by
          rw [hsp] at hR
          have := sym_calls lt HO.out HC.out N w0 g HG.out cp n (by omega) n a m b X (ssort lt (r.take bs)) (ssort lt ((r.drop bs).take bs)) (srt lt bs (r.drop (2 * bs))) (by rw [ssort_length, ssort_length, List.length_take, List.length_take, List.length_drop]; omega) (by rw [ssort_length, List.length_take]; omega) (by rw [ssort_length, List.length_take, List.length_drop]; omega) hX (by rw [ssort_length, List.length_take]; omega) (by rw [ssort_length, List.length_take, List.length_drop]; omega) (ssort_stable HO.out _).1 (ssort_stable HO.out _).1 (by rw [← hsp, List.length_append, srt_length]; omega) W hW hR
          rw [ssort_mrg HO.out, take_two, ← hB2] at this
          exact this⟩
        have HNX : Aside0 ((X ++ ssort lt (r.take b2)).length = b ∧ (X ++ ssort lt (r.take b2)).length + (r.drop b2).length = n ∧ (X ++ ssort lt (r.take b2)) ++ srt lt b2 (r.drop b2) = srt lt b2 d) := ⟨by rw [List.length_append, ssort_length, List.length_take]; omega, by rw [List.length_append, ssort_length, List.length_take, List.length_drop]; omega, by rw [← ht, srt_step lt b2 (by omega) r (by omega), List.append_assoc]⟩
        replace rr := Aside0.mk rr
        have HBN2 := Aside0.mk hb
        clear hsp hX hl ht hab hN hb hB2 hBS hm hb3
        go_wp2_with (go_at_call 81; refine (HCI.out _ BB.out rr.out).mono ?_; rintro e w2 ⟨rfl, bb2, r2⟩)
        go_roundg (n + 1 - b)
        case measure => have := HAB.out; have := HBN2.out; have := HB2.out; have := HBS.out; omega
        case rel => exact ⟨b, b3, rfl, by first | rfl | (rw [← i64_w, HW4]) | (simp; unfold wrap64; have := HBN2.out; have := HN.out; have := HB3.out; have := HB2.out; have := HBS.out; omega), ⟨HB3.out, HBN2.out, rfl⟩, ⟨X ++ ssort lt (r.take b2), r.drop b2, by rw [List.append_assoc]; exact r2, HNX.out.1, HNX.out.2.1, HNX.out.2.2⟩, ⟨bb2⟩⟩
      case neg =>
        have t1 : decide (b ≤ n) = false := decide_eq_false hb
        have HW5 : IntKind.i64.wrap ((bs : Int) * 2) = (b2 : Int) := by rw [i64_w]; unfold wrap64; omega
        have HMB : Aside0 (20 ≤ b2 ∧ b2 ≤ 2 * n + 20 ∧ n + 21 - b2 < n + 21 - bs) := ⟨by have := HBN.out; omega⟩
        by_cases hmn : m < n
        case pos =>
          have t2 : decide (m < n) = true := decide_eq_true hmn
          have hsp : srt lt bs r = ssort lt (r.take bs) ++ ssort lt (r.drop bs) := by rw [srt_step lt bs (by omega) r (by omega), srt_short lt bs (r.drop bs) (by rw [List.length_drop]; omega)]
          have HCI : Aside0 (∀ W, Kp g w0 W → RowB W g (X ++ srt lt bs r) → Calls Try.prog 81 #[.slice (some ⟨g, 0, none⟩) n cp, .int .i64 (a : Int), .int .i64 (m : Int), .int .i64 (n : Int), .func (.func 64) #[] #[]] W fun e w' => e = .returned (.tuple #[]) ∧ Kp g w0 w' ∧ RowB w' g (srt lt b2 d)) := ⟨fun W hW hR => by
            rw [hsp, ← List.append_nil (ssort lt (r.drop bs))] at hR
            have := sym_calls lt HO.out HC.out N w0 g HG.out cp n (by omega) n a m n X (ssort lt (r.take bs)) (ssort lt (r.drop bs)) [] (by rw [ssort_length, ssort_length, List.length_take, List.length_drop]; omega) (by rw [ssort_length, List.length_take]; omega) (by rw [ssort_length, List.length_drop]; omega) hX (by rw [ssort_length, List.length_take]; omega) (by rw [ssort_length, List.length_drop]; omega) (ssort_stable HO.out _).1 (ssort_stable HO.out _).1 (by rw [List.append_nil, ← hsp, List.length_append, srt_length]; omega) W hW hR
            rw [ssort_mrg HO.out, List.take_append_drop, List.append_nil, ← srt_short lt b2 r (by omega), ht] at this
            exact this⟩
          replace rr := Aside0.mk rr
          clear hsp hX hl ht hab hN hb hB2 hBS hm hb3 hmn
          go_wp2_with (go_at_call 81; refine (HCI.out _ BB.out rr.out).mono ?_; rintro e w2 ⟨rfl, bb2, r2⟩)
          go_roundg (n + 21 - b2)
          case measure => have := HMB.out; have := HBS.out; omega
          case rel => exact ⟨b2, by first | rfl | (rw [← i64_w, HW5]) | (simp; unfold wrap64; have := HMB.out; have := HN.out; have := HB2.out; have := HBS.out; omega), ⟨HMB.out.1, HMB.out.2.1, rfl⟩, ⟨r2⟩, ⟨bb2⟩⟩
        case neg =>
          have t2 : decide (m < n) = false := decide_eq_false hmn
          have hsp : X ++ srt lt bs r = srt lt b2 d := by rw [← ht, srt_short lt bs r (by omega), srt_short lt b2 r (by omega)]
          rw [hsp] at rr
          replace rr := Aside0.mk rr
          clear hsp hX hl ht hab hN hb hB2 hBS hm hb3 hmn
          go_wp2_with fail
          go_roundg (n + 21 - b2)
          case measure => have := HMB.out; have := HBS.out; omega
          case rel => exact ⟨b2, by first | rfl | (rw [← i64_w, HW5]) | (simp; unfold wrap64; have := HMB.out; have := HN.out; have := HB2.out; have := HBS.out; omega), ⟨HMB.out.1, HMB.out.2.1, rfl⟩, rr, BB⟩
theorem sort_calls (lt : Rec → Rec → Bool) (ho : Ord lt) (hc : Cmp lt) (N : Nat) (w0 : World) (g : Nat) (hg : N ≤ g) (cp n : Nat) (d : List Rec) (hn : d.length = n) (hn2 : n ≤ 100000) (w : World) (hB : Kp g w0 w) (hR : RowB w g d) :
    Calls Try.prog 63 #[.slice (some ⟨g, 0, none⟩) n cp, .func (.func 64) #[] #[]] w fun e w' => e = .returned (.tuple #[]) ∧ Kp g w0 w' ∧ RowB w' g (ssort lt d) := by
  have HC := Aside0.mk (fun W hW hR' => stab_calls lt ho hc N w0 g hg cp n d hn hn2 W hW hR')
  replace hB := Aside0.mk hB
  replace hR := Aside0.mk hR
  clear ho hc hg hn hn2
  go_enter Try.func63, Try.ntmps63
  go_wp2_with (go_at_call 76; refine (HC.out _ hB.out hR.out).mono ?_; rintro e w2 ⟨rfl, b2, r2⟩)
  go_end0
  exact ⟨rfl, b2, r2⟩
set_option maxHeartbeats 4000000 in
theorem ins_nil (fv : Value) (cp : Nat) (w : World) : Calls Try.prog 80 #[.slice none 0 cp, .int .i64 0, .int .i64 0, fv] w fun e w' => e = .returned (.tuple #[]) ∧ Below w.heap.size w w' := by
  have hB := Aside0.mk (Below.refl w.heap.size w)
  go_enter Try.func80, Try.ntmps80
  go_wp2_with fail
  go_loopg [8] 1 (fun kq v8 w' => v8 = .int .i64 1 ∧ Aside0 (Below w.heap.size w w'))
  case atStart => exact ⟨rfl, hB⟩
  case round =>
    clear hB
    obtain ⟨rfl, BB⟩ := hrel
    go_wp2_with fail
    go_end0
    exact ⟨rfl, BB.out⟩
set_option maxHeartbeats 4000000 in
theorem stab_nil (fv : Value) (cp : Nat) (w : World) : Calls Try.prog 76 #[.slice none 0 cp, .int .i64 0, fv] w fun e w' => e = .returned (.tuple #[]) ∧ Below w.heap.size w w' := by
  have hB := Aside0.mk (Below.refl w.heap.size w)
  go_enter Try.func76, Try.ntmps76
  go_wp2_with fail
  go_loopg [7, 8] 1 (fun kq v7 v8 w' => v7 = .int .i64 0 ∧ v8 = .int .i64 20 ∧ Aside0 (Below w.heap.size w w'))
  case atStart => exact ⟨rfl, rfl, hB⟩
  case round =>
    clear hB
    obtain ⟨rfl, rfl, BB⟩ := hrel
    go_upto_region 7 with (go_at_call 80; refine (ins_nil fv cp _).mono ?_; rintro e w2 ⟨rfl, b2⟩)
    replace b2 := Aside0.mk (below_then BB.out BB.out.size b2)
    clear BB
    go_loopg [6] 1 (fun kq v6 w' => v6 = .int .i64 20 ∧ Aside0 (Below w.heap.size w w'))
    case atStart => exact ⟨rfl, b2⟩
    case round =>
    clear b2
    obtain ⟨rfl, BB⟩ := hrel
    go_wp2_with fail
    go_end0
    exact ⟨rfl, BB.out⟩
theorem sort_nil (fv : Value) (cp : Nat) (w : World) : Calls Try.prog 63 #[.slice none 0 cp, fv] w fun e w' => e = .returned (.tuple #[]) ∧ Below w.heap.size w w' := by
  go_enter Try.func63, Try.ntmps63
  go_wp2_with (go_at_call 76; refine (stab_nil fv cp _).mono ?_; rintro e w2 ⟨rfl, b2⟩)
  go_end0
  exact ⟨rfl, b2⟩
end Go.Proofs.Ytnopjcakilfepaa.QS
