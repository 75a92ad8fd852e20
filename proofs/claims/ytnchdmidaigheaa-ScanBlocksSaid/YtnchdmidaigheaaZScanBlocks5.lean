/- Parts of the proof of the statement ScanBlocks, laid together (6 of 10). -/
import Derived.Test.YtnchdmidaigheaaZScanBlocks4
namespace Go.Proofs.Ytnchdmidaigheaa.ND
set_option linter.unusedVariables false
set_option linter.unusedSimpArgs false
open Go.RowKit Go.Proofs.Ytnchdmidaigheaa.Hp Go.Proofs.YtnchdmidaigheaaW.PrintWords Go.Proofs.YtnchdmidaigheaaW.PrintLast Go.Proofs.YtnchdmidaigheaaW.PrintMore
theorem has_ev (l : List Int) (x : Int) (hl : l.length ≤ 100000) : ∀ (d i : Nat), i + d = l.length → Ev (fun k => wagtailref13_Has.l0 k l x (i : Int)) ((l.drop i).any fun y => y == x)
 | 0, i, hd => by
  refine Ev.step (f := fun k => some false) (fun k => ?_) ?_
  ·
   simp only [wagtailref13_Has.l0]; rw [if_neg (by omega)]
  ·
   rw [List.drop_of_length_le (by omega)]; exact Ev.now _
 | d + 1, i, hd => by
  have hi : i < l.length := by omega
  have e2 : wrap64 ((i : Int) + 1) = ((i + 1 : Nat) : Int) := by unfold wrap64; omega
  have hr : rd l (i : Int) = l[i] := by unfold rd; rw [Int.toNat_natCast, List.getD_eq_getElem?_getD, List.getElem?_eq_getElem hi]; rfl
  refine Ev.step (f := fun k => if l[i] = x then some true else wagtailref13_Has.l0 k l x ((i + 1 : Nat) : Int)) (fun k => ?_) ?_
  ·
   simp only [wagtailref13_Has.l0]; rw [if_pos (by omega), if_pos (by omega), hr, e2]
  ·
   rw [List.drop_eq_getElem_cons hi, List.any_cons]; by_cases h : l[i] = x
   ·
    refine Ev.congr (fun k => if_pos h) ?_; rw [show (l[i] == x) = true by simpa using h, Bool.true_or]; exact Ev.now _
   ·
    refine Ev.congr (fun k => if_neg h) ?_; rw [show (l[i] == x) = false by simpa using h, Bool.false_or]; exact has_ev l x hl d (i + 1) (by omega)
theorem has_calls {W : World} {A : Option Addr} {c : Nat} {l : List Int} (x : Int) (hC : Kd.C (Kd.int .i64) W A l.length l) (hc : l.length ≤ c) (hl : l.length ≤ 100000) :
  Calls Try.prog 44 #[.slice A l.length c, .int .i64 x] W fun e w' => e = .returned (.bool (l.any fun y => y == x)) ∧ Below W.heap.size W w' := by
 obtain ⟨K, hK⟩ := has_ev l x hl l.length 0 (by omega); refine (wagtailref13_Has.calls K A c l x _ W hC hc (hK K (Nat.le_refl _))).mono ?_; rintro e w' ⟨rfl, ⟨n, rfl⟩⟩; exact ⟨rfl, pw_below_drewN (Below.refl _ _) n⟩
def here1.T1 : Bool × List (List Nat × List Nat) := (true, [([], []), ([0], [0]), ([1], [1]), ([2], [2]), ([3], [3]), ([4, 3], [3, 4]), ([3], [3]), ([6, 3], [3, 6]), ([7, 3], [3, 7]), ([8, 3], [3, 8]), ([9, 3], [3, 9]), ([5, 10, 3], [3, 5, 10]), ([3, 11], [3, 11]), ([12, 3], [12]), ([13], [13]), ([14, 13], [13, 14]), ([15, 13], [13, 15]), ([13, 16], [13, 16]), ([17, 13], [17]), ([18], [18]), ([19, 18], [18, 19]), ([18], [18]), ([21, 18], [18, 21]), ([22, 18], [18, 22]), ([23, 18], [18, 23]), ([24, 18], [18, 24]), ([20, 25, 18], [18, 20, 25]), ([18, 26], [18, 26]), ([27, 18, 0, 1, 2, 3, 4, 5, 6, 7, 8, 9, 10, 11, 12, 13, 14, 15, 16, 17, 18, 19, 20, 21, 22, 23, 24, 25, 26, 27], [27])])
def here1.B1 : List Nat := [0, 1, 3, 7, 15, 31, 15, 79, 207, 463, 975, 2047, 4095, 8191, 16383, 32767, 65535, 131071, 262143, 524287, 1048575, 524287, 2621439, 6815743, 15204351, 31981567, 67108863, 134217727, 268435455]
theorem here1.tab1 : rtab .any (opsOf Try.f74 1) = here1.T1 := by kernel_rfl
theorem here1.bits1 : waitsOk here1.T1.2 here1.B1 = true := by kernel_rfl
set_option maxHeartbeats 1000000 in
set_option maxRecDepth 100000 in
theorem xend_calls {W : World} {ok : Nat → Prop} {L : XLay} {D : Dv} (h : XV W ok L D) (hd : D.down = false) (k : Int) (hk : k = 0 ∨ k = 1 ∨ k = 2) :
  Calls Try.prog 77 #[.pointer (some ⟨L.g, 0, none⟩), .int .i64 k] W fun e w' => e = .returned (.int .i64 (ended k)) ∧ XV w' ok L { D with down := k == 2 } ∧ Turn W w' L.S := by
 have HS : Aside0 (D = { D with down := false }) := ⟨by rw [← hd]⟩
 rcases hk with rfl | rfl | rfl
 ·
  have H := aK h; have HT := aK (Turn.refl W L.S); clear h hd; go_enter Try.func77, Try.ntmps77; go_wp2_with fail; go_ret; exact ⟨rfl, HS.out ▸ H.out, HT.out⟩
 ·
  have H := aK h; have HT := aK (Turn.refl W L.S); clear h hd; go_enter Try.func77, Try.ntmps77; go_wp2_with fail; go_ret; exact ⟨rfl, HS.out ▸ H.out, HT.out⟩
 ·
  have HD := aK (h.set_down true); have HT := aK ((Turn.refl W L.S).setCell (p := ⟨L.g, 9, none⟩) (.inl (.inl rfl)) (.bool true)); have c9 := (xtop_cells h).2.2.2.2.2.2.2.2.2; have f9 := blk_frozen h.top 9; clear h hd; go_enter Try.func77, Try.ntmps77; go_wp2_with fail; go_ret; exact ⟨rfl, HD.out, HT.out⟩
set_option maxHeartbeats 1000000 in
set_option maxRecDepth 100000 in
theorem xhere_calls {W : World} {ok : Nat → Prop} {L : XLay} {D : Dv} (h : XV W ok L D) (bk pg : Int) :
  Calls Try.prog 74 #[.pointer (some ⟨L.g, 0, none⟩), .agg #[.int .i64 bk, .int .i64 pg]] W fun e w' => e = .returned (.bool (D.here bk pg)) ∧ Below W.heap.size W w' := by
 have hz4 := heap_alloc_new W (.cells #[.int .i64 bk, .int .i64 pg] 37); have hb4 := below_alloc (Below.refl W.heap.size W) (.cells #[.int .i64 bk, .int .i64 pg] 37); have H2 := aK (h.below hb4); obtain ⟨g4, hg4⟩ : ∃ g, g = W.heap.size := ⟨_, rfl⟩; clear h; go_enter Try.func74, Try.ntmps74; go_upto_region 1 with fail; generalize (W.alloc (.cells #[.int .i64 bk, .int .i64 pg] 37)) = W2 at hz4 hb4 H2 ⊢; rw [← hg4] at hz4 ⊢; have HB2 := aK hb4; have HZ4 := aK hz4; have B0 := aK (below_drew1 (Below.refl W2.heap.size W2)); clear hg4 hz4 hb4
 cases h1 : decide (bk ≥ 0) with
 | false =>
  have T1 := aK h1; clear h1; refine start_ (n := 29) (S := fun w' => True) (ds := []) #[false, false, false, false, false, false, false, false, false, false, false, false, false, false, false, false, false, false, false, false, false, false, false, false, false, false, false, false, false] (by kernel_rfl) rfl rfl trivial (fun hHeld => ?_); refine with_tabW here1.tab1 here1.bits1 (fun HT_ HW_ => ?_); generalize W2.drew = wq at B0 hHeld ⊢; refine inv_at [0, 1, 2, 3, 4, 5, 6, 7, 8, 9, 10, 11, 12, 13, 14, 15, 16, 17, 18, 19, 20, 21, 22, 23, 24, 25, 26, 27, 28] (fun a0_ b a w' => a = putSel a0_ b [(0, 5, .pointer (some ⟨g4, 0, none⟩)), (1, 6, .int .i64 bk), (2, 7, .bool false), (3, 8, .bool false), (4, 9, undef), (5, 10, undef), (6, 11, undef), (7, 12, undef), (8, 13, undef), (9, 14, undef), (10, 15, undef), (11, 16, undef), (12, 17, .bool false), (13, 18, .bool false), (14, 19, undef), (15, 20, undef), (16, 21, undef), (17, 22, .bool false), (18, 23, .bool false), (19, 24, undef), (20, 25, undef), (21, 26, undef), (22, 27, undef), (23, 28, undef), (24, 29, undef), (25, 30, undef), (26, 31, undef), (27, 32, .bool false), (28, 4, .bool false)] ∧ (Below W2.heap.size W2 w')) HT_.out HW_.out (by kernel_rfl) (by kernel_rfl) ?_ ?_ ?_
  ·
   exact ⟨by simp only [putSel, Bool.false_eq_true, if_false], B0.out⟩
  ·
   skip
   clear B0; refine steps_cons ?_ ?_; rintro b a w' ⟨ha, Q_B0⟩ hb_ hon hoff; refine ⟨_, rfl, fun K hK => ?_⟩; have e3 := q_f ha 3 rfl rfl; replace ha := aK ha; have B0 := aK Q_B0; refine q_v (.pointer (some ⟨g4, 0, none⟩)) (by rfl) rfl ?_ ?_; (· (go_simp; (try simp only [i64_w]); try rfl)); refine hK.out _ _ ⟨q_u ha 0 hb_ rfl rfl rfl, Q_B0⟩; refine steps_cons ?_ ?_; rintro b a w' ⟨ha, Q_B0⟩ hb_ hon hoff; refine ⟨_, rfl, fun K hK => ?_⟩; have e5 := q_n ha hon 5 0 0 rfl; replace ha := aK ha; have B0 := aK Q_B0; have c_ := blk_cell (blk_below HZ4.out B0.out) 0; refine q_v (.int .i64 bk) (by rfl) rfl ?_ ?_; (· (go_simp; (try simp only [i64_w]); try rfl)); refine hK.out _ _ ⟨q_u ha 1 hb_ rfl rfl rfl, Q_B0⟩; refine steps_cons ?_ ?_; rintro b a w' ⟨ha, Q_B0⟩ hb_ hon hoff; refine ⟨_, rfl, fun K hK => ?_⟩; have e6 := q_n ha hon 6 1 1 rfl; replace ha := aK ha; have B0 := aK Q_B0; have q_ := T1.out; refine q_v (.bool false) (by rfl) rfl ?_ ?_; (· (go_simp; (try simp only [i64_w]); try rfl)); refine hK.out _ _ ⟨q_u ha 2 hb_ rfl rfl rfl, Q_B0⟩; refine steps_cons ?_ ?_; rintro b a w' ⟨ha, Q_B0⟩ hb_ hon hoff; refine ⟨_, rfl, fun K hK => ?_⟩; have e7 := q_n ha hon 7 2 2 rfl; replace ha := aK ha; have B0 := aK Q_B0; refine q_v (.bool false) (by rfl) rfl ?_ ?_; (· (go_simp; (try simp only [i64_w]); try rfl)); refine hK.out _ _ ⟨q_u ha 3 hb_ rfl rfl rfl, Q_B0⟩; refine steps_cons ?_ ?_; rintro b a w' ⟨ha, Q_B0⟩ hb_ hon hoff; refine ⟨_, rfl, fun K hK => ?_⟩; have e8 := q_n ha hon 8 3 3 rfl; replace ha := aK ha; have B0 := aK Q_B0; refine off_ (wanted_off rfl rfl rfl (e8.trans (by first | rfl | (simp [*]; done)))) ?_; refine hK.out _ _ ⟨q_u ha 4 hb_ rfl rfl rfl, Q_B0⟩; refine steps_cons ?_ ?_; rintro b a w' ⟨ha, Q_B0⟩ hb_ hon hoff; refine ⟨_, rfl, fun K hK => ?_⟩; have e8 := q_n ha hon 8 3 3 rfl; replace ha := aK ha; have B0 := aK Q_B0; refine off_ (wanted_off rfl rfl rfl (e8.trans (by first | rfl | (simp [*]; done)))) ?_; refine hK.out _ _ ⟨q_u ha 5 hb_ rfl rfl rfl, Q_B0⟩; refine steps_cons ?_ ?_; rintro b a w' ⟨ha, Q_B0⟩ hb_ hon hoff; refine ⟨_, rfl, fun K hK => ?_⟩; have e8 := q_n ha hon 8 3 3 rfl; replace ha := aK ha; have B0 := aK Q_B0; refine off_ (wanted_off rfl rfl rfl (e8.trans (by first | rfl | (simp [*]; done)))) ?_; refine hK.out _ _ ⟨q_u ha 6 hb_ rfl rfl rfl, Q_B0⟩; refine steps_cons ?_ ?_; rintro b a w' ⟨ha, Q_B0⟩ hb_ hon hoff; refine ⟨_, rfl, fun K hK => ?_⟩; have e8 := q_n ha hon 8 3 3 rfl; replace ha := aK ha; have B0 := aK Q_B0; refine off_ (wanted_off rfl rfl rfl (e8.trans (by first | rfl | (simp [*]; done)))) ?_; refine hK.out _ _ ⟨q_u ha 7 hb_ rfl rfl rfl, Q_B0⟩; refine steps_cons ?_ ?_; rintro b a w' ⟨ha, Q_B0⟩ hb_ hon hoff; refine ⟨_, rfl, fun K hK => ?_⟩; have e8 := q_n ha hon 8 3 3 rfl; replace ha := aK ha; have B0 := aK Q_B0; refine off_ (wanted_off rfl rfl rfl (e8.trans (by first | rfl | (simp [*]; done)))) ?_; refine hK.out _ _ ⟨q_u ha 8 hb_ rfl rfl rfl, Q_B0⟩; refine steps_cons ?_ ?_; rintro b a w' ⟨ha, Q_B0⟩ hb_ hon hoff; refine ⟨_, rfl, fun K hK => ?_⟩; have e8 := q_n ha hon 8 3 3 rfl; replace ha := aK ha; have B0 := aK Q_B0; refine off_ (wanted_off rfl rfl rfl (e8.trans (by first | rfl | (simp [*]; done)))) ?_; refine hK.out _ _ ⟨q_u ha 9 hb_ rfl rfl rfl, Q_B0⟩; refine steps_cons ?_ ?_; rintro b a w' ⟨ha, Q_B0⟩ hb_ hon hoff; refine ⟨_, rfl, fun K hK => ?_⟩; have e8 := q_n ha hon 8 3 3 rfl; replace ha := aK ha; have B0 := aK Q_B0; refine off_ (wanted_off rfl rfl rfl (e8.trans (by first | rfl | (simp [*]; done)))) ?_; refine hK.out _ _ ⟨q_u ha 10 hb_ rfl rfl rfl, Q_B0⟩; refine steps_cons ?_ ?_; rintro b a w' ⟨ha, Q_B0⟩ hb_ hon hoff; refine ⟨_, rfl, fun K hK => ?_⟩; have e8 := q_n ha hon 8 3 3 rfl; replace ha := aK ha; have B0 := aK Q_B0; refine off_ (wanted_off rfl rfl rfl (e8.trans (by first | rfl | (simp [*]; done)))) ?_; refine hK.out _ _ ⟨q_u ha 11 hb_ rfl rfl rfl, Q_B0⟩
   refine steps_cons ?_ ?_; rintro b a w' ⟨ha, Q_B0⟩ hb_ hon hoff; refine ⟨_, rfl, fun K hK => ?_⟩; have e8 := q_n ha hon 8 3 3 rfl; have e16 := q_n ha hon 16 11 11 rfl; replace ha := aK ha; have B0 := aK Q_B0; refine q_v (.bool false) (by rfl) rfl ?_ ?_; (· (go_simp; (try simp only [i64_w]); try rfl)); refine hK.out _ _ ⟨q_u ha 12 hb_ rfl rfl rfl, Q_B0⟩; refine steps_cons ?_ ?_; rintro b a w' ⟨ha, Q_B0⟩ hb_ hon hoff; refine ⟨_, rfl, fun K hK => ?_⟩; have e17 := q_n ha hon 17 12 12 rfl; replace ha := aK ha; have B0 := aK Q_B0; refine q_v (.bool false) (by rfl) rfl ?_ ?_; (· (go_simp; (try simp only [i64_w]); try rfl)); refine hK.out _ _ ⟨q_u ha 13 hb_ rfl rfl rfl, Q_B0⟩; refine steps_cons ?_ ?_; rintro b a w' ⟨ha, Q_B0⟩ hb_ hon hoff; refine ⟨_, rfl, fun K hK => ?_⟩; have e18 := q_n ha hon 18 13 13 rfl; replace ha := aK ha; have B0 := aK Q_B0; refine off_ (wanted_off rfl rfl rfl (e18.trans (by first | rfl | (simp [*]; done)))) ?_; refine hK.out _ _ ⟨q_u ha 14 hb_ rfl rfl rfl, Q_B0⟩; refine steps_cons ?_ ?_; rintro b a w' ⟨ha, Q_B0⟩ hb_ hon hoff; refine ⟨_, rfl, fun K hK => ?_⟩; have e18 := q_n ha hon 18 13 13 rfl; replace ha := aK ha; have B0 := aK Q_B0; refine off_ (wanted_off rfl rfl rfl (e18.trans (by first | rfl | (simp [*]; done)))) ?_; refine hK.out _ _ ⟨q_u ha 15 hb_ rfl rfl rfl, Q_B0⟩; refine steps_cons ?_ ?_; rintro b a w' ⟨ha, Q_B0⟩ hb_ hon hoff; refine ⟨_, rfl, fun K hK => ?_⟩; have e18 := q_n ha hon 18 13 13 rfl; replace ha := aK ha; have B0 := aK Q_B0; refine off_ (wanted_off rfl rfl rfl (e18.trans (by first | rfl | (simp [*]; done)))) ?_; refine hK.out _ _ ⟨q_u ha 16 hb_ rfl rfl rfl, Q_B0⟩; refine steps_cons ?_ ?_; rintro b a w' ⟨ha, Q_B0⟩ hb_ hon hoff; refine ⟨_, rfl, fun K hK => ?_⟩; have e18 := q_n ha hon 18 13 13 rfl; have e21 := q_n ha hon 21 16 16 rfl; replace ha := aK ha; have B0 := aK Q_B0; refine q_v (.bool false) (by rfl) rfl ?_ ?_; (· (go_simp; (try simp only [i64_w]); try rfl)); refine hK.out _ _ ⟨q_u ha 17 hb_ rfl rfl rfl, Q_B0⟩; refine steps_cons ?_ ?_; rintro b a w' ⟨ha, Q_B0⟩ hb_ hon hoff; refine ⟨_, rfl, fun K hK => ?_⟩; have e22 := q_n ha hon 22 17 17 rfl; replace ha := aK ha; have B0 := aK Q_B0; refine q_v (.bool false) (by rfl) rfl ?_ ?_; (· (go_simp; (try simp only [i64_w]); try rfl)); refine hK.out _ _ ⟨q_u ha 18 hb_ rfl rfl rfl, Q_B0⟩; refine steps_cons ?_ ?_; rintro b a w' ⟨ha, Q_B0⟩ hb_ hon hoff; refine ⟨_, rfl, fun K hK => ?_⟩; have e23 := q_n ha hon 23 18 18 rfl; replace ha := aK ha; have B0 := aK Q_B0; refine off_ (wanted_off rfl rfl rfl (e23.trans (by first | rfl | (simp [*]; done)))) ?_; refine hK.out _ _ ⟨q_u ha 19 hb_ rfl rfl rfl, Q_B0⟩; refine steps_cons ?_ ?_; rintro b a w' ⟨ha, Q_B0⟩ hb_ hon hoff; refine ⟨_, rfl, fun K hK => ?_⟩; have e23 := q_n ha hon 23 18 18 rfl; replace ha := aK ha; have B0 := aK Q_B0; refine off_ (wanted_off rfl rfl rfl (e23.trans (by first | rfl | (simp [*]; done)))) ?_; refine hK.out _ _ ⟨q_u ha 20 hb_ rfl rfl rfl, Q_B0⟩; refine steps_cons ?_ ?_; rintro b a w' ⟨ha, Q_B0⟩ hb_ hon hoff; refine ⟨_, rfl, fun K hK => ?_⟩; have e23 := q_n ha hon 23 18 18 rfl; replace ha := aK ha; have B0 := aK Q_B0; refine off_ (wanted_off rfl rfl rfl (e23.trans (by first | rfl | (simp [*]; done)))) ?_; refine hK.out _ _ ⟨q_u ha 21 hb_ rfl rfl rfl, Q_B0⟩; refine steps_cons ?_ ?_; rintro b a w' ⟨ha, Q_B0⟩ hb_ hon hoff; refine ⟨_, rfl, fun K hK => ?_⟩; have e23 := q_n ha hon 23 18 18 rfl; replace ha := aK ha; have B0 := aK Q_B0; refine off_ (wanted_off rfl rfl rfl (e23.trans (by first | rfl | (simp [*]; done)))) ?_; refine hK.out _ _ ⟨q_u ha 22 hb_ rfl rfl rfl, Q_B0⟩; refine steps_cons ?_ ?_; rintro b a w' ⟨ha, Q_B0⟩ hb_ hon hoff; refine ⟨_, rfl, fun K hK => ?_⟩; have e23 := q_n ha hon 23 18 18 rfl; replace ha := aK ha; have B0 := aK Q_B0; refine off_ (wanted_off rfl rfl rfl (e23.trans (by first | rfl | (simp [*]; done)))) ?_
   refine hK.out _ _ ⟨q_u ha 23 hb_ rfl rfl rfl, Q_B0⟩; refine steps_cons ?_ ?_; rintro b a w' ⟨ha, Q_B0⟩ hb_ hon hoff; refine ⟨_, rfl, fun K hK => ?_⟩; have e23 := q_n ha hon 23 18 18 rfl; replace ha := aK ha; have B0 := aK Q_B0; refine off_ (wanted_off rfl rfl rfl (e23.trans (by first | rfl | (simp [*]; done)))) ?_; refine hK.out _ _ ⟨q_u ha 24 hb_ rfl rfl rfl, Q_B0⟩; refine steps_cons ?_ ?_; rintro b a w' ⟨ha, Q_B0⟩ hb_ hon hoff; refine ⟨_, rfl, fun K hK => ?_⟩; have e23 := q_n ha hon 23 18 18 rfl; replace ha := aK ha; have B0 := aK Q_B0; refine off_ (wanted_off rfl rfl rfl (e23.trans (by first | rfl | (simp [*]; done)))) ?_; refine hK.out _ _ ⟨q_u ha 25 hb_ rfl rfl rfl, Q_B0⟩; refine steps_cons ?_ ?_; rintro b a w' ⟨ha, Q_B0⟩ hb_ hon hoff; refine ⟨_, rfl, fun K hK => ?_⟩; have e23 := q_n ha hon 23 18 18 rfl; replace ha := aK ha; have B0 := aK Q_B0; refine off_ (wanted_off rfl rfl rfl (e23.trans (by first | rfl | (simp [*]; done)))) ?_; refine hK.out _ _ ⟨q_u ha 26 hb_ rfl rfl rfl, Q_B0⟩; refine steps_cons ?_ ?_; rintro b a w' ⟨ha, Q_B0⟩ hb_ hon hoff; refine ⟨_, rfl, fun K hK => ?_⟩; have e23 := q_n ha hon 23 18 18 rfl; have e31 := q_n ha hon 31 26 26 rfl; replace ha := aK ha; have B0 := aK Q_B0; refine q_v (.bool false) (by rfl) rfl ?_ ?_; (· (go_simp; (try simp only [i64_w]); try rfl)); refine hK.out _ _ ⟨q_u ha 27 hb_ rfl rfl rfl, Q_B0⟩; refine steps_cons ?_ ?_; rintro b a w' ⟨ha, Q_B0⟩ hb_ hon hoff; refine ⟨_, rfl, fun K hK => ?_⟩; have e32 := q_n ha hon 32 27 27 rfl; replace ha := aK ha; have B0 := aK Q_B0; refine q_v (.bool false) (by rfl) rfl ?_ ?_; (· (go_simp; (try simp only [i64_w]); try rfl)); refine hK.out _ _ ⟨q_u ha 28 hb_ rfl rfl rfl, Q_B0⟩; exact steps_nil
  rintro b a wl hall ⟨ha, Q_B0⟩; clear B0; subst ha; rw [q_a hall]; rotate_left
  ·
   kernel_rfl
  simp only [List.foldl_cons, List.foldl_nil, Act.put, List.setIfInBounds_toArray, List.set_cons_zero, List.set_cons_succ]; have B0 := aK Q_B0; clear Q_B0; clear hall; go_wp2_with fail; go_ret; rw [show D.here bk pg = false by unfold Dv.here Dv.there; rw [T1.out]; rfl]; exact ⟨rfl, below_then HB2.out HB2.out.size B0.out⟩
 | true =>
  have T1 := aK h1; clear h1
  cases h2 : decide (bk < D.B) with
  | false =>
   have T2 := aK h2; clear h2; refine start_ (n := 29) (S := fun w' => True) (ds := []) #[false, false, false, false, false, false, false, false, false, false, false, false, false, false, false, false, false, false, false, false, false, false, false, false, false, false, false, false, false] (by kernel_rfl) rfl rfl trivial (fun hHeld => ?_); refine with_tabW here1.tab1 here1.bits1 (fun HT_ HW_ => ?_); generalize W2.drew = wq at B0 hHeld ⊢; refine inv_at [0, 1, 2, 3, 4, 5, 6, 7, 8, 9, 10, 11, 12, 13, 14, 15, 16, 17, 18, 19, 20, 21, 22, 23, 24, 25, 26, 27, 28] (fun a0_ b a w' => a = putSel a0_ b [(0, 5, .pointer (some ⟨g4, 0, none⟩)), (1, 6, .int .i64 bk), (2, 7, .bool true), (3, 8, .bool true), (4, 9, .pointer (some ⟨g4, 0, none⟩)), (5, 10, .int .i64 bk), (6, 11, .pointer (some ⟨L.g, 0, none⟩)), (7, 12, .pointer (some ⟨L.g, 0, none⟩)), (8, 13, .pointer (some ⟨L.g, 0, none⟩)), (9, 14, .pointer (some ⟨L.g, 0, none⟩)), (10, 15, .int .i64 D.B), (11, 16, .bool false), (12, 17, .bool false), (13, 18, .bool false), (14, 19, undef), (15, 20, undef), (16, 21, undef), (17, 22, .bool false), (18, 23, .bool false), (19, 24, undef), (20, 25, undef), (21, 26, undef), (22, 27, undef), (23, 28, undef), (24, 29, undef), (25, 30, undef), (26, 31, undef), (27, 32, .bool false), (28, 4, .bool false)] ∧ (Below W2.heap.size W2 w')) HT_.out HW_.out (by kernel_rfl) (by kernel_rfl) ?_ ?_ ?_
   ·
    exact ⟨by simp only [putSel, Bool.false_eq_true, if_false], B0.out⟩
   ·
    skip
    clear B0; refine steps_cons ?_ ?_; rintro b a w' ⟨ha, Q_B0⟩ hb_ hon hoff; refine ⟨_, rfl, fun K hK => ?_⟩; have e3 := q_f ha 3 rfl rfl; replace ha := aK ha; have B0 := aK Q_B0; refine q_v (.pointer (some ⟨g4, 0, none⟩)) (by rfl) rfl ?_ ?_; (· (go_simp; (try simp only [i64_w]); try rfl)); refine hK.out _ _ ⟨q_u ha 0 hb_ rfl rfl rfl, Q_B0⟩; refine steps_cons ?_ ?_; rintro b a w' ⟨ha, Q_B0⟩ hb_ hon hoff; refine ⟨_, rfl, fun K hK => ?_⟩; have e5 := q_n ha hon 5 0 0 rfl; replace ha := aK ha; have B0 := aK Q_B0; have c_ := blk_cell (blk_below HZ4.out B0.out) 0; refine q_v (.int .i64 bk) (by rfl) rfl ?_ ?_; (· (go_simp; (try simp only [i64_w]); try rfl)); refine hK.out _ _ ⟨q_u ha 1 hb_ rfl rfl rfl, Q_B0⟩; refine steps_cons ?_ ?_; rintro b a w' ⟨ha, Q_B0⟩ hb_ hon hoff; refine ⟨_, rfl, fun K hK => ?_⟩; have e6 := q_n ha hon 6 1 1 rfl; replace ha := aK ha; have B0 := aK Q_B0; have q_ := T1.out; refine q_v (.bool true) (by rfl) rfl ?_ ?_; (· (go_simp; (try simp only [i64_w]); try rfl)); refine hK.out _ _ ⟨q_u ha 2 hb_ rfl rfl rfl, Q_B0⟩; refine steps_cons ?_ ?_; rintro b a w' ⟨ha, Q_B0⟩ hb_ hon hoff; refine ⟨_, rfl, fun K hK => ?_⟩; have e7 := q_n ha hon 7 2 2 rfl; replace ha := aK ha; have B0 := aK Q_B0; refine q_v (.bool true) (by rfl) rfl ?_ ?_; (· (go_simp; (try simp only [i64_w]); try rfl)); refine hK.out _ _ ⟨q_u ha 3 hb_ rfl rfl rfl, Q_B0⟩; refine steps_cons ?_ ?_; rintro b a w' ⟨ha, Q_B0⟩ hb_ hon hoff; refine ⟨_, rfl, fun K hK => ?_⟩; have e3 := q_f ha 3 rfl rfl; have e8 := q_n ha hon 8 3 3 rfl; replace ha := aK ha; have B0 := aK Q_B0; refine q_v (.pointer (some ⟨g4, 0, none⟩)) (wanted_on rfl rfl rfl (e8.trans (by first | rfl | (simp [*]; done)))) rfl ?_ ?_; (· (go_simp; (try simp only [i64_w]); try rfl)); refine hK.out _ _ ⟨q_u ha 4 hb_ rfl rfl rfl, Q_B0⟩; refine steps_cons ?_ ?_; rintro b a w' ⟨ha, Q_B0⟩ hb_ hon hoff; refine ⟨_, rfl, fun K hK => ?_⟩; have e9 := q_n ha hon 9 4 4 rfl; have e8 := q_n ha hon 8 3 3 rfl; replace ha := aK ha; have B0 := aK Q_B0; have c_ := blk_cell (blk_below HZ4.out B0.out) 0; refine q_v (.int .i64 bk) (wanted_on rfl rfl rfl (e8.trans (by first | rfl | (simp [*]; done)))) rfl ?_ ?_; (· (go_simp; (try simp only [i64_w]); try rfl)); refine hK.out _ _ ⟨q_u ha 5 hb_ rfl rfl rfl, Q_B0⟩; refine steps_cons ?_ ?_; rintro b a w' ⟨ha, Q_B0⟩ hb_ hon hoff; refine ⟨_, rfl, fun K hK => ?_⟩; have e0 := q_f ha 0 rfl rfl; have e8 := q_n ha hon 8 3 3 rfl; replace ha := aK ha; have B0 := aK Q_B0; refine q_v (.pointer (some ⟨L.g, 0, none⟩)) (wanted_on rfl rfl rfl (e8.trans (by first | rfl | (simp [*]; done)))) rfl ?_ ?_; (· (go_simp; (try simp only [i64_w]); try rfl)); refine hK.out _ _ ⟨q_u ha 6 hb_ rfl rfl rfl, Q_B0⟩; refine steps_cons ?_ ?_; rintro b a w' ⟨ha, Q_B0⟩ hb_ hon hoff; refine ⟨_, rfl, fun K hK => ?_⟩; have e11 := q_n ha hon 11 6 6 rfl; have e8 := q_n ha hon 8 3 3 rfl; replace ha := aK ha; have B0 := aK Q_B0; refine q_v (.pointer (some ⟨L.g, 0, none⟩)) (wanted_on rfl rfl rfl (e8.trans (by first | rfl | (simp [*]; done)))) rfl ?_ ?_; (· (go_simp; (try simp only [i64_w]); try rfl)); refine hK.out _ _ ⟨q_u ha 7 hb_ rfl rfl rfl, Q_B0⟩; refine steps_cons ?_ ?_; rintro b a w' ⟨ha, Q_B0⟩ hb_ hon hoff; refine ⟨_, rfl, fun K hK => ?_⟩; have e12 := q_n ha hon 12 7 7 rfl; have e8 := q_n ha hon 8 3 3 rfl; replace ha := aK ha; have B0 := aK Q_B0; refine q_v (.pointer (some ⟨L.g, 0, none⟩)) (wanted_on rfl rfl rfl (e8.trans (by first | rfl | (simp [*]; done)))) rfl ?_ ?_; (· (go_simp; (try simp only [i64_w]); try rfl)); refine hK.out _ _ ⟨q_u ha 8 hb_ rfl rfl rfl, Q_B0⟩; refine steps_cons ?_ ?_; rintro b a w' ⟨ha, Q_B0⟩ hb_ hon hoff; refine ⟨_, rfl, fun K hK => ?_⟩; have e13 := q_n ha hon 13 8 8 rfl; have e8 := q_n ha hon 8 3 3 rfl; replace ha := aK ha; have B0 := aK Q_B0; refine q_v (.pointer (some ⟨L.g, 0, none⟩)) (wanted_on rfl rfl rfl (e8.trans (by first | rfl | (simp [*]; done)))) rfl ?_ ?_
    (· (go_simp; (try simp only [i64_w]); try rfl)); refine hK.out _ _ ⟨q_u ha 9 hb_ rfl rfl rfl, Q_B0⟩; refine steps_cons ?_ ?_; rintro b a w' ⟨ha, Q_B0⟩ hb_ hon hoff; refine ⟨_, rfl, fun K hK => ?_⟩; have e14 := q_n ha hon 14 9 9 rfl; have e8 := q_n ha hon 8 3 3 rfl; replace ha := aK ha; have B0 := aK Q_B0; have c_ := (xtop_cells (H2.out.below B0.out)).1; refine q_v (.int .i64 D.B) (wanted_on rfl rfl rfl (e8.trans (by first | rfl | (simp [*]; done)))) rfl ?_ ?_; (· (go_simp; (try simp only [i64_w]); try rfl)); refine hK.out _ _ ⟨q_u ha 10 hb_ rfl rfl rfl, Q_B0⟩; refine steps_cons ?_ ?_; rintro b a w' ⟨ha, Q_B0⟩ hb_ hon hoff; refine ⟨_, rfl, fun K hK => ?_⟩; have e10 := q_n ha hon 10 5 5 rfl; have e15 := q_n ha hon 15 10 10 rfl; have e8 := q_n ha hon 8 3 3 rfl; replace ha := aK ha; have B0 := aK Q_B0; have q_ := T2.out; refine q_v (.bool false) (wanted_on rfl rfl rfl (e8.trans (by first | rfl | (simp [*]; done)))) rfl ?_ ?_; (· (go_simp; (try simp only [i64_w]); try rfl)); refine hK.out _ _ ⟨q_u ha 11 hb_ rfl rfl rfl, Q_B0⟩; refine steps_cons ?_ ?_; rintro b a w' ⟨ha, Q_B0⟩ hb_ hon hoff; refine ⟨_, rfl, fun K hK => ?_⟩; have e8 := q_n ha hon 8 3 3 rfl; have e16 := q_n ha hon 16 11 11 rfl; replace ha := aK ha; have B0 := aK Q_B0; refine q_v (.bool false) (by rfl) rfl ?_ ?_; (· (go_simp; (try simp only [i64_w]); try rfl)); refine hK.out _ _ ⟨q_u ha 12 hb_ rfl rfl rfl, Q_B0⟩; refine steps_cons ?_ ?_; rintro b a w' ⟨ha, Q_B0⟩ hb_ hon hoff; refine ⟨_, rfl, fun K hK => ?_⟩; have e17 := q_n ha hon 17 12 12 rfl; replace ha := aK ha; have B0 := aK Q_B0; refine q_v (.bool false) (by rfl) rfl ?_ ?_; (· (go_simp; (try simp only [i64_w]); try rfl)); refine hK.out _ _ ⟨q_u ha 13 hb_ rfl rfl rfl, Q_B0⟩; refine steps_cons ?_ ?_; rintro b a w' ⟨ha, Q_B0⟩ hb_ hon hoff; refine ⟨_, rfl, fun K hK => ?_⟩; have e18 := q_n ha hon 18 13 13 rfl; replace ha := aK ha; have B0 := aK Q_B0; refine off_ (wanted_off rfl rfl rfl (e18.trans (by first | rfl | (simp [*]; done)))) ?_; refine hK.out _ _ ⟨q_u ha 14 hb_ rfl rfl rfl, Q_B0⟩; refine steps_cons ?_ ?_; rintro b a w' ⟨ha, Q_B0⟩ hb_ hon hoff; refine ⟨_, rfl, fun K hK => ?_⟩; have e18 := q_n ha hon 18 13 13 rfl; replace ha := aK ha; have B0 := aK Q_B0; refine off_ (wanted_off rfl rfl rfl (e18.trans (by first | rfl | (simp [*]; done)))) ?_; refine hK.out _ _ ⟨q_u ha 15 hb_ rfl rfl rfl, Q_B0⟩; refine steps_cons ?_ ?_; rintro b a w' ⟨ha, Q_B0⟩ hb_ hon hoff; refine ⟨_, rfl, fun K hK => ?_⟩; have e18 := q_n ha hon 18 13 13 rfl; replace ha := aK ha; have B0 := aK Q_B0; refine off_ (wanted_off rfl rfl rfl (e18.trans (by first | rfl | (simp [*]; done)))) ?_; refine hK.out _ _ ⟨q_u ha 16 hb_ rfl rfl rfl, Q_B0⟩; refine steps_cons ?_ ?_; rintro b a w' ⟨ha, Q_B0⟩ hb_ hon hoff; refine ⟨_, rfl, fun K hK => ?_⟩; have e18 := q_n ha hon 18 13 13 rfl; have e21 := q_n ha hon 21 16 16 rfl; replace ha := aK ha; have B0 := aK Q_B0; refine q_v (.bool false) (by rfl) rfl ?_ ?_; (· (go_simp; (try simp only [i64_w]); try rfl)); refine hK.out _ _ ⟨q_u ha 17 hb_ rfl rfl rfl, Q_B0⟩; refine steps_cons ?_ ?_; rintro b a w' ⟨ha, Q_B0⟩ hb_ hon hoff; refine ⟨_, rfl, fun K hK => ?_⟩; have e22 := q_n ha hon 22 17 17 rfl; replace ha := aK ha; have B0 := aK Q_B0; refine q_v (.bool false) (by rfl) rfl ?_ ?_; (· (go_simp; (try simp only [i64_w]); try rfl)); refine hK.out _ _ ⟨q_u ha 18 hb_ rfl rfl rfl, Q_B0⟩; refine steps_cons ?_ ?_; rintro b a w' ⟨ha, Q_B0⟩ hb_ hon hoff; refine ⟨_, rfl, fun K hK => ?_⟩; have e23 := q_n ha hon 23 18 18 rfl; replace ha := aK ha; have B0 := aK Q_B0; refine off_ (wanted_off rfl rfl rfl (e23.trans (by first | rfl | (simp [*]; done)))) ?_; refine hK.out _ _ ⟨q_u ha 19 hb_ rfl rfl rfl, Q_B0⟩; refine steps_cons ?_ ?_; rintro b a w' ⟨ha, Q_B0⟩ hb_ hon hoff; refine ⟨_, rfl, fun K hK => ?_⟩; have e23 := q_n ha hon 23 18 18 rfl; replace ha := aK ha; have B0 := aK Q_B0; refine off_ (wanted_off rfl rfl rfl (e23.trans (by first | rfl | (simp [*]; done)))) ?_
    refine hK.out _ _ ⟨q_u ha 20 hb_ rfl rfl rfl, Q_B0⟩; refine steps_cons ?_ ?_; rintro b a w' ⟨ha, Q_B0⟩ hb_ hon hoff; refine ⟨_, rfl, fun K hK => ?_⟩; have e23 := q_n ha hon 23 18 18 rfl; replace ha := aK ha; have B0 := aK Q_B0; refine off_ (wanted_off rfl rfl rfl (e23.trans (by first | rfl | (simp [*]; done)))) ?_; refine hK.out _ _ ⟨q_u ha 21 hb_ rfl rfl rfl, Q_B0⟩; refine steps_cons ?_ ?_; rintro b a w' ⟨ha, Q_B0⟩ hb_ hon hoff; refine ⟨_, rfl, fun K hK => ?_⟩; have e23 := q_n ha hon 23 18 18 rfl; replace ha := aK ha; have B0 := aK Q_B0; refine off_ (wanted_off rfl rfl rfl (e23.trans (by first | rfl | (simp [*]; done)))) ?_; refine hK.out _ _ ⟨q_u ha 22 hb_ rfl rfl rfl, Q_B0⟩; refine steps_cons ?_ ?_; rintro b a w' ⟨ha, Q_B0⟩ hb_ hon hoff; refine ⟨_, rfl, fun K hK => ?_⟩; have e23 := q_n ha hon 23 18 18 rfl; replace ha := aK ha; have B0 := aK Q_B0; refine off_ (wanted_off rfl rfl rfl (e23.trans (by first | rfl | (simp [*]; done)))) ?_; refine hK.out _ _ ⟨q_u ha 23 hb_ rfl rfl rfl, Q_B0⟩; refine steps_cons ?_ ?_; rintro b a w' ⟨ha, Q_B0⟩ hb_ hon hoff; refine ⟨_, rfl, fun K hK => ?_⟩; have e23 := q_n ha hon 23 18 18 rfl; replace ha := aK ha; have B0 := aK Q_B0; refine off_ (wanted_off rfl rfl rfl (e23.trans (by first | rfl | (simp [*]; done)))) ?_; refine hK.out _ _ ⟨q_u ha 24 hb_ rfl rfl rfl, Q_B0⟩; refine steps_cons ?_ ?_; rintro b a w' ⟨ha, Q_B0⟩ hb_ hon hoff; refine ⟨_, rfl, fun K hK => ?_⟩; have e23 := q_n ha hon 23 18 18 rfl; replace ha := aK ha; have B0 := aK Q_B0; refine off_ (wanted_off rfl rfl rfl (e23.trans (by first | rfl | (simp [*]; done)))) ?_; refine hK.out _ _ ⟨q_u ha 25 hb_ rfl rfl rfl, Q_B0⟩; refine steps_cons ?_ ?_; rintro b a w' ⟨ha, Q_B0⟩ hb_ hon hoff; refine ⟨_, rfl, fun K hK => ?_⟩; have e23 := q_n ha hon 23 18 18 rfl; replace ha := aK ha; have B0 := aK Q_B0; refine off_ (wanted_off rfl rfl rfl (e23.trans (by first | rfl | (simp [*]; done)))) ?_; refine hK.out _ _ ⟨q_u ha 26 hb_ rfl rfl rfl, Q_B0⟩; refine steps_cons ?_ ?_; rintro b a w' ⟨ha, Q_B0⟩ hb_ hon hoff; refine ⟨_, rfl, fun K hK => ?_⟩; have e23 := q_n ha hon 23 18 18 rfl; have e31 := q_n ha hon 31 26 26 rfl; replace ha := aK ha; have B0 := aK Q_B0; refine q_v (.bool false) (by rfl) rfl ?_ ?_; (· (go_simp; (try simp only [i64_w]); try rfl)); refine hK.out _ _ ⟨q_u ha 27 hb_ rfl rfl rfl, Q_B0⟩; refine steps_cons ?_ ?_; rintro b a w' ⟨ha, Q_B0⟩ hb_ hon hoff; refine ⟨_, rfl, fun K hK => ?_⟩; have e32 := q_n ha hon 32 27 27 rfl; replace ha := aK ha; have B0 := aK Q_B0; refine q_v (.bool false) (by rfl) rfl ?_ ?_; (· (go_simp; (try simp only [i64_w]); try rfl)); refine hK.out _ _ ⟨q_u ha 28 hb_ rfl rfl rfl, Q_B0⟩; exact steps_nil
   rintro b a wl hall ⟨ha, Q_B0⟩; clear B0; subst ha; rw [q_a hall]; rotate_left
   ·
    kernel_rfl
   simp only [List.foldl_cons, List.foldl_nil, Act.put, List.setIfInBounds_toArray, List.set_cons_zero, List.set_cons_succ]; have B0 := aK Q_B0; clear Q_B0; clear hall; go_wp2_with fail; go_ret; rw [show D.here bk pg = false by unfold Dv.here Dv.there; rw [T1.out, T2.out]; rfl]; exact ⟨rfl, below_then HB2.out HB2.out.size B0.out⟩
  | true =>
   have T2 := aK h2; clear h2
   cases h3 : decide (pg ≥ 0) with
   | false =>
    have T3 := aK h3; clear h3; refine start_ (n := 29) (S := fun w' => True) (ds := []) #[false, false, false, false, false, false, false, false, false, false, false, false, false, false, false, false, false, false, false, false, false, false, false, false, false, false, false, false, false] (by kernel_rfl) rfl rfl trivial (fun hHeld => ?_); refine with_tabW here1.tab1 here1.bits1 (fun HT_ HW_ => ?_); generalize W2.drew = wq at B0 hHeld ⊢; refine inv_at [0, 1, 2, 3, 4, 5, 6, 7, 8, 9, 10, 11, 12, 13, 14, 15, 16, 17, 18, 19, 20, 21, 22, 23, 24, 25, 26, 27, 28] (fun a0_ b a w' => a = putSel a0_ b [(0, 5, .pointer (some ⟨g4, 0, none⟩)), (1, 6, .int .i64 bk), (2, 7, .bool true), (3, 8, .bool true), (4, 9, .pointer (some ⟨g4, 0, none⟩)), (5, 10, .int .i64 bk), (6, 11, .pointer (some ⟨L.g, 0, none⟩)), (7, 12, .pointer (some ⟨L.g, 0, none⟩)), (8, 13, .pointer (some ⟨L.g, 0, none⟩)), (9, 14, .pointer (some ⟨L.g, 0, none⟩)), (10, 15, .int .i64 D.B), (11, 16, .bool true), (12, 17, .bool true), (13, 18, .bool true), (14, 19, .pointer (some ⟨g4, 1, none⟩)), (15, 20, .int .i64 pg), (16, 21, .bool false), (17, 22, .bool false), (18, 23, .bool false), (19, 24, undef), (20, 25, undef), (21, 26, undef), (22, 27, undef), (23, 28, undef), (24, 29, undef), (25, 30, undef), (26, 31, undef), (27, 32, .bool false), (28, 4, .bool false)] ∧ (Below W2.heap.size W2 w')) HT_.out HW_.out (by kernel_rfl) (by kernel_rfl) ?_ ?_ ?_
    ·
     exact ⟨by simp only [putSel, Bool.false_eq_true, if_false], B0.out⟩
    ·
     skip
     clear B0; refine steps_cons ?_ ?_; rintro b a w' ⟨ha, Q_B0⟩ hb_ hon hoff; refine ⟨_, rfl, fun K hK => ?_⟩; have e3 := q_f ha 3 rfl rfl; replace ha := aK ha; have B0 := aK Q_B0; refine q_v (.pointer (some ⟨g4, 0, none⟩)) (by rfl) rfl ?_ ?_; (· (go_simp; (try simp only [i64_w]); try rfl)); refine hK.out _ _ ⟨q_u ha 0 hb_ rfl rfl rfl, Q_B0⟩; refine steps_cons ?_ ?_; rintro b a w' ⟨ha, Q_B0⟩ hb_ hon hoff; refine ⟨_, rfl, fun K hK => ?_⟩; have e5 := q_n ha hon 5 0 0 rfl; replace ha := aK ha; have B0 := aK Q_B0; have c_ := blk_cell (blk_below HZ4.out B0.out) 0; refine q_v (.int .i64 bk) (by rfl) rfl ?_ ?_; (· (go_simp; (try simp only [i64_w]); try rfl)); refine hK.out _ _ ⟨q_u ha 1 hb_ rfl rfl rfl, Q_B0⟩; refine steps_cons ?_ ?_; rintro b a w' ⟨ha, Q_B0⟩ hb_ hon hoff; refine ⟨_, rfl, fun K hK => ?_⟩; have e6 := q_n ha hon 6 1 1 rfl; replace ha := aK ha; have B0 := aK Q_B0; have q_ := T1.out; refine q_v (.bool true) (by rfl) rfl ?_ ?_; (· (go_simp; (try simp only [i64_w]); try rfl)); refine hK.out _ _ ⟨q_u ha 2 hb_ rfl rfl rfl, Q_B0⟩; refine steps_cons ?_ ?_; rintro b a w' ⟨ha, Q_B0⟩ hb_ hon hoff; refine ⟨_, rfl, fun K hK => ?_⟩; have e7 := q_n ha hon 7 2 2 rfl; replace ha := aK ha; have B0 := aK Q_B0; refine q_v (.bool true) (by rfl) rfl ?_ ?_; (· (go_simp; (try simp only [i64_w]); try rfl)); refine hK.out _ _ ⟨q_u ha 3 hb_ rfl rfl rfl, Q_B0⟩; refine steps_cons ?_ ?_; rintro b a w' ⟨ha, Q_B0⟩ hb_ hon hoff; refine ⟨_, rfl, fun K hK => ?_⟩; have e3 := q_f ha 3 rfl rfl; have e8 := q_n ha hon 8 3 3 rfl; replace ha := aK ha; have B0 := aK Q_B0; refine q_v (.pointer (some ⟨g4, 0, none⟩)) (wanted_on rfl rfl rfl (e8.trans (by first | rfl | (simp [*]; done)))) rfl ?_ ?_; (· (go_simp; (try simp only [i64_w]); try rfl)); refine hK.out _ _ ⟨q_u ha 4 hb_ rfl rfl rfl, Q_B0⟩; refine steps_cons ?_ ?_; rintro b a w' ⟨ha, Q_B0⟩ hb_ hon hoff; refine ⟨_, rfl, fun K hK => ?_⟩; have e9 := q_n ha hon 9 4 4 rfl; have e8 := q_n ha hon 8 3 3 rfl; replace ha := aK ha; have B0 := aK Q_B0; have c_ := blk_cell (blk_below HZ4.out B0.out) 0; refine q_v (.int .i64 bk) (wanted_on rfl rfl rfl (e8.trans (by first | rfl | (simp [*]; done)))) rfl ?_ ?_; (· (go_simp; (try simp only [i64_w]); try rfl)); refine hK.out _ _ ⟨q_u ha 5 hb_ rfl rfl rfl, Q_B0⟩; refine steps_cons ?_ ?_; rintro b a w' ⟨ha, Q_B0⟩ hb_ hon hoff; refine ⟨_, rfl, fun K hK => ?_⟩; have e0 := q_f ha 0 rfl rfl; have e8 := q_n ha hon 8 3 3 rfl; replace ha := aK ha; have B0 := aK Q_B0; refine q_v (.pointer (some ⟨L.g, 0, none⟩)) (wanted_on rfl rfl rfl (e8.trans (by first | rfl | (simp [*]; done)))) rfl ?_ ?_; (· (go_simp; (try simp only [i64_w]); try rfl)); refine hK.out _ _ ⟨q_u ha 6 hb_ rfl rfl rfl, Q_B0⟩; refine steps_cons ?_ ?_; rintro b a w' ⟨ha, Q_B0⟩ hb_ hon hoff; refine ⟨_, rfl, fun K hK => ?_⟩; have e11 := q_n ha hon 11 6 6 rfl; have e8 := q_n ha hon 8 3 3 rfl; replace ha := aK ha; have B0 := aK Q_B0; refine q_v (.pointer (some ⟨L.g, 0, none⟩)) (wanted_on rfl rfl rfl (e8.trans (by first | rfl | (simp [*]; done)))) rfl ?_ ?_; (· (go_simp; (try simp only [i64_w]); try rfl)); refine hK.out _ _ ⟨q_u ha 7 hb_ rfl rfl rfl, Q_B0⟩; refine steps_cons ?_ ?_; rintro b a w' ⟨ha, Q_B0⟩ hb_ hon hoff; refine ⟨_, rfl, fun K hK => ?_⟩; have e12 := q_n ha hon 12 7 7 rfl; have e8 := q_n ha hon 8 3 3 rfl; replace ha := aK ha; have B0 := aK Q_B0; refine q_v (.pointer (some ⟨L.g, 0, none⟩)) (wanted_on rfl rfl rfl (e8.trans (by first | rfl | (simp [*]; done)))) rfl ?_ ?_; (· (go_simp; (try simp only [i64_w]); try rfl)); refine hK.out _ _ ⟨q_u ha 8 hb_ rfl rfl rfl, Q_B0⟩; refine steps_cons ?_ ?_; rintro b a w' ⟨ha, Q_B0⟩ hb_ hon hoff; refine ⟨_, rfl, fun K hK => ?_⟩; have e13 := q_n ha hon 13 8 8 rfl; have e8 := q_n ha hon 8 3 3 rfl; replace ha := aK ha; have B0 := aK Q_B0; refine q_v (.pointer (some ⟨L.g, 0, none⟩)) (wanted_on rfl rfl rfl (e8.trans (by first | rfl | (simp [*]; done)))) rfl ?_ ?_
     (· (go_simp; (try simp only [i64_w]); try rfl)); refine hK.out _ _ ⟨q_u ha 9 hb_ rfl rfl rfl, Q_B0⟩; refine steps_cons ?_ ?_; rintro b a w' ⟨ha, Q_B0⟩ hb_ hon hoff; refine ⟨_, rfl, fun K hK => ?_⟩; have e14 := q_n ha hon 14 9 9 rfl; have e8 := q_n ha hon 8 3 3 rfl; replace ha := aK ha; have B0 := aK Q_B0; have c_ := (xtop_cells (H2.out.below B0.out)).1; refine q_v (.int .i64 D.B) (wanted_on rfl rfl rfl (e8.trans (by first | rfl | (simp [*]; done)))) rfl ?_ ?_; (· (go_simp; (try simp only [i64_w]); try rfl)); refine hK.out _ _ ⟨q_u ha 10 hb_ rfl rfl rfl, Q_B0⟩; refine steps_cons ?_ ?_; rintro b a w' ⟨ha, Q_B0⟩ hb_ hon hoff; refine ⟨_, rfl, fun K hK => ?_⟩; have e10 := q_n ha hon 10 5 5 rfl; have e15 := q_n ha hon 15 10 10 rfl; have e8 := q_n ha hon 8 3 3 rfl; replace ha := aK ha; have B0 := aK Q_B0; have q_ := T2.out; refine q_v (.bool true) (wanted_on rfl rfl rfl (e8.trans (by first | rfl | (simp [*]; done)))) rfl ?_ ?_; (· (go_simp; (try simp only [i64_w]); try rfl)); refine hK.out _ _ ⟨q_u ha 11 hb_ rfl rfl rfl, Q_B0⟩; refine steps_cons ?_ ?_; rintro b a w' ⟨ha, Q_B0⟩ hb_ hon hoff; refine ⟨_, rfl, fun K hK => ?_⟩; have e8 := q_n ha hon 8 3 3 rfl; have e16 := q_n ha hon 16 11 11 rfl; replace ha := aK ha; have B0 := aK Q_B0; refine q_v (.bool true) (by rfl) rfl ?_ ?_; (· (go_simp; (try simp only [i64_w]); try rfl)); refine hK.out _ _ ⟨q_u ha 12 hb_ rfl rfl rfl, Q_B0⟩; refine steps_cons ?_ ?_; rintro b a w' ⟨ha, Q_B0⟩ hb_ hon hoff; refine ⟨_, rfl, fun K hK => ?_⟩; have e17 := q_n ha hon 17 12 12 rfl; replace ha := aK ha; have B0 := aK Q_B0; refine q_v (.bool true) (by rfl) rfl ?_ ?_; (· (go_simp; (try simp only [i64_w]); try rfl)); refine hK.out _ _ ⟨q_u ha 13 hb_ rfl rfl rfl, Q_B0⟩; refine steps_cons ?_ ?_; rintro b a w' ⟨ha, Q_B0⟩ hb_ hon hoff; refine ⟨_, rfl, fun K hK => ?_⟩; have e3 := q_f ha 3 rfl rfl; have e18 := q_n ha hon 18 13 13 rfl; replace ha := aK ha; have B0 := aK Q_B0; refine q_v (.pointer (some ⟨g4, 1, none⟩)) (wanted_on rfl rfl rfl (e18.trans (by first | rfl | (simp [*]; done)))) rfl ?_ ?_; (· (go_simp; (try simp only [i64_w]); try rfl)); refine hK.out _ _ ⟨q_u ha 14 hb_ rfl rfl rfl, Q_B0⟩; refine steps_cons ?_ ?_; rintro b a w' ⟨ha, Q_B0⟩ hb_ hon hoff; refine ⟨_, rfl, fun K hK => ?_⟩; have e19 := q_n ha hon 19 14 14 rfl; have e18 := q_n ha hon 18 13 13 rfl; replace ha := aK ha; have B0 := aK Q_B0; have c_ := blk_cell (blk_below HZ4.out B0.out) 1; refine q_v (.int .i64 pg) (wanted_on rfl rfl rfl (e18.trans (by first | rfl | (simp [*]; done)))) rfl ?_ ?_; (· (go_simp; (try simp only [i64_w]); try rfl)); refine hK.out _ _ ⟨q_u ha 15 hb_ rfl rfl rfl, Q_B0⟩; refine steps_cons ?_ ?_; rintro b a w' ⟨ha, Q_B0⟩ hb_ hon hoff; refine ⟨_, rfl, fun K hK => ?_⟩; have e20 := q_n ha hon 20 15 15 rfl; have e18 := q_n ha hon 18 13 13 rfl; replace ha := aK ha; have B0 := aK Q_B0; have q_ := T3.out; refine q_v (.bool false) (wanted_on rfl rfl rfl (e18.trans (by first | rfl | (simp [*]; done)))) rfl ?_ ?_; (· (go_simp; (try simp only [i64_w]); try rfl)); refine hK.out _ _ ⟨q_u ha 16 hb_ rfl rfl rfl, Q_B0⟩; refine steps_cons ?_ ?_; rintro b a w' ⟨ha, Q_B0⟩ hb_ hon hoff; refine ⟨_, rfl, fun K hK => ?_⟩; have e18 := q_n ha hon 18 13 13 rfl; have e21 := q_n ha hon 21 16 16 rfl; replace ha := aK ha; have B0 := aK Q_B0; refine q_v (.bool false) (by rfl) rfl ?_ ?_; (· (go_simp; (try simp only [i64_w]); try rfl)); refine hK.out _ _ ⟨q_u ha 17 hb_ rfl rfl rfl, Q_B0⟩; refine steps_cons ?_ ?_; rintro b a w' ⟨ha, Q_B0⟩ hb_ hon hoff; refine ⟨_, rfl, fun K hK => ?_⟩; have e22 := q_n ha hon 22 17 17 rfl; replace ha := aK ha; have B0 := aK Q_B0; refine q_v (.bool false) (by rfl) rfl ?_ ?_; (· (go_simp; (try simp only [i64_w]); try rfl)); refine hK.out _ _ ⟨q_u ha 18 hb_ rfl rfl rfl, Q_B0⟩; refine steps_cons ?_ ?_; rintro b a w' ⟨ha, Q_B0⟩ hb_ hon hoff; refine ⟨_, rfl, fun K hK => ?_⟩; have e23 := q_n ha hon 23 18 18 rfl
     replace ha := aK ha; have B0 := aK Q_B0; refine off_ (wanted_off rfl rfl rfl (e23.trans (by first | rfl | (simp [*]; done)))) ?_; refine hK.out _ _ ⟨q_u ha 19 hb_ rfl rfl rfl, Q_B0⟩; refine steps_cons ?_ ?_; rintro b a w' ⟨ha, Q_B0⟩ hb_ hon hoff; refine ⟨_, rfl, fun K hK => ?_⟩; have e23 := q_n ha hon 23 18 18 rfl; replace ha := aK ha; have B0 := aK Q_B0; refine off_ (wanted_off rfl rfl rfl (e23.trans (by first | rfl | (simp [*]; done)))) ?_; refine hK.out _ _ ⟨q_u ha 20 hb_ rfl rfl rfl, Q_B0⟩; refine steps_cons ?_ ?_; rintro b a w' ⟨ha, Q_B0⟩ hb_ hon hoff; refine ⟨_, rfl, fun K hK => ?_⟩; have e23 := q_n ha hon 23 18 18 rfl; replace ha := aK ha; have B0 := aK Q_B0; refine off_ (wanted_off rfl rfl rfl (e23.trans (by first | rfl | (simp [*]; done)))) ?_; refine hK.out _ _ ⟨q_u ha 21 hb_ rfl rfl rfl, Q_B0⟩; refine steps_cons ?_ ?_; rintro b a w' ⟨ha, Q_B0⟩ hb_ hon hoff; refine ⟨_, rfl, fun K hK => ?_⟩; have e23 := q_n ha hon 23 18 18 rfl; replace ha := aK ha; have B0 := aK Q_B0; refine off_ (wanted_off rfl rfl rfl (e23.trans (by first | rfl | (simp [*]; done)))) ?_; refine hK.out _ _ ⟨q_u ha 22 hb_ rfl rfl rfl, Q_B0⟩; refine steps_cons ?_ ?_; rintro b a w' ⟨ha, Q_B0⟩ hb_ hon hoff; refine ⟨_, rfl, fun K hK => ?_⟩; have e23 := q_n ha hon 23 18 18 rfl; replace ha := aK ha; have B0 := aK Q_B0; refine off_ (wanted_off rfl rfl rfl (e23.trans (by first | rfl | (simp [*]; done)))) ?_; refine hK.out _ _ ⟨q_u ha 23 hb_ rfl rfl rfl, Q_B0⟩; refine steps_cons ?_ ?_; rintro b a w' ⟨ha, Q_B0⟩ hb_ hon hoff; refine ⟨_, rfl, fun K hK => ?_⟩; have e23 := q_n ha hon 23 18 18 rfl; replace ha := aK ha; have B0 := aK Q_B0; refine off_ (wanted_off rfl rfl rfl (e23.trans (by first | rfl | (simp [*]; done)))) ?_; refine hK.out _ _ ⟨q_u ha 24 hb_ rfl rfl rfl, Q_B0⟩; refine steps_cons ?_ ?_; rintro b a w' ⟨ha, Q_B0⟩ hb_ hon hoff; refine ⟨_, rfl, fun K hK => ?_⟩; have e23 := q_n ha hon 23 18 18 rfl; replace ha := aK ha; have B0 := aK Q_B0; refine off_ (wanted_off rfl rfl rfl (e23.trans (by first | rfl | (simp [*]; done)))) ?_; refine hK.out _ _ ⟨q_u ha 25 hb_ rfl rfl rfl, Q_B0⟩; refine steps_cons ?_ ?_; rintro b a w' ⟨ha, Q_B0⟩ hb_ hon hoff; refine ⟨_, rfl, fun K hK => ?_⟩; have e23 := q_n ha hon 23 18 18 rfl; replace ha := aK ha; have B0 := aK Q_B0; refine off_ (wanted_off rfl rfl rfl (e23.trans (by first | rfl | (simp [*]; done)))) ?_; refine hK.out _ _ ⟨q_u ha 26 hb_ rfl rfl rfl, Q_B0⟩; refine steps_cons ?_ ?_; rintro b a w' ⟨ha, Q_B0⟩ hb_ hon hoff; refine ⟨_, rfl, fun K hK => ?_⟩; have e23 := q_n ha hon 23 18 18 rfl; have e31 := q_n ha hon 31 26 26 rfl; replace ha := aK ha; have B0 := aK Q_B0; refine q_v (.bool false) (by rfl) rfl ?_ ?_; (· (go_simp; (try simp only [i64_w]); try rfl)); refine hK.out _ _ ⟨q_u ha 27 hb_ rfl rfl rfl, Q_B0⟩; refine steps_cons ?_ ?_; rintro b a w' ⟨ha, Q_B0⟩ hb_ hon hoff; refine ⟨_, rfl, fun K hK => ?_⟩; have e32 := q_n ha hon 32 27 27 rfl; replace ha := aK ha; have B0 := aK Q_B0; refine q_v (.bool false) (by rfl) rfl ?_ ?_; (· (go_simp; (try simp only [i64_w]); try rfl)); refine hK.out _ _ ⟨q_u ha 28 hb_ rfl rfl rfl, Q_B0⟩; exact steps_nil
    rintro b a wl hall ⟨ha, Q_B0⟩; clear B0; subst ha; rw [q_a hall]; rotate_left
    ·
     kernel_rfl
    simp only [List.foldl_cons, List.foldl_nil, Act.put, List.setIfInBounds_toArray, List.set_cons_zero, List.set_cons_succ]; have B0 := aK Q_B0; clear Q_B0; clear hall; go_wp2_with fail; go_ret; rw [show D.here bk pg = false by unfold Dv.here Dv.there; rw [T1.out, T2.out, T3.out]; rfl]; exact ⟨rfl, below_then HB2.out HB2.out.size B0.out⟩
   | true =>
    have T3 := aK h3; clear h3
    cases h4 : decide (pg < D.P) with
    | false =>
     have T4 := aK h4; clear h4; refine start_ (n := 29) (S := fun w' => True) (ds := []) #[false, false, false, false, false, false, false, false, false, false, false, false, false, false, false, false, false, false, false, false, false, false, false, false, false, false, false, false, false] (by kernel_rfl) rfl rfl trivial (fun hHeld => ?_); refine with_tabW here1.tab1 here1.bits1 (fun HT_ HW_ => ?_); generalize W2.drew = wq at B0 hHeld ⊢; refine inv_at [0, 1, 2, 3, 4, 5, 6, 7, 8, 9, 10, 11, 12, 13, 14, 15, 16, 17, 18, 19, 20, 21, 22, 23, 24, 25, 26, 27, 28] (fun a0_ b a w' => a = putSel a0_ b [(0, 5, .pointer (some ⟨g4, 0, none⟩)), (1, 6, .int .i64 bk), (2, 7, .bool true), (3, 8, .bool true), (4, 9, .pointer (some ⟨g4, 0, none⟩)), (5, 10, .int .i64 bk), (6, 11, .pointer (some ⟨L.g, 0, none⟩)), (7, 12, .pointer (some ⟨L.g, 0, none⟩)), (8, 13, .pointer (some ⟨L.g, 0, none⟩)), (9, 14, .pointer (some ⟨L.g, 0, none⟩)), (10, 15, .int .i64 D.B), (11, 16, .bool true), (12, 17, .bool true), (13, 18, .bool true), (14, 19, .pointer (some ⟨g4, 1, none⟩)), (15, 20, .int .i64 pg), (16, 21, .bool true), (17, 22, .bool true), (18, 23, .bool true), (19, 24, .pointer (some ⟨g4, 1, none⟩)), (20, 25, .int .i64 pg), (21, 26, .pointer (some ⟨L.g, 0, none⟩)), (22, 27, .pointer (some ⟨L.g, 0, none⟩)), (23, 28, .pointer (some ⟨L.g, 0, none⟩)), (24, 29, .pointer (some ⟨L.g, 1, none⟩)), (25, 30, .int .i64 D.P), (26, 31, .bool false), (27, 32, .bool false), (28, 4, .bool false)] ∧ (Below W2.heap.size W2 w')) HT_.out HW_.out (by kernel_rfl) (by kernel_rfl) ?_ ?_ ?_
     ·
      exact ⟨by simp only [putSel, Bool.false_eq_true, if_false], B0.out⟩
     ·
      skip
      clear B0; refine steps_cons ?_ ?_; rintro b a w' ⟨ha, Q_B0⟩ hb_ hon hoff; refine ⟨_, rfl, fun K hK => ?_⟩; have e3 := q_f ha 3 rfl rfl; replace ha := aK ha; have B0 := aK Q_B0; refine q_v (.pointer (some ⟨g4, 0, none⟩)) (by rfl) rfl ?_ ?_; (· (go_simp; (try simp only [i64_w]); try rfl)); refine hK.out _ _ ⟨q_u ha 0 hb_ rfl rfl rfl, Q_B0⟩; refine steps_cons ?_ ?_; rintro b a w' ⟨ha, Q_B0⟩ hb_ hon hoff; refine ⟨_, rfl, fun K hK => ?_⟩; have e5 := q_n ha hon 5 0 0 rfl; replace ha := aK ha; have B0 := aK Q_B0; have c_ := blk_cell (blk_below HZ4.out B0.out) 0; refine q_v (.int .i64 bk) (by rfl) rfl ?_ ?_; (· (go_simp; (try simp only [i64_w]); try rfl)); refine hK.out _ _ ⟨q_u ha 1 hb_ rfl rfl rfl, Q_B0⟩; refine steps_cons ?_ ?_; rintro b a w' ⟨ha, Q_B0⟩ hb_ hon hoff; refine ⟨_, rfl, fun K hK => ?_⟩; have e6 := q_n ha hon 6 1 1 rfl; replace ha := aK ha; have B0 := aK Q_B0; have q_ := T1.out; refine q_v (.bool true) (by rfl) rfl ?_ ?_; (· (go_simp; (try simp only [i64_w]); try rfl)); refine hK.out _ _ ⟨q_u ha 2 hb_ rfl rfl rfl, Q_B0⟩; refine steps_cons ?_ ?_; rintro b a w' ⟨ha, Q_B0⟩ hb_ hon hoff; refine ⟨_, rfl, fun K hK => ?_⟩; have e7 := q_n ha hon 7 2 2 rfl; replace ha := aK ha; have B0 := aK Q_B0; refine q_v (.bool true) (by rfl) rfl ?_ ?_; (· (go_simp; (try simp only [i64_w]); try rfl)); refine hK.out _ _ ⟨q_u ha 3 hb_ rfl rfl rfl, Q_B0⟩; refine steps_cons ?_ ?_; rintro b a w' ⟨ha, Q_B0⟩ hb_ hon hoff; refine ⟨_, rfl, fun K hK => ?_⟩; have e3 := q_f ha 3 rfl rfl; have e8 := q_n ha hon 8 3 3 rfl; replace ha := aK ha; have B0 := aK Q_B0; refine q_v (.pointer (some ⟨g4, 0, none⟩)) (wanted_on rfl rfl rfl (e8.trans (by first | rfl | (simp [*]; done)))) rfl ?_ ?_; (· (go_simp; (try simp only [i64_w]); try rfl)); refine hK.out _ _ ⟨q_u ha 4 hb_ rfl rfl rfl, Q_B0⟩; refine steps_cons ?_ ?_; rintro b a w' ⟨ha, Q_B0⟩ hb_ hon hoff; refine ⟨_, rfl, fun K hK => ?_⟩; have e9 := q_n ha hon 9 4 4 rfl; have e8 := q_n ha hon 8 3 3 rfl; replace ha := aK ha; have B0 := aK Q_B0; have c_ := blk_cell (blk_below HZ4.out B0.out) 0; refine q_v (.int .i64 bk) (wanted_on rfl rfl rfl (e8.trans (by first | rfl | (simp [*]; done)))) rfl ?_ ?_; (· (go_simp; (try simp only [i64_w]); try rfl)); refine hK.out _ _ ⟨q_u ha 5 hb_ rfl rfl rfl, Q_B0⟩; refine steps_cons ?_ ?_; rintro b a w' ⟨ha, Q_B0⟩ hb_ hon hoff; refine ⟨_, rfl, fun K hK => ?_⟩; have e0 := q_f ha 0 rfl rfl; have e8 := q_n ha hon 8 3 3 rfl; replace ha := aK ha; have B0 := aK Q_B0; refine q_v (.pointer (some ⟨L.g, 0, none⟩)) (wanted_on rfl rfl rfl (e8.trans (by first | rfl | (simp [*]; done)))) rfl ?_ ?_; (· (go_simp; (try simp only [i64_w]); try rfl)); refine hK.out _ _ ⟨q_u ha 6 hb_ rfl rfl rfl, Q_B0⟩; refine steps_cons ?_ ?_; rintro b a w' ⟨ha, Q_B0⟩ hb_ hon hoff; refine ⟨_, rfl, fun K hK => ?_⟩; have e11 := q_n ha hon 11 6 6 rfl; have e8 := q_n ha hon 8 3 3 rfl; replace ha := aK ha; have B0 := aK Q_B0; refine q_v (.pointer (some ⟨L.g, 0, none⟩)) (wanted_on rfl rfl rfl (e8.trans (by first | rfl | (simp [*]; done)))) rfl ?_ ?_; (· (go_simp; (try simp only [i64_w]); try rfl)); refine hK.out _ _ ⟨q_u ha 7 hb_ rfl rfl rfl, Q_B0⟩; refine steps_cons ?_ ?_; rintro b a w' ⟨ha, Q_B0⟩ hb_ hon hoff; refine ⟨_, rfl, fun K hK => ?_⟩; have e12 := q_n ha hon 12 7 7 rfl; have e8 := q_n ha hon 8 3 3 rfl; replace ha := aK ha; have B0 := aK Q_B0; refine q_v (.pointer (some ⟨L.g, 0, none⟩)) (wanted_on rfl rfl rfl (e8.trans (by first | rfl | (simp [*]; done)))) rfl ?_ ?_; (· (go_simp; (try simp only [i64_w]); try rfl)); refine hK.out _ _ ⟨q_u ha 8 hb_ rfl rfl rfl, Q_B0⟩; refine steps_cons ?_ ?_; rintro b a w' ⟨ha, Q_B0⟩ hb_ hon hoff; refine ⟨_, rfl, fun K hK => ?_⟩; have e13 := q_n ha hon 13 8 8 rfl; have e8 := q_n ha hon 8 3 3 rfl; replace ha := aK ha; have B0 := aK Q_B0; refine q_v (.pointer (some ⟨L.g, 0, none⟩)) (wanted_on rfl rfl rfl (e8.trans (by first | rfl | (simp [*]; done)))) rfl ?_ ?_
      (· (go_simp; (try simp only [i64_w]); try rfl)); refine hK.out _ _ ⟨q_u ha 9 hb_ rfl rfl rfl, Q_B0⟩; refine steps_cons ?_ ?_; rintro b a w' ⟨ha, Q_B0⟩ hb_ hon hoff; refine ⟨_, rfl, fun K hK => ?_⟩; have e14 := q_n ha hon 14 9 9 rfl; have e8 := q_n ha hon 8 3 3 rfl; replace ha := aK ha; have B0 := aK Q_B0; have c_ := (xtop_cells (H2.out.below B0.out)).1; refine q_v (.int .i64 D.B) (wanted_on rfl rfl rfl (e8.trans (by first | rfl | (simp [*]; done)))) rfl ?_ ?_; (· (go_simp; (try simp only [i64_w]); try rfl)); refine hK.out _ _ ⟨q_u ha 10 hb_ rfl rfl rfl, Q_B0⟩; refine steps_cons ?_ ?_; rintro b a w' ⟨ha, Q_B0⟩ hb_ hon hoff; refine ⟨_, rfl, fun K hK => ?_⟩; have e10 := q_n ha hon 10 5 5 rfl; have e15 := q_n ha hon 15 10 10 rfl; have e8 := q_n ha hon 8 3 3 rfl; replace ha := aK ha; have B0 := aK Q_B0; have q_ := T2.out; refine q_v (.bool true) (wanted_on rfl rfl rfl (e8.trans (by first | rfl | (simp [*]; done)))) rfl ?_ ?_; (· (go_simp; (try simp only [i64_w]); try rfl)); refine hK.out _ _ ⟨q_u ha 11 hb_ rfl rfl rfl, Q_B0⟩; refine steps_cons ?_ ?_; rintro b a w' ⟨ha, Q_B0⟩ hb_ hon hoff; refine ⟨_, rfl, fun K hK => ?_⟩; have e8 := q_n ha hon 8 3 3 rfl; have e16 := q_n ha hon 16 11 11 rfl; replace ha := aK ha; have B0 := aK Q_B0; refine q_v (.bool true) (by rfl) rfl ?_ ?_; (· (go_simp; (try simp only [i64_w]); try rfl)); refine hK.out _ _ ⟨q_u ha 12 hb_ rfl rfl rfl, Q_B0⟩; refine steps_cons ?_ ?_; rintro b a w' ⟨ha, Q_B0⟩ hb_ hon hoff; refine ⟨_, rfl, fun K hK => ?_⟩; have e17 := q_n ha hon 17 12 12 rfl; replace ha := aK ha; have B0 := aK Q_B0; refine q_v (.bool true) (by rfl) rfl ?_ ?_; (· (go_simp; (try simp only [i64_w]); try rfl)); refine hK.out _ _ ⟨q_u ha 13 hb_ rfl rfl rfl, Q_B0⟩; refine steps_cons ?_ ?_; rintro b a w' ⟨ha, Q_B0⟩ hb_ hon hoff; refine ⟨_, rfl, fun K hK => ?_⟩; have e3 := q_f ha 3 rfl rfl; have e18 := q_n ha hon 18 13 13 rfl; replace ha := aK ha; have B0 := aK Q_B0; refine q_v (.pointer (some ⟨g4, 1, none⟩)) (wanted_on rfl rfl rfl (e18.trans (by first | rfl | (simp [*]; done)))) rfl ?_ ?_; (· (go_simp; (try simp only [i64_w]); try rfl)); refine hK.out _ _ ⟨q_u ha 14 hb_ rfl rfl rfl, Q_B0⟩; refine steps_cons ?_ ?_; rintro b a w' ⟨ha, Q_B0⟩ hb_ hon hoff; refine ⟨_, rfl, fun K hK => ?_⟩; have e19 := q_n ha hon 19 14 14 rfl; have e18 := q_n ha hon 18 13 13 rfl; replace ha := aK ha; have B0 := aK Q_B0; have c_ := blk_cell (blk_below HZ4.out B0.out) 1; refine q_v (.int .i64 pg) (wanted_on rfl rfl rfl (e18.trans (by first | rfl | (simp [*]; done)))) rfl ?_ ?_; (· (go_simp; (try simp only [i64_w]); try rfl)); refine hK.out _ _ ⟨q_u ha 15 hb_ rfl rfl rfl, Q_B0⟩; refine steps_cons ?_ ?_; rintro b a w' ⟨ha, Q_B0⟩ hb_ hon hoff; refine ⟨_, rfl, fun K hK => ?_⟩; have e20 := q_n ha hon 20 15 15 rfl; have e18 := q_n ha hon 18 13 13 rfl; replace ha := aK ha; have B0 := aK Q_B0; have q_ := T3.out; refine q_v (.bool true) (wanted_on rfl rfl rfl (e18.trans (by first | rfl | (simp [*]; done)))) rfl ?_ ?_; (· (go_simp; (try simp only [i64_w]); try rfl)); refine hK.out _ _ ⟨q_u ha 16 hb_ rfl rfl rfl, Q_B0⟩; refine steps_cons ?_ ?_; rintro b a w' ⟨ha, Q_B0⟩ hb_ hon hoff; refine ⟨_, rfl, fun K hK => ?_⟩; have e18 := q_n ha hon 18 13 13 rfl; have e21 := q_n ha hon 21 16 16 rfl; replace ha := aK ha; have B0 := aK Q_B0; refine q_v (.bool true) (by rfl) rfl ?_ ?_; (· (go_simp; (try simp only [i64_w]); try rfl)); refine hK.out _ _ ⟨q_u ha 17 hb_ rfl rfl rfl, Q_B0⟩; refine steps_cons ?_ ?_; rintro b a w' ⟨ha, Q_B0⟩ hb_ hon hoff; refine ⟨_, rfl, fun K hK => ?_⟩; have e22 := q_n ha hon 22 17 17 rfl; replace ha := aK ha; have B0 := aK Q_B0; refine q_v (.bool true) (by rfl) rfl ?_ ?_; (· (go_simp; (try simp only [i64_w]); try rfl)); refine hK.out _ _ ⟨q_u ha 18 hb_ rfl rfl rfl, Q_B0⟩; refine steps_cons ?_ ?_; rintro b a w' ⟨ha, Q_B0⟩ hb_ hon hoff; refine ⟨_, rfl, fun K hK => ?_⟩; have e3 := q_f ha 3 rfl rfl; have e23 := q_n ha hon 23 18 18 rfl
      replace ha := aK ha; have B0 := aK Q_B0; refine q_v (.pointer (some ⟨g4, 1, none⟩)) (wanted_on rfl rfl rfl (e23.trans (by first | rfl | (simp [*]; done)))) rfl ?_ ?_; (· (go_simp; (try simp only [i64_w]); try rfl)); refine hK.out _ _ ⟨q_u ha 19 hb_ rfl rfl rfl, Q_B0⟩; refine steps_cons ?_ ?_; rintro b a w' ⟨ha, Q_B0⟩ hb_ hon hoff; refine ⟨_, rfl, fun K hK => ?_⟩; have e24 := q_n ha hon 24 19 19 rfl; have e23 := q_n ha hon 23 18 18 rfl; replace ha := aK ha; have B0 := aK Q_B0; have c_ := blk_cell (blk_below HZ4.out B0.out) 1; refine q_v (.int .i64 pg) (wanted_on rfl rfl rfl (e23.trans (by first | rfl | (simp [*]; done)))) rfl ?_ ?_; (· (go_simp; (try simp only [i64_w]); try rfl)); refine hK.out _ _ ⟨q_u ha 20 hb_ rfl rfl rfl, Q_B0⟩; refine steps_cons ?_ ?_; rintro b a w' ⟨ha, Q_B0⟩ hb_ hon hoff; refine ⟨_, rfl, fun K hK => ?_⟩; have e0 := q_f ha 0 rfl rfl; have e23 := q_n ha hon 23 18 18 rfl; replace ha := aK ha; have B0 := aK Q_B0; refine q_v (.pointer (some ⟨L.g, 0, none⟩)) (wanted_on rfl rfl rfl (e23.trans (by first | rfl | (simp [*]; done)))) rfl ?_ ?_; (· (go_simp; (try simp only [i64_w]); try rfl)); refine hK.out _ _ ⟨q_u ha 21 hb_ rfl rfl rfl, Q_B0⟩; refine steps_cons ?_ ?_; rintro b a w' ⟨ha, Q_B0⟩ hb_ hon hoff; refine ⟨_, rfl, fun K hK => ?_⟩; have e26 := q_n ha hon 26 21 21 rfl; have e23 := q_n ha hon 23 18 18 rfl; replace ha := aK ha; have B0 := aK Q_B0; refine q_v (.pointer (some ⟨L.g, 0, none⟩)) (wanted_on rfl rfl rfl (e23.trans (by first | rfl | (simp [*]; done)))) rfl ?_ ?_; (· (go_simp; (try simp only [i64_w]); try rfl)); refine hK.out _ _ ⟨q_u ha 22 hb_ rfl rfl rfl, Q_B0⟩; refine steps_cons ?_ ?_; rintro b a w' ⟨ha, Q_B0⟩ hb_ hon hoff; refine ⟨_, rfl, fun K hK => ?_⟩; have e27 := q_n ha hon 27 22 22 rfl; have e23 := q_n ha hon 23 18 18 rfl; replace ha := aK ha; have B0 := aK Q_B0; refine q_v (.pointer (some ⟨L.g, 0, none⟩)) (wanted_on rfl rfl rfl (e23.trans (by first | rfl | (simp [*]; done)))) rfl ?_ ?_; (· (go_simp; (try simp only [i64_w]); try rfl)); refine hK.out _ _ ⟨q_u ha 23 hb_ rfl rfl rfl, Q_B0⟩; refine steps_cons ?_ ?_; rintro b a w' ⟨ha, Q_B0⟩ hb_ hon hoff; refine ⟨_, rfl, fun K hK => ?_⟩; have e28 := q_n ha hon 28 23 23 rfl; have e23 := q_n ha hon 23 18 18 rfl; replace ha := aK ha; have B0 := aK Q_B0; refine q_v (.pointer (some ⟨L.g, 1, none⟩)) (wanted_on rfl rfl rfl (e23.trans (by first | rfl | (simp [*]; done)))) rfl ?_ ?_; (· (go_simp; (try simp only [i64_w]); try rfl)); refine hK.out _ _ ⟨q_u ha 24 hb_ rfl rfl rfl, Q_B0⟩; refine steps_cons ?_ ?_; rintro b a w' ⟨ha, Q_B0⟩ hb_ hon hoff; refine ⟨_, rfl, fun K hK => ?_⟩; have e29 := q_n ha hon 29 24 24 rfl; have e23 := q_n ha hon 23 18 18 rfl; replace ha := aK ha; have B0 := aK Q_B0; have c_ := (xtop_cells (H2.out.below B0.out)).2.1; refine q_v (.int .i64 D.P) (wanted_on rfl rfl rfl (e23.trans (by first | rfl | (simp [*]; done)))) rfl ?_ ?_; (· (go_simp; (try simp only [i64_w]); try rfl)); refine hK.out _ _ ⟨q_u ha 25 hb_ rfl rfl rfl, Q_B0⟩; refine steps_cons ?_ ?_; rintro b a w' ⟨ha, Q_B0⟩ hb_ hon hoff; refine ⟨_, rfl, fun K hK => ?_⟩; have e25 := q_n ha hon 25 20 20 rfl; have e30 := q_n ha hon 30 25 25 rfl; have e23 := q_n ha hon 23 18 18 rfl; replace ha := aK ha; have B0 := aK Q_B0; have q_ := T4.out; refine q_v (.bool false) (wanted_on rfl rfl rfl (e23.trans (by first | rfl | (simp [*]; done)))) rfl ?_ ?_; (· (go_simp; (try simp only [i64_w]); try rfl)); refine hK.out _ _ ⟨q_u ha 26 hb_ rfl rfl rfl, Q_B0⟩; refine steps_cons ?_ ?_; rintro b a w' ⟨ha, Q_B0⟩ hb_ hon hoff; refine ⟨_, rfl, fun K hK => ?_⟩; have e23 := q_n ha hon 23 18 18 rfl; have e31 := q_n ha hon 31 26 26 rfl; replace ha := aK ha; have B0 := aK Q_B0; refine q_v (.bool false) (by rfl) rfl ?_ ?_; (· (go_simp; (try simp only [i64_w]); try rfl)); refine hK.out _ _ ⟨q_u ha 27 hb_ rfl rfl rfl, Q_B0⟩; refine steps_cons ?_ ?_; rintro b a w' ⟨ha, Q_B0⟩ hb_ hon hoff
      refine ⟨_, rfl, fun K hK => ?_⟩; have e32 := q_n ha hon 32 27 27 rfl; replace ha := aK ha; have B0 := aK Q_B0; refine q_v (.bool false) (by rfl) rfl ?_ ?_; (· (go_simp; (try simp only [i64_w]); try rfl)); refine hK.out _ _ ⟨q_u ha 28 hb_ rfl rfl rfl, Q_B0⟩; exact steps_nil
     rintro b a wl hall ⟨ha, Q_B0⟩; clear B0; subst ha; rw [q_a hall]; rotate_left
     ·
      kernel_rfl
     simp only [List.foldl_cons, List.foldl_nil, Act.put, List.setIfInBounds_toArray, List.set_cons_zero, List.set_cons_succ]; have B0 := aK Q_B0; clear Q_B0; clear hall; go_wp2_with fail; go_ret; rw [show D.here bk pg = false by unfold Dv.here Dv.there; rw [T1.out, T2.out, T3.out, T4.out]; rfl]; exact ⟨rfl, below_then HB2.out HB2.out.size B0.out⟩
    | true =>
     have T4 := aK h4; clear h4; refine start_ (n := 29) (S := fun w' => True) (ds := []) #[false, false, false, false, false, false, false, false, false, false, false, false, false, false, false, false, false, false, false, false, false, false, false, false, false, false, false, false, false] (by kernel_rfl) rfl rfl trivial (fun hHeld => ?_); refine with_tabW here1.tab1 here1.bits1 (fun HT_ HW_ => ?_); generalize W2.drew = wq at B0 hHeld ⊢; refine inv_at [0, 1, 2, 3, 4, 5, 6, 7, 8, 9, 10, 11, 12, 13, 14, 15, 16, 17, 18, 19, 20, 21, 22, 23, 24, 25, 26, 27, 28] (fun a0_ b a w' => a = putSel a0_ b [(0, 5, .pointer (some ⟨g4, 0, none⟩)), (1, 6, .int .i64 bk), (2, 7, .bool true), (3, 8, .bool true), (4, 9, .pointer (some ⟨g4, 0, none⟩)), (5, 10, .int .i64 bk), (6, 11, .pointer (some ⟨L.g, 0, none⟩)), (7, 12, .pointer (some ⟨L.g, 0, none⟩)), (8, 13, .pointer (some ⟨L.g, 0, none⟩)), (9, 14, .pointer (some ⟨L.g, 0, none⟩)), (10, 15, .int .i64 D.B), (11, 16, .bool true), (12, 17, .bool true), (13, 18, .bool true), (14, 19, .pointer (some ⟨g4, 1, none⟩)), (15, 20, .int .i64 pg), (16, 21, .bool true), (17, 22, .bool true), (18, 23, .bool true), (19, 24, .pointer (some ⟨g4, 1, none⟩)), (20, 25, .int .i64 pg), (21, 26, .pointer (some ⟨L.g, 0, none⟩)), (22, 27, .pointer (some ⟨L.g, 0, none⟩)), (23, 28, .pointer (some ⟨L.g, 0, none⟩)), (24, 29, .pointer (some ⟨L.g, 1, none⟩)), (25, 30, .int .i64 D.P), (26, 31, .bool true), (27, 32, .bool true), (28, 4, .bool true)] ∧ (Below W2.heap.size W2 w')) HT_.out HW_.out (by kernel_rfl) (by kernel_rfl) ?_ ?_ ?_
     ·
      exact ⟨by simp only [putSel, Bool.false_eq_true, if_false], B0.out⟩
     ·
      skip
      clear B0; refine steps_cons ?_ ?_; rintro b a w' ⟨ha, Q_B0⟩ hb_ hon hoff; refine ⟨_, rfl, fun K hK => ?_⟩; have e3 := q_f ha 3 rfl rfl; replace ha := aK ha; have B0 := aK Q_B0; refine q_v (.pointer (some ⟨g4, 0, none⟩)) (by rfl) rfl ?_ ?_; (· (go_simp; (try simp only [i64_w]); try rfl)); refine hK.out _ _ ⟨q_u ha 0 hb_ rfl rfl rfl, Q_B0⟩; refine steps_cons ?_ ?_; rintro b a w' ⟨ha, Q_B0⟩ hb_ hon hoff; refine ⟨_, rfl, fun K hK => ?_⟩; have e5 := q_n ha hon 5 0 0 rfl; replace ha := aK ha; have B0 := aK Q_B0; have c_ := blk_cell (blk_below HZ4.out B0.out) 0; refine q_v (.int .i64 bk) (by rfl) rfl ?_ ?_; (· (go_simp; (try simp only [i64_w]); try rfl)); refine hK.out _ _ ⟨q_u ha 1 hb_ rfl rfl rfl, Q_B0⟩; refine steps_cons ?_ ?_; rintro b a w' ⟨ha, Q_B0⟩ hb_ hon hoff; refine ⟨_, rfl, fun K hK => ?_⟩; have e6 := q_n ha hon 6 1 1 rfl; replace ha := aK ha; have B0 := aK Q_B0; have q_ := T1.out; refine q_v (.bool true) (by rfl) rfl ?_ ?_; (· (go_simp; (try simp only [i64_w]); try rfl)); refine hK.out _ _ ⟨q_u ha 2 hb_ rfl rfl rfl, Q_B0⟩; refine steps_cons ?_ ?_; rintro b a w' ⟨ha, Q_B0⟩ hb_ hon hoff; refine ⟨_, rfl, fun K hK => ?_⟩; have e7 := q_n ha hon 7 2 2 rfl; replace ha := aK ha; have B0 := aK Q_B0; refine q_v (.bool true) (by rfl) rfl ?_ ?_; (· (go_simp; (try simp only [i64_w]); try rfl)); refine hK.out _ _ ⟨q_u ha 3 hb_ rfl rfl rfl, Q_B0⟩; refine steps_cons ?_ ?_; rintro b a w' ⟨ha, Q_B0⟩ hb_ hon hoff; refine ⟨_, rfl, fun K hK => ?_⟩; have e3 := q_f ha 3 rfl rfl; have e8 := q_n ha hon 8 3 3 rfl; replace ha := aK ha; have B0 := aK Q_B0; refine q_v (.pointer (some ⟨g4, 0, none⟩)) (wanted_on rfl rfl rfl (e8.trans (by first | rfl | (simp [*]; done)))) rfl ?_ ?_; (· (go_simp; (try simp only [i64_w]); try rfl)); refine hK.out _ _ ⟨q_u ha 4 hb_ rfl rfl rfl, Q_B0⟩; refine steps_cons ?_ ?_; rintro b a w' ⟨ha, Q_B0⟩ hb_ hon hoff; refine ⟨_, rfl, fun K hK => ?_⟩; have e9 := q_n ha hon 9 4 4 rfl; have e8 := q_n ha hon 8 3 3 rfl; replace ha := aK ha; have B0 := aK Q_B0; have c_ := blk_cell (blk_below HZ4.out B0.out) 0; refine q_v (.int .i64 bk) (wanted_on rfl rfl rfl (e8.trans (by first | rfl | (simp [*]; done)))) rfl ?_ ?_; (· (go_simp; (try simp only [i64_w]); try rfl)); refine hK.out _ _ ⟨q_u ha 5 hb_ rfl rfl rfl, Q_B0⟩; refine steps_cons ?_ ?_; rintro b a w' ⟨ha, Q_B0⟩ hb_ hon hoff; refine ⟨_, rfl, fun K hK => ?_⟩; have e0 := q_f ha 0 rfl rfl; have e8 := q_n ha hon 8 3 3 rfl; replace ha := aK ha; have B0 := aK Q_B0; refine q_v (.pointer (some ⟨L.g, 0, none⟩)) (wanted_on rfl rfl rfl (e8.trans (by first | rfl | (simp [*]; done)))) rfl ?_ ?_; (· (go_simp; (try simp only [i64_w]); try rfl)); refine hK.out _ _ ⟨q_u ha 6 hb_ rfl rfl rfl, Q_B0⟩; refine steps_cons ?_ ?_; rintro b a w' ⟨ha, Q_B0⟩ hb_ hon hoff; refine ⟨_, rfl, fun K hK => ?_⟩; have e11 := q_n ha hon 11 6 6 rfl; have e8 := q_n ha hon 8 3 3 rfl; replace ha := aK ha; have B0 := aK Q_B0; refine q_v (.pointer (some ⟨L.g, 0, none⟩)) (wanted_on rfl rfl rfl (e8.trans (by first | rfl | (simp [*]; done)))) rfl ?_ ?_; (· (go_simp; (try simp only [i64_w]); try rfl)); refine hK.out _ _ ⟨q_u ha 7 hb_ rfl rfl rfl, Q_B0⟩; refine steps_cons ?_ ?_; rintro b a w' ⟨ha, Q_B0⟩ hb_ hon hoff; refine ⟨_, rfl, fun K hK => ?_⟩; have e12 := q_n ha hon 12 7 7 rfl; have e8 := q_n ha hon 8 3 3 rfl; replace ha := aK ha; have B0 := aK Q_B0; refine q_v (.pointer (some ⟨L.g, 0, none⟩)) (wanted_on rfl rfl rfl (e8.trans (by first | rfl | (simp [*]; done)))) rfl ?_ ?_; (· (go_simp; (try simp only [i64_w]); try rfl)); refine hK.out _ _ ⟨q_u ha 8 hb_ rfl rfl rfl, Q_B0⟩; refine steps_cons ?_ ?_; rintro b a w' ⟨ha, Q_B0⟩ hb_ hon hoff; refine ⟨_, rfl, fun K hK => ?_⟩; have e13 := q_n ha hon 13 8 8 rfl; have e8 := q_n ha hon 8 3 3 rfl; replace ha := aK ha; have B0 := aK Q_B0; refine q_v (.pointer (some ⟨L.g, 0, none⟩)) (wanted_on rfl rfl rfl (e8.trans (by first | rfl | (simp [*]; done)))) rfl ?_ ?_
      (· (go_simp; (try simp only [i64_w]); try rfl)); refine hK.out _ _ ⟨q_u ha 9 hb_ rfl rfl rfl, Q_B0⟩; refine steps_cons ?_ ?_; rintro b a w' ⟨ha, Q_B0⟩ hb_ hon hoff; refine ⟨_, rfl, fun K hK => ?_⟩; have e14 := q_n ha hon 14 9 9 rfl; have e8 := q_n ha hon 8 3 3 rfl; replace ha := aK ha; have B0 := aK Q_B0; have c_ := (xtop_cells (H2.out.below B0.out)).1; refine q_v (.int .i64 D.B) (wanted_on rfl rfl rfl (e8.trans (by first | rfl | (simp [*]; done)))) rfl ?_ ?_; (· (go_simp; (try simp only [i64_w]); try rfl)); refine hK.out _ _ ⟨q_u ha 10 hb_ rfl rfl rfl, Q_B0⟩; refine steps_cons ?_ ?_; rintro b a w' ⟨ha, Q_B0⟩ hb_ hon hoff; refine ⟨_, rfl, fun K hK => ?_⟩; have e10 := q_n ha hon 10 5 5 rfl; have e15 := q_n ha hon 15 10 10 rfl; have e8 := q_n ha hon 8 3 3 rfl; replace ha := aK ha; have B0 := aK Q_B0; have q_ := T2.out; refine q_v (.bool true) (wanted_on rfl rfl rfl (e8.trans (by first | rfl | (simp [*]; done)))) rfl ?_ ?_; (· (go_simp; (try simp only [i64_w]); try rfl)); refine hK.out _ _ ⟨q_u ha 11 hb_ rfl rfl rfl, Q_B0⟩; refine steps_cons ?_ ?_; rintro b a w' ⟨ha, Q_B0⟩ hb_ hon hoff; refine ⟨_, rfl, fun K hK => ?_⟩; have e8 := q_n ha hon 8 3 3 rfl; have e16 := q_n ha hon 16 11 11 rfl; replace ha := aK ha; have B0 := aK Q_B0; refine q_v (.bool true) (by rfl) rfl ?_ ?_; (· (go_simp; (try simp only [i64_w]); try rfl)); refine hK.out _ _ ⟨q_u ha 12 hb_ rfl rfl rfl, Q_B0⟩; refine steps_cons ?_ ?_; rintro b a w' ⟨ha, Q_B0⟩ hb_ hon hoff; refine ⟨_, rfl, fun K hK => ?_⟩; have e17 := q_n ha hon 17 12 12 rfl; replace ha := aK ha; have B0 := aK Q_B0; refine q_v (.bool true) (by rfl) rfl ?_ ?_; (· (go_simp; (try simp only [i64_w]); try rfl)); refine hK.out _ _ ⟨q_u ha 13 hb_ rfl rfl rfl, Q_B0⟩; refine steps_cons ?_ ?_; rintro b a w' ⟨ha, Q_B0⟩ hb_ hon hoff; refine ⟨_, rfl, fun K hK => ?_⟩; have e3 := q_f ha 3 rfl rfl; have e18 := q_n ha hon 18 13 13 rfl; replace ha := aK ha; have B0 := aK Q_B0; refine q_v (.pointer (some ⟨g4, 1, none⟩)) (wanted_on rfl rfl rfl (e18.trans (by first | rfl | (simp [*]; done)))) rfl ?_ ?_; (· (go_simp; (try simp only [i64_w]); try rfl)); refine hK.out _ _ ⟨q_u ha 14 hb_ rfl rfl rfl, Q_B0⟩; refine steps_cons ?_ ?_; rintro b a w' ⟨ha, Q_B0⟩ hb_ hon hoff; refine ⟨_, rfl, fun K hK => ?_⟩; have e19 := q_n ha hon 19 14 14 rfl; have e18 := q_n ha hon 18 13 13 rfl; replace ha := aK ha; have B0 := aK Q_B0; have c_ := blk_cell (blk_below HZ4.out B0.out) 1; refine q_v (.int .i64 pg) (wanted_on rfl rfl rfl (e18.trans (by first | rfl | (simp [*]; done)))) rfl ?_ ?_; (· (go_simp; (try simp only [i64_w]); try rfl)); refine hK.out _ _ ⟨q_u ha 15 hb_ rfl rfl rfl, Q_B0⟩; refine steps_cons ?_ ?_; rintro b a w' ⟨ha, Q_B0⟩ hb_ hon hoff; refine ⟨_, rfl, fun K hK => ?_⟩; have e20 := q_n ha hon 20 15 15 rfl; have e18 := q_n ha hon 18 13 13 rfl; replace ha := aK ha; have B0 := aK Q_B0; have q_ := T3.out; refine q_v (.bool true) (wanted_on rfl rfl rfl (e18.trans (by first | rfl | (simp [*]; done)))) rfl ?_ ?_; (· (go_simp; (try simp only [i64_w]); try rfl)); refine hK.out _ _ ⟨q_u ha 16 hb_ rfl rfl rfl, Q_B0⟩; refine steps_cons ?_ ?_; rintro b a w' ⟨ha, Q_B0⟩ hb_ hon hoff; refine ⟨_, rfl, fun K hK => ?_⟩; have e18 := q_n ha hon 18 13 13 rfl; have e21 := q_n ha hon 21 16 16 rfl; replace ha := aK ha; have B0 := aK Q_B0; refine q_v (.bool true) (by rfl) rfl ?_ ?_; (· (go_simp; (try simp only [i64_w]); try rfl)); refine hK.out _ _ ⟨q_u ha 17 hb_ rfl rfl rfl, Q_B0⟩; refine steps_cons ?_ ?_; rintro b a w' ⟨ha, Q_B0⟩ hb_ hon hoff; refine ⟨_, rfl, fun K hK => ?_⟩; have e22 := q_n ha hon 22 17 17 rfl; replace ha := aK ha; have B0 := aK Q_B0; refine q_v (.bool true) (by rfl) rfl ?_ ?_; (· (go_simp; (try simp only [i64_w]); try rfl)); refine hK.out _ _ ⟨q_u ha 18 hb_ rfl rfl rfl, Q_B0⟩; refine steps_cons ?_ ?_; rintro b a w' ⟨ha, Q_B0⟩ hb_ hon hoff; refine ⟨_, rfl, fun K hK => ?_⟩; have e3 := q_f ha 3 rfl rfl; have e23 := q_n ha hon 23 18 18 rfl
      replace ha := aK ha; have B0 := aK Q_B0; refine q_v (.pointer (some ⟨g4, 1, none⟩)) (wanted_on rfl rfl rfl (e23.trans (by first | rfl | (simp [*]; done)))) rfl ?_ ?_; (· (go_simp; (try simp only [i64_w]); try rfl)); refine hK.out _ _ ⟨q_u ha 19 hb_ rfl rfl rfl, Q_B0⟩; refine steps_cons ?_ ?_; rintro b a w' ⟨ha, Q_B0⟩ hb_ hon hoff; refine ⟨_, rfl, fun K hK => ?_⟩; have e24 := q_n ha hon 24 19 19 rfl; have e23 := q_n ha hon 23 18 18 rfl; replace ha := aK ha; have B0 := aK Q_B0; have c_ := blk_cell (blk_below HZ4.out B0.out) 1; refine q_v (.int .i64 pg) (wanted_on rfl rfl rfl (e23.trans (by first | rfl | (simp [*]; done)))) rfl ?_ ?_; (· (go_simp; (try simp only [i64_w]); try rfl)); refine hK.out _ _ ⟨q_u ha 20 hb_ rfl rfl rfl, Q_B0⟩; refine steps_cons ?_ ?_; rintro b a w' ⟨ha, Q_B0⟩ hb_ hon hoff; refine ⟨_, rfl, fun K hK => ?_⟩; have e0 := q_f ha 0 rfl rfl; have e23 := q_n ha hon 23 18 18 rfl; replace ha := aK ha; have B0 := aK Q_B0; refine q_v (.pointer (some ⟨L.g, 0, none⟩)) (wanted_on rfl rfl rfl (e23.trans (by first | rfl | (simp [*]; done)))) rfl ?_ ?_; (· (go_simp; (try simp only [i64_w]); try rfl)); refine hK.out _ _ ⟨q_u ha 21 hb_ rfl rfl rfl, Q_B0⟩; refine steps_cons ?_ ?_; rintro b a w' ⟨ha, Q_B0⟩ hb_ hon hoff; refine ⟨_, rfl, fun K hK => ?_⟩; have e26 := q_n ha hon 26 21 21 rfl; have e23 := q_n ha hon 23 18 18 rfl; replace ha := aK ha; have B0 := aK Q_B0; refine q_v (.pointer (some ⟨L.g, 0, none⟩)) (wanted_on rfl rfl rfl (e23.trans (by first | rfl | (simp [*]; done)))) rfl ?_ ?_; (· (go_simp; (try simp only [i64_w]); try rfl)); refine hK.out _ _ ⟨q_u ha 22 hb_ rfl rfl rfl, Q_B0⟩; refine steps_cons ?_ ?_; rintro b a w' ⟨ha, Q_B0⟩ hb_ hon hoff; refine ⟨_, rfl, fun K hK => ?_⟩; have e27 := q_n ha hon 27 22 22 rfl; have e23 := q_n ha hon 23 18 18 rfl; replace ha := aK ha; have B0 := aK Q_B0; refine q_v (.pointer (some ⟨L.g, 0, none⟩)) (wanted_on rfl rfl rfl (e23.trans (by first | rfl | (simp [*]; done)))) rfl ?_ ?_; (· (go_simp; (try simp only [i64_w]); try rfl)); refine hK.out _ _ ⟨q_u ha 23 hb_ rfl rfl rfl, Q_B0⟩; refine steps_cons ?_ ?_; rintro b a w' ⟨ha, Q_B0⟩ hb_ hon hoff; refine ⟨_, rfl, fun K hK => ?_⟩; have e28 := q_n ha hon 28 23 23 rfl; have e23 := q_n ha hon 23 18 18 rfl; replace ha := aK ha; have B0 := aK Q_B0; refine q_v (.pointer (some ⟨L.g, 1, none⟩)) (wanted_on rfl rfl rfl (e23.trans (by first | rfl | (simp [*]; done)))) rfl ?_ ?_; (· (go_simp; (try simp only [i64_w]); try rfl)); refine hK.out _ _ ⟨q_u ha 24 hb_ rfl rfl rfl, Q_B0⟩; refine steps_cons ?_ ?_; rintro b a w' ⟨ha, Q_B0⟩ hb_ hon hoff; refine ⟨_, rfl, fun K hK => ?_⟩; have e29 := q_n ha hon 29 24 24 rfl; have e23 := q_n ha hon 23 18 18 rfl; replace ha := aK ha; have B0 := aK Q_B0; have c_ := (xtop_cells (H2.out.below B0.out)).2.1; refine q_v (.int .i64 D.P) (wanted_on rfl rfl rfl (e23.trans (by first | rfl | (simp [*]; done)))) rfl ?_ ?_; (· (go_simp; (try simp only [i64_w]); try rfl)); refine hK.out _ _ ⟨q_u ha 25 hb_ rfl rfl rfl, Q_B0⟩; refine steps_cons ?_ ?_; rintro b a w' ⟨ha, Q_B0⟩ hb_ hon hoff; refine ⟨_, rfl, fun K hK => ?_⟩; have e25 := q_n ha hon 25 20 20 rfl; have e30 := q_n ha hon 30 25 25 rfl; have e23 := q_n ha hon 23 18 18 rfl; replace ha := aK ha; have B0 := aK Q_B0; have q_ := T4.out; refine q_v (.bool true) (wanted_on rfl rfl rfl (e23.trans (by first | rfl | (simp [*]; done)))) rfl ?_ ?_; (· (go_simp; (try simp only [i64_w]); try rfl)); refine hK.out _ _ ⟨q_u ha 26 hb_ rfl rfl rfl, Q_B0⟩; refine steps_cons ?_ ?_; rintro b a w' ⟨ha, Q_B0⟩ hb_ hon hoff; refine ⟨_, rfl, fun K hK => ?_⟩; have e23 := q_n ha hon 23 18 18 rfl; have e31 := q_n ha hon 31 26 26 rfl; replace ha := aK ha; have B0 := aK Q_B0; refine q_v (.bool true) (by rfl) rfl ?_ ?_; (· (go_simp; (try simp only [i64_w]); try rfl)); refine hK.out _ _ ⟨q_u ha 27 hb_ rfl rfl rfl, Q_B0⟩; refine steps_cons ?_ ?_; rintro b a w' ⟨ha, Q_B0⟩ hb_ hon hoff
      refine ⟨_, rfl, fun K hK => ?_⟩; have e32 := q_n ha hon 32 27 27 rfl; replace ha := aK ha; have B0 := aK Q_B0; refine q_v (.bool true) (by rfl) rfl ?_ ?_; (· (go_simp; (try simp only [i64_w]); try rfl)); refine hK.out _ _ ⟨q_u ha 28 hb_ rfl rfl rfl, Q_B0⟩; exact steps_nil
     rintro b a wl hall ⟨ha, Q_B0⟩; clear B0; subst ha; rw [q_a hall]; rotate_left
     ·
      kernel_rfl
     simp only [List.foldl_cons, List.foldl_nil, Act.put, List.setIfInBounds_toArray, List.set_cons_zero, List.set_cons_succ]; have B0 := aK Q_B0; clear Q_B0; clear hall; go_wp2_with fail; go_ret; rw [show D.here bk pg = true by unfold Dv.here Dv.there; rw [T1.out, T2.out, T3.out, T4.out]; rfl]; exact ⟨rfl, below_then HB2.out HB2.out.size B0.out⟩
end Go.Proofs.Ytnchdmidaigheaa.ND
namespace Go.Proofs.Ytnchdmidaigheaa.ND
set_option linter.unusedVariables false
set_option linter.unusedSimpArgs false
open Go.RowKit Go.Proofs.Ytnchdmidaigheaa.Hp Go.Proofs.YtnchdmidaigheaaW.PrintWords Go.Proofs.YtnchdmidaigheaaW.PrintLast Go.Proofs.YtnchdmidaigheaaW.PrintMore
def xfault8.T8 : Bool × List (List Nat × List Nat) := (true, [([], []), ([0], [0]), ([], []), ([2], [2]), ([1, 0, 1], [1]), ([3, 4, 0, 1, 2, 3, 4], [3])])
def xfault8.B8 : List Nat := [0, 1, 0, 4, 3, 31]
theorem xfault8.tab8 : rtab .any (opsOf Try.f75 8) = xfault8.T8 := by kernel_rfl
theorem xfault8.bits8 : waitsOk xfault8.T8.2 xfault8.B8 = true := by kernel_rfl
theorem litF {W : World} {g T : Nat} {k : IntKind} {x : Int} {ok : Nat → Prop} (h : W.heap[g]? = some (.cells #[.int k x] T (0, 0))) (ho : ok g) : Kd.F (Kd.int k) W ok (some ⟨g, 0, none⟩) 1 [x] := fun W' hW =>
 ⟨rfl, by decide, fun _ => ⟨_, rfl, fun j p hp => by
  have hj : j = 0 := by have := (List.getElem?_eq_some_iff.1 hp).1; simp at this; exact this
  subst hj; obtain rfl : x = p := by simpa using hp
  exact ⟨[.int k x], rfl, rfl, fun i u hu => by
   have hi : i = 0 := by have := (List.getElem?_eq_some_iff.1 hu).1; simp at this; exact this
   subst hi; rw [add_plain]; exact (blk_cell ((hW g ho (blk_lt h)).trans h) 0).trans hu⟩⟩⟩
set_option maxHeartbeats 2000000 in
set_option maxRecDepth 100000 in
theorem xfault_calls {W : World} {ok : Nat → Prop} {L : XLay} {D : Dv} (h : XV W ok L D) :
  Calls Try.prog 75 #[.pointer (some ⟨L.g, 0, none⟩)] W fun e w' => ∃ A c, e = .returned (.tuple #[.int .i64 D.fault.1, .slice A D.fault.2.length c]) ∧ D.fault.2.length ≤ c ∧ Kd.F (Kd.int .u8) w' (newer W ok) A D.fault.2.length D.fault.2 ∧ XV w' ok L { D with ops := wrap64 (D.ops + 1) } ∧ Turn W w' L.S := by
 have H1 := aK (h.set_ops (wrap64 (D.ops + 1))); have T1 := aK ((Turn.refl W L.S).setCell (p := ⟨L.g, 8, none⟩) (.inl (.inl rfl)) (.int .i64 (wrap64 (D.ops + 1)))); have c8 := (xtop_cells h).2.2.2.2.2.2.2.2.1; have f8 := blk_frozen h.top 8; have HLT := aK h.ok.fl; clear h; go_enter Try.func75, Try.ntmps75; go_upto_region 3 with fail; generalize W.setCell ⟨L.g, 8, none⟩ (.int .i64 (wrap64 (D.ops + 1))) = W1 at H1 T1 ⊢; clear c8 f8; go_wp2_with fail
 go_loopg [5] (D.faults.length + 1) (fun kq v5 w' => ∃ i : Nat, v5 = .int .i64 (i : Int) ∧ Aside0 (i ≤ D.faults.length ∧ kq + i = D.faults.length + 1 ∧ ∀ f ∈ D.faults.take i, onF f D.ops = false) ∧ Aside0 (Below W1.heap.size W1 w'))
 case atStart => exact ⟨0, rfl, ⟨Nat.zero_le _, rfl, by simp⟩, ⟨Below.refl _ _⟩⟩
 case round =>
  obtain ⟨i, rfl, HI, BB⟩ := hrel; have c7 := (xtop_cells (H1.out.below BB.out)).2.2.2.2.2.2.2.1; by_cases hi : i < D.faults.length
  case neg =>
   have hie : i = D.faults.length := by have := HI.out.1; omega
   have t1 : decide ((i : Int) < (D.faults.length : Int)) = false := decide_eq_false (by omega); have t2 : decide (i < D.faults.length) = false := decide_eq_false (by omega); have HF : Aside0 (D.fault = (0, [255])) := ⟨fault_none (by have := HI.out.2.2; rwa [hie, List.take_length] at this)⟩; have hz9 := heap_alloc_new wr (.cells #[.int .u8 255] 5); have hb9 := below_alloc (Below.refl wr.heap.size wr) (.cells #[.int .u8 255] 5); have hT := (T1.out.below BB.out).below hb9; have hF9 := litF (ok := newer W ok) hz9 (.inr (Nat.le_trans T1.out.size BB.out.size)); have H9 := aK (And.intro hF9 (And.intro ((H1.out.below BB.out).below hb9) hT)); clear hi hie hz9 hb9 hT hF9; go_wp2_with fail; go_ret2; rw [HF.out]; exact ⟨_, 1, rfl, Nat.le_refl _, H9.out.1, H9.out.2.1, H9.out.2.2⟩
  case pos =>
   have t1 : decide ((i : Int) < (D.faults.length : Int)) = true := decide_eq_true (by omega); have t2 : decide (i < D.faults.length) = true := decide_eq_true (by omega); have p1 := eq_true (show (0 : Int) ≤ (i : Int) by omega); have q1 := eq_true (show (i : Int) < (D.faults.length : Int) by omega); obtain ⟨ad, cs, hA, hcl, hFK, hcc, _⟩ := Kd.F_get (H1.out.below BB.out).fl.1 z65 (i : Int) (by omega) (show (i : Int) < ((D.faults.length : Nat) : Int) by omega); obtain ⟨A2, c2, rfl, l2, g2⟩ := k65_openF hFK; obtain ⟨x, hx⟩ : ∃ x, x = rd_T65 D.faults (i : Int) := ⟨_, rfl⟩; have hx' : D.faults.getD (i : Int).toNat z65 = x := hx.symm; rw [hx'] at hcc l2 g2; have hx0 : wr.cell? (ad.add (i * 3)) = some (.int .i64 x.f0) := by have := hcc 0 _ rfl; rwa [Int.toNat_natCast] at this
   have hx1 : wr.cell? ⟨(ad.add (i * 3)).block, (ad.add (i * 3)).off + 1, none⟩ = some (.int .i64 x.f1) := by have := hcc 1 _ rfl; rw [Int.toNat_natCast] at this; rw [← add_field _ _ 1 (by omega)]; exact this
   have hx2 : wr.cell? ⟨(ad.add (i * 3)).block, (ad.add (i * 3)).off + 2, none⟩ = some (.slice A2 x.f2.length c2) := by have := hcc 2 _ rfl; rw [Int.toNat_natCast] at this; rw [← add_field _ _ 2 (by omega)]; exact this
   have HA := aK hA; have HX := aK (And.intro hx (And.intro l2 g2)); have hA' : L.Af = some ad := hA; rw [hA'] at c7; clear hA hA' hcl hFK hcc hx hx' l2 g2; have hz6 := heap_alloc_new wr (.cells #[.int .i64 x.f0, .int .i64 x.f1, .slice A2 x.f2.length c2] 65); have hb6 := below_alloc BB.out (.cells #[.int .i64 x.f0, .int .i64 x.f1, .slice A2 x.f2.length c2] 65); have hg6 := Kd.F_alloc HX.out.2.2 (.cells #[.int .i64 x.f0, .int .i64 x.f1, .slice A2 x.f2.length c2] 65); go_upto_region 7 with fail; generalize wr.alloc (.cells #[.int .i64 x.f0, .int .i64 x.f1, .slice A2 x.f2.length c2] 65) = W6 at hz6 hb6 hg6 ⊢; generalize wr.heap.size = h6 at hz6 ⊢; have HB6 := aK hb6; have HG6 := aK hg6; have HZ6 := aK hz6; have x0 := blk_cell hz6 0; have x1 := blk_cell hz6 1; have HI2 := aK hi; obtain ⟨hw5, hw6⟩ := wrap_id (x := (i : Int) + 1) (by omega) (by have := HLT.out; omega); clear hx0 hx1 hx2 p1 q1 t1 t2 hb6 hg6 hz6 hi c7
   cases e1 : (x.f0 == D.ops) with
   | false =>
    have HO : Aside0 (onF x D.ops = false) := ⟨by unfold onF; rw [e1]; rfl⟩; go_wp2_with fail; go_roundg (D.faults.length - i)
    case measure => have := HI.out.2.1; have := HI2.out; omega
    case rel => exact ⟨i + 1, by first | rfl | simp, ⟨HI2.out, by have := HI.out.2.1; have := HI2.out; omega, take_on HI2.out HI.out.2.2 (HX.out.1 ▸ HO.out)⟩, HB6⟩
   | true =>
    cases e2 : (x.f1 == 1) with
    | true =>
     have HO : Aside0 (onF x D.ops = true) := ⟨by unfold onF; rw [e1, e2]; rfl⟩; go_upto_region 8 with fail; have B0 := aK (below_drew1 (Below.refl W6.heap.size W6)); have Z6 := aK (blk_drew HZ6.out); clear x0 x1; refine start_ (n := 6) (S := fun w' => True) (ds := []) #[false, false, false, false, false, false] (by kernel_rfl) rfl rfl trivial (fun hHeld => ?_); refine with_tabW xfault8.tab8 xfault8.bits8 (fun HT_ HW_ => ?_); generalize W6.drew = wq at B0 Z6 hHeld ⊢; refine inv_at [0, 1, 2, 3, 4, 5] (fun a0_ b a w' => a = putSel a0_ b [(0, 49, .pointer (some ⟨h6, 1, none⟩)), (1, 50, .int .i64 x.f1), (2, 51, .pointer (some ⟨h6, 2, none⟩)), (3, 52, .slice A2 x.f2.length c2), (4, 2, .int .i64 x.f1), (5, 3, .slice A2 x.f2.length c2)] ∧ (Below W6.heap.size W6 w') ∧ (w'.heap[h6]? = some (.cells #[.int .i64 x.f0, .int .i64 x.f1, .slice A2 x.f2.length c2] 65 (0, 0)))) HT_.out HW_.out (by kernel_rfl) (by kernel_rfl) ?_ ?_ ?_
     ·
      exact ⟨by simp only [putSel, Bool.false_eq_true, if_false], B0.out, Z6.out⟩
     ·
      skip
      clear B0 Z6; refine steps_cons ?_ ?_; rintro b a w' ⟨ha, Q_B0, Q_Z6⟩ hb_ hon hoff; refine ⟨_, rfl, fun K hK => ?_⟩; have e6 := q_f ha 6 rfl rfl; replace ha := aK ha; have B0 := aK Q_B0; have Z6 := aK Q_Z6; refine q_v (.pointer (some ⟨h6, 1, none⟩)) (by rfl) rfl ?_ ?_; (· (go_simp; (try simp only [i64_w]); try rfl)); refine hK.out _ _ ⟨q_u ha 0 hb_ rfl rfl rfl, Q_B0, Q_Z6⟩; refine steps_cons ?_ ?_; rintro b a w' ⟨ha, Q_B0, Q_Z6⟩ hb_ hon hoff; refine ⟨_, rfl, fun K hK => ?_⟩; have e49 := q_n ha hon 49 0 0 rfl; replace ha := aK ha; have B0 := aK Q_B0; have Z6 := aK Q_Z6; have c_ := blk_cell Z6.out 1; refine q_v (.int .i64 x.f1) (by rfl) rfl ?_ ?_; (· (go_simp; (try simp only [i64_w]); try rfl)); refine hK.out _ _ ⟨q_u ha 1 hb_ rfl rfl rfl, Q_B0, Q_Z6⟩; refine steps_cons ?_ ?_; rintro b a w' ⟨ha, Q_B0, Q_Z6⟩ hb_ hon hoff; refine ⟨_, rfl, fun K hK => ?_⟩; have e6 := q_f ha 6 rfl rfl; replace ha := aK ha; have B0 := aK Q_B0; have Z6 := aK Q_Z6; refine q_v (.pointer (some ⟨h6, 2, none⟩)) (by rfl) rfl ?_ ?_; (· (go_simp; (try simp only [i64_w]); try rfl)); refine hK.out _ _ ⟨q_u ha 2 hb_ rfl rfl rfl, Q_B0, Q_Z6⟩; refine steps_cons ?_ ?_; rintro b a w' ⟨ha, Q_B0, Q_Z6⟩ hb_ hon hoff; refine ⟨_, rfl, fun K hK => ?_⟩; have e51 := q_n ha hon 51 2 2 rfl; replace ha := aK ha; have B0 := aK Q_B0; have Z6 := aK Q_Z6; have c_ := blk_cell Z6.out 2; refine q_v (.slice A2 x.f2.length c2) (by rfl) rfl ?_ ?_; (· (go_simp; (try simp only [i64_w]); try rfl)); refine hK.out _ _ ⟨q_u ha 3 hb_ rfl rfl rfl, Q_B0, Q_Z6⟩; refine steps_cons ?_ ?_; rintro b a w' ⟨ha, Q_B0, Q_Z6⟩ hb_ hon hoff; refine ⟨_, rfl, fun K hK => ?_⟩; have e50 := q_n ha hon 50 1 1 rfl; replace ha := aK ha; have B0 := aK Q_B0; have Z6 := aK Q_Z6; refine q_v (.int .i64 x.f1) (by rfl) rfl ?_ ?_; (· (go_simp; (try simp only [i64_w]); try rfl)); refine hK.out _ _ ⟨q_u ha 4 hb_ rfl rfl rfl, Q_B0, Q_Z6⟩; refine steps_cons ?_ ?_; rintro b a w' ⟨ha, Q_B0, Q_Z6⟩ hb_ hon hoff; refine ⟨_, rfl, fun K hK => ?_⟩; have e52 := q_n ha hon 52 3 3 rfl; replace ha := aK ha; have B0 := aK Q_B0; have Z6 := aK Q_Z6; refine q_v (.slice A2 x.f2.length c2) (by rfl) rfl ?_ ?_; (· (go_simp; (try simp only [i64_w]); try rfl)); refine hK.out _ _ ⟨q_u ha 5 hb_ rfl rfl rfl, Q_B0, Q_Z6⟩; exact steps_nil
     rintro b a wl hall ⟨ha, Q_B0, Q_Z6⟩; clear B0 Z6; subst ha; rw [q_a hall]; rotate_left
     ·
      kernel_rfl
     simp only [List.foldl_cons, List.foldl_nil, Act.put, List.setIfInBounds_toArray, List.set_cons_zero, List.set_cons_succ]; have B0 := aK Q_B0; clear Q_B0; have Z6 := aK Q_Z6; clear Q_Z6; clear hall; go_wp2_with fail; go_ret2; have hT := (T1.out.below HB6.out).below B0.out; have hf := fault_at HI2.out HI.out.2.2 (HX.out.1 ▸ HO.out); rw [← HX.out.1] at hf; rw [hf]; exact ⟨A2, c2, rfl, HX.out.2.1, Kd.F_mono (Kd.F_below HG6.out B0.out) (fun k hk => .inl hk), (H1.out.below HB6.out).below B0.out, hT⟩
    | false =>
     cases e3 : (x.f1 == 2) with
     | true =>
      have HO : Aside0 (onF x D.ops = true) := ⟨by unfold onF; rw [e1, e2, e3]; rfl⟩; go_upto_region 8 with fail; have B0 := aK (below_drew1 (Below.refl W6.heap.size W6)); have Z6 := aK (blk_drew HZ6.out); clear x0 x1; refine start_ (n := 6) (S := fun w' => True) (ds := []) #[false, false, false, false, false, false] (by kernel_rfl) rfl rfl trivial (fun hHeld => ?_); refine with_tabW xfault8.tab8 xfault8.bits8 (fun HT_ HW_ => ?_); generalize W6.drew = wq at B0 Z6 hHeld ⊢; refine inv_at [0, 1, 2, 3, 4, 5] (fun a0_ b a w' => a = putSel a0_ b [(0, 49, .pointer (some ⟨h6, 1, none⟩)), (1, 50, .int .i64 x.f1), (2, 51, .pointer (some ⟨h6, 2, none⟩)), (3, 52, .slice A2 x.f2.length c2), (4, 2, .int .i64 x.f1), (5, 3, .slice A2 x.f2.length c2)] ∧ (Below W6.heap.size W6 w') ∧ (w'.heap[h6]? = some (.cells #[.int .i64 x.f0, .int .i64 x.f1, .slice A2 x.f2.length c2] 65 (0, 0)))) HT_.out HW_.out (by kernel_rfl) (by kernel_rfl) ?_ ?_ ?_
      ·
       exact ⟨by simp only [putSel, Bool.false_eq_true, if_false], B0.out, Z6.out⟩
      ·
       skip
       clear B0 Z6; refine steps_cons ?_ ?_; rintro b a w' ⟨ha, Q_B0, Q_Z6⟩ hb_ hon hoff; refine ⟨_, rfl, fun K hK => ?_⟩; have e6 := q_f ha 6 rfl rfl; replace ha := aK ha; have B0 := aK Q_B0; have Z6 := aK Q_Z6; refine q_v (.pointer (some ⟨h6, 1, none⟩)) (by rfl) rfl ?_ ?_; (· (go_simp; (try simp only [i64_w]); try rfl)); refine hK.out _ _ ⟨q_u ha 0 hb_ rfl rfl rfl, Q_B0, Q_Z6⟩; refine steps_cons ?_ ?_; rintro b a w' ⟨ha, Q_B0, Q_Z6⟩ hb_ hon hoff; refine ⟨_, rfl, fun K hK => ?_⟩; have e49 := q_n ha hon 49 0 0 rfl; replace ha := aK ha; have B0 := aK Q_B0; have Z6 := aK Q_Z6; have c_ := blk_cell Z6.out 1; refine q_v (.int .i64 x.f1) (by rfl) rfl ?_ ?_; (· (go_simp; (try simp only [i64_w]); try rfl)); refine hK.out _ _ ⟨q_u ha 1 hb_ rfl rfl rfl, Q_B0, Q_Z6⟩; refine steps_cons ?_ ?_; rintro b a w' ⟨ha, Q_B0, Q_Z6⟩ hb_ hon hoff; refine ⟨_, rfl, fun K hK => ?_⟩; have e6 := q_f ha 6 rfl rfl; replace ha := aK ha; have B0 := aK Q_B0; have Z6 := aK Q_Z6; refine q_v (.pointer (some ⟨h6, 2, none⟩)) (by rfl) rfl ?_ ?_; (· (go_simp; (try simp only [i64_w]); try rfl)); refine hK.out _ _ ⟨q_u ha 2 hb_ rfl rfl rfl, Q_B0, Q_Z6⟩; refine steps_cons ?_ ?_; rintro b a w' ⟨ha, Q_B0, Q_Z6⟩ hb_ hon hoff; refine ⟨_, rfl, fun K hK => ?_⟩; have e51 := q_n ha hon 51 2 2 rfl; replace ha := aK ha; have B0 := aK Q_B0; have Z6 := aK Q_Z6; have c_ := blk_cell Z6.out 2; refine q_v (.slice A2 x.f2.length c2) (by rfl) rfl ?_ ?_; (· (go_simp; (try simp only [i64_w]); try rfl)); refine hK.out _ _ ⟨q_u ha 3 hb_ rfl rfl rfl, Q_B0, Q_Z6⟩; refine steps_cons ?_ ?_; rintro b a w' ⟨ha, Q_B0, Q_Z6⟩ hb_ hon hoff; refine ⟨_, rfl, fun K hK => ?_⟩; have e50 := q_n ha hon 50 1 1 rfl; replace ha := aK ha; have B0 := aK Q_B0; have Z6 := aK Q_Z6; refine q_v (.int .i64 x.f1) (by rfl) rfl ?_ ?_; (· (go_simp; (try simp only [i64_w]); try rfl)); refine hK.out _ _ ⟨q_u ha 4 hb_ rfl rfl rfl, Q_B0, Q_Z6⟩; refine steps_cons ?_ ?_; rintro b a w' ⟨ha, Q_B0, Q_Z6⟩ hb_ hon hoff; refine ⟨_, rfl, fun K hK => ?_⟩; have e52 := q_n ha hon 52 3 3 rfl; replace ha := aK ha; have B0 := aK Q_B0; have Z6 := aK Q_Z6; refine q_v (.slice A2 x.f2.length c2) (by rfl) rfl ?_ ?_; (· (go_simp; (try simp only [i64_w]); try rfl)); refine hK.out _ _ ⟨q_u ha 5 hb_ rfl rfl rfl, Q_B0, Q_Z6⟩; exact steps_nil
      rintro b a wl hall ⟨ha, Q_B0, Q_Z6⟩; clear B0 Z6; subst ha; rw [q_a hall]; rotate_left
      ·
       kernel_rfl
      simp only [List.foldl_cons, List.foldl_nil, Act.put, List.setIfInBounds_toArray, List.set_cons_zero, List.set_cons_succ]; have B0 := aK Q_B0; clear Q_B0; have Z6 := aK Q_Z6; clear Q_Z6; clear hall; go_wp2_with fail; go_ret2; have hT := (T1.out.below HB6.out).below B0.out; have hf := fault_at HI2.out HI.out.2.2 (HX.out.1 ▸ HO.out); rw [← HX.out.1] at hf; rw [hf]; exact ⟨A2, c2, rfl, HX.out.2.1, Kd.F_mono (Kd.F_below HG6.out B0.out) (fun k hk => .inl hk), (H1.out.below HB6.out).below B0.out, hT⟩
     | false =>
      have HO : Aside0 (onF x D.ops = false) := ⟨by unfold onF; rw [e1, e2, e3]; rfl⟩; go_wp2_with fail; go_roundg (D.faults.length - i)
      case measure => have := HI.out.2.1; have := HI2.out; omega
      case rel => exact ⟨i + 1, by first | rfl | simp, ⟨HI2.out, by have := HI.out.2.1; have := HI2.out; omega, take_on HI2.out HI.out.2.2 (HX.out.1 ▸ HO.out)⟩, HB6⟩
end Go.Proofs.Ytnchdmidaigheaa.ND
namespace Go.Proofs.Ytnchdmidaigheaa.Hp
open Go.RowKit Go.Proofs.YtnchdmidaigheaaW.PrintWords Go.Proofs.YtnchdmidaigheaaW.PrintLast Go.Proofs.YtnchdmidaigheaaW.PrintMore
attribute [local go_sem] max2_int min2_int max_two min_two max_three min_three max_four min_four   -- for this text's walks alone
set_option linter.unusedVariables false
set_option linter.unusedSimpArgs false
def wagtailref14_Part.l0 : Nat → List Int → List Int → List Int → List Int → Int → Option (List Int)
 | 0, _, _, _, _, _ => none
 | k + 1, x0, x1, x2, x7, x8 => if x8 < (x0.length : Int) then (if (x2.length : Int) > 0 then (if (x2.length : Int) = 0 then (none) else (if 0 ≤ (Int.tmod x8 (x2.length : Int)) then (if (Int.tmod x8 (x2.length : Int)) < (x2.length : Int) then (if 0 ≤ x8 then (if x8 < (x1.length : Int) then (if x7.length < 140737488355328 then (wagtailref14_Part.l0 k x0 x1 x2 (x7 ++ [((rd x0 x8) - (Go.bits .and .u8 (Go.bits .and .u8 (rd x0 x8) (rd x2 (Int.tmod x8 (x2.length : Int)))) ((255 - (rd x1 x8)) % 256))) % 256]) (wrap64 (x8 + 1))) else (none)) else (none)) else (none)) else (none)) else (none))) else (if 0 ≤ x8 then (if x8 < (x1.length : Int) then (if x7.length < 140737488355328 then (wagtailref14_Part.l0 k x0 x1 x2 (x7 ++ [((rd x0 x8) - (Go.bits .and .u8 (Go.bits .and .u8 (rd x0 x8) 0) ((255 - (rd x1 x8)) % 256))) % 256]) (wrap64 (x8 + 1))) else (none)) else (none)) else (none))) else (some x7)
def wagtailref14_Part.f (k : Nat) (l0 : List Int) (l1 : List Int) (l2 : List Int) : Option (List Int) := wagtailref14_Part.l0 k l0 l1 l2 ([] : List Int) 0
theorem wagtailref14_Part.mono_l : ∀ k, (∀ y0 y1 y2 y3 y4, LeO (wagtailref14_Part.l0 k y0 y1 y2 y3 y4) (wagtailref14_Part.l0 (k + 1) y0 y1 y2 y3 y4))
 | 0 => fun _ _ _ _ _ r h => by simp [wagtailref14_Part.l0] at h
 | k + 1 => by
  have ih0 := wagtailref14_Part.mono_l k
  ·
   intro y0 y1 y2 y3 y4; unfold wagtailref14_Part.l0
   repeat' first
   | (with_reducible exact ih0 _ _ _ _ _)
   | (with_reducible exact LeO.refl _)
   | (with_reducible exact LeO.none _)
   | (with_reducible refine LeO.ite ?_ ?_)
   | (with_reducible refine LeO.bind ?_ (fun _ => ?_))
   | exact ih0 _ _ _ _ _
   | exact LeO.none _
   | refine LeO.ite ?_ ?_
   | refine LeO.bind ?_ (fun _ => ?_)
theorem wagtailref14_Part.mono : ∀ a0 a1 a2 k, LeO (wagtailref14_Part.f k a0 a1 a2) (wagtailref14_Part.f (k + 1) a0 a1 a2) := by
 intro a0 a1 a2 k; have ih0 := wagtailref14_Part.mono_l k; unfold wagtailref14_Part.f
 repeat' first
   | (with_reducible exact ih0 _ _ _ _ _)
   | (with_reducible exact LeO.refl _)
   | (with_reducible exact LeO.none _)
   | (with_reducible refine LeO.ite ?_ ?_)
   | (with_reducible refine LeO.bind ?_ (fun _ => ?_))
   | exact ih0 _ _ _ _ _
   | exact LeO.none _
   | refine LeO.ite ?_ ?_
   | refine LeO.bind ?_ (fun _ => ?_)
def wagtailref14_Part.T8 : Bool × List (List Nat × List Nat) := (true, [([], []), ([], []), ([], []), ([1, 2], [1, 2]), ([3], [3]), ([], []), ([], []), ([5, 6], [5, 6]), ([7], [7]), ([], []), ([8, 9], [8, 9]), ([], []), ([], []), ([11, 12], [11, 12]), ([13], [13]), ([14], [14]), ([10, 15], [10, 15]), ([4, 16], [4, 16]), ([17], [17]), ([0, 18], [0, 18]), ([19, 19, 0, 1, 2, 3, 4, 5, 6, 7, 8, 9, 10, 11, 12, 13, 14, 15, 16, 17, 18, 19], [0, 19])])
def wagtailref14_Part.B8 : List Nat := [0, 0, 0, 6, 14, 0, 0, 96, 224, 0, 992, 0, 0, 6144, 14336, 30720, 65504, 131070, 262142, 524287, 1048575]
theorem wagtailref14_Part.tab8 : rtab .any (opsOf Try.f76 8) = wagtailref14_Part.T8 := by kernel_rfl
theorem wagtailref14_Part.bits8 : waitsOk wagtailref14_Part.T8.2 wagtailref14_Part.B8 = true := by kernel_rfl
set_option maxHeartbeats 8000000 in
set_option maxRecDepth 100000 in
theorem wagtailref14_Part.calls (k : Nat) (A0 : Option Addr) (c0 : Nat) (l0 : List Int) (A1 : Option Addr) (c1 : Nat) (l1 : List Int) (A2 : Option Addr) (c2 : Nat) (l2 : List Int) (r : List Int) (w : World) (hr0 : Kd.C (Kd.int .u8) w A0 l0.length l0) (hc0 : l0.length ≤ c0) (hr1 : Kd.C (Kd.int .u8) w A1 l1.length l1) (hc1 : l1.length ≤ c1) (hr2 : Kd.C (Kd.int .u8) w A2 l2.length l2) (hc2 : l2.length ≤ c2) (h : wagtailref14_Part.f k l0 l1 l2 = some r) :
  Calls Try.prog 76 #[.slice A0 l0.length c0, .slice A1 l1.length c1, .slice A2 l2.length c2] w fun e w' => ∃ v0_ : Value, e = .returned (v0_) ∧ Kd.R (Kd.int .u8) 5 w' w.heap.size (fun _ => True) v0_ r ∧ Below w.heap.size w w' := by
 have HR0 := aK hr0; have HC0 := aK hc0; clear hr0 hc0; have HR1 := aK hr1; have HC1 := aK hc1; clear hr1 hc1; have HR2 := aK hr2; have HC2 := aK hc2; clear hr2 hc2; have HB := aK (Below.refl w.heap.size w); have H : (wagtailref14_Part.l0 k l0 l1 l2 ([] : List Int) 0) = some r := h; clear h; have H' := aK H; clear H; go_enter Try.func76, Try.ntmps76
 go_wp2
 go_loopg [7, 8] k (fun kq v7 v8 w' => ∃ (x7_1 : List Int) (x8_1 : Int), v8 = .int .i64 x8_1 ∧ Aside0 (wagtailref14_Part.l0 kq l0 l1 l2 x7_1 x8_1 = some r) ∧ Aside0 (kq ≤ k) ∧ Aside0 (Kd.R (Kd.int .u8) 5 w' w.heap.size (fun _ => True) v7 x7_1) ∧ Aside0 (Below w.heap.size w w'))
 case atStart => exact ⟨(([] : List Int)), (0), (by first | rfl | (simp; done) | (simp [*]; done)), H', ⟨Nat.le_refl _⟩, ⟨by first | exact Kd.R_nil _ _ _ _ _ | exact Kd.N_nil _ _ _ _ _ | exact Kd.V_nil _ _ _ _ _ | exact Kd.Q_nil _ _ _ _ _ | exact Kd.S_nil _ _ _ _ _⟩, ⟨by repeat (first | (with_reducible first | exact HB.out | apply below_alloc | apply pw_below_drewN | apply below_drew1) | exact HB.out)⟩⟩
 case round =>
  clear H'
  try clear c1
  try clear c2
  try clear p2
  obtain ⟨x7_1, x8_1, rfl, HA, HK1, HO_7, HB⟩ := hrel
  cases gk with
  | zero => exact absurd HA.out (by simp [wagtailref14_Part.l0])
  | succ k1 =>
   have H := HA.out; clear HA; simp only [wagtailref14_Part.l0] at H; by_cases c4 : x8_1 < (l0.length : Int)
   ·
    rw [if_pos c4] at H; have c4b0 : decide (x8_1 < (l0.length : Int)) = true := decide_eq_true c4; clear c4; by_cases c5 : (l2.length : Int) > 0
    ·
     rw [if_pos c5] at H; have c5b0 : decide (0 < (l2.length : Int)) = true := decide_eq_true c5; have c5b1 : decide (0 < l2.length) = true := decide_eq_true (by omega); clear c5; by_cases c6 : (l2.length : Int) = 0
     ·
      rw [if_pos c6] at H; exact absurd H (by simp)
     ·
      rw [if_neg c6] at H; have c6b0 : ((l2.length : Int) == 0) = false := beq_eq_false_iff_ne.mpr c6; have c6b1 : ((l2.length : Int) != 0) = true := bne_iff_ne.mpr c6; have c6b2 : ¬ (l2 = []) := fun h_ => c6 (by rw [h_]; rfl); obtain ⟨ji7, hji7⟩ : ∃ j_ : Int, (Int.tmod x8_1 (l2.length : Int)) = j_ := ⟨_, rfl⟩; replace H : (if 0 ≤ (ji7) then (if (ji7) < (l2.length : Int) then (if 0 ≤ x8_1 then (if x8_1 < (l1.length : Int) then (if x7_1.length < 140737488355328 then (wagtailref14_Part.l0 k1 l0 l1 l2 (x7_1 ++ [((rd l0 x8_1) - (Go.bits .and .u8 (Go.bits .and .u8 (rd l0 x8_1) (rd l2 (ji7))) ((255 - (rd l1 x8_1)) % 256))) % 256]) (wrap64 (x8_1 + 1))) else (none)) else (none)) else (none)) else (none)) else (none)) = some r := by first | (rw [hji7] at H; exact H) | (simp only [hji7] at H ⊢; exact H)
      by_cases c8 : 0 ≤ (ji7)
      ·
       rw [if_pos c8] at H; have c8b0 : decide (0 ≤ (ji7)) = true := decide_eq_true c8; clear c8; by_cases c9 : (ji7) < (l2.length : Int)
       ·
        rw [if_pos c9] at H; have c9b0 : decide ((ji7) < (l2.length : Int)) = true := decide_eq_true c9; clear c9; by_cases c10 : 0 ≤ x8_1
        ·
         rw [if_pos c10] at H; have c10b0 : decide (0 ≤ x8_1) = true := decide_eq_true c10; clear c10; by_cases c11 : x8_1 < (l1.length : Int)
         ·
          rw [if_pos c11] at H; have c11b0 : decide (x8_1 < (l1.length : Int)) = true := decide_eq_true c11; clear c11; by_cases c12 : x7_1.length < 140737488355328
          ·
           rw [if_pos c12] at H; have LMc12 := aK c12; clear c12; obtain ⟨y162, hy162⟩ : ∃ y_ : List Int, y_ = (x7_1 ++ [((rd l0 x8_1) - (Go.bits .and .u8 (Go.bits .and .u8 (rd l0 x8_1) (rd l2 (ji7))) ((255 - (rd l1 x8_1)) % 256))) % 256]) := ⟨_, rfl⟩; replace H : (wagtailref14_Part.l0 k1 l0 l1 l2 y162 (wrap64 (x8_1 + 1))) = some r := by first | (rw [hy162]; with_reducible exact H) | (have H2_ := (Option.bind_some _ _).symm.trans H; rw [hy162]; with_reducible exact H2_) | (have H2_ := (Option.bind_some _ _).symm.trans H; with_reducible exact H2_) | with_reducible exact H | (rw [hy162]; exact H) | exact H
           have Ny162 := aK hy162; clear hy162; have H' := aK H; clear H; have p158 : 0 ≤ ((ji7) : Int) := of_decide_eq_true (by first | (with_reducible assumption) | assumption); have q158 : (ji7) < (l2.length : Int) := of_decide_eq_true (by first | (with_reducible assumption) | assumption); obtain ⟨ad158, e158, hx158_0⟩ := Kd.at_int HR2.out (ji7) p158 q158
           cases e158
           replace hx158_0 := (HB.out.cell (World.block_lt_of_cell? w _ hx158_0)).trans hx158_0; replace p158 := eq_true p158; replace q158 := eq_true q158
           try go_wp2
           have n0_ := aK (Kd.R_drew HO_7.out); have n1_ := aK (below_drew1 HB.out); clear HO_7; clear HB; have HO_7 := n0_; have HB := n1_; clear n0_ n1_; have p159 : 0 ≤ (x8_1 : Int) := of_decide_eq_true (by first | (with_reducible assumption) | assumption); have q159 : x8_1 < (l0.length : Int) := of_decide_eq_true (by first | (with_reducible assumption) | assumption); obtain ⟨ad159, e159, hx159_0⟩ := Kd.at_int HR0.out x8_1 p159 q159; have hw159_0 := hx159_0
           cases e159
           replace hx159_0 := (HB.out.cell (World.block_lt_of_cell? w _ hx159_0)).trans hx159_0; replace p159 := eq_true p159; replace q159 := eq_true q159; have p160 : 0 ≤ (x8_1 : Int) := of_decide_eq_true (by first | (with_reducible assumption) | assumption); have q160 : x8_1 < (l0.length : Int) := of_decide_eq_true (by first | (with_reducible assumption) | assumption); obtain ⟨ad160, e160, hx160_0⟩ := Kd.at_int HR0.out x8_1 p160 q160; have hw160_0 := hx160_0; obtain rfl : ad159 = ad160 := (by injection e160); replace hx160_0 := (HB.out.cell (World.block_lt_of_cell? w _ hx160_0)).trans hx160_0; replace p160 := eq_true p160; replace q160 := eq_true q160; have p161 : 0 ≤ (x8_1 : Int) := of_decide_eq_true (by first | (with_reducible assumption) | assumption); have q161 : x8_1 < (l1.length : Int) := of_decide_eq_true (by first | (with_reducible assumption) | assumption); obtain ⟨ad161, e161, hx161_0⟩ := Kd.at_int HR1.out x8_1 p161 q161; have hw161_0 := hx161_0
           cases e161
           replace hx161_0 := (HB.out.cell (World.block_lt_of_cell? w _ hx161_0)).trans hx161_0; replace p161 := eq_true p161; replace q161 := eq_true q161; refine start_ (n := 21) (S := fun w' => w'.cell? (ad159.add (x8_1).toNat) = some (.int .u8 (rd l0 x8_1)) ∧ w'.cell? (ad159.add (x8_1).toNat) = some (.int .u8 (rd l0 x8_1)) ∧ w'.cell? (ad161.add (x8_1).toNat) = some (.int .u8 (rd l1 x8_1))) (ds := []) #[false, false, false, false, false, false, false, false, false, false, false, false, false, false, false, false, false, false, false, false, false] (by kernel_rfl) rfl rfl ⟨((HB.out.cell (World.block_lt_of_cell? w _ hw159_0)).trans hw159_0), ((HB.out.cell (World.block_lt_of_cell? w _ hw160_0)).trans hw160_0), ((HB.out.cell (World.block_lt_of_cell? w _ hw161_0)).trans hw161_0)⟩ (fun hHeld => ?_); refine with_tabW wagtailref14_Part.tab8 wagtailref14_Part.bits8 (fun HT_ HW_ => ?_); generalize wr.drew = w13 at HO_7 HB hx159_0 hx160_0 hx161_0 hHeld ⊢; refine pure_ (i := 0) (N := some 26) (v := ?_) (a' := ?_) #[true, false, false, false, false, false, false, false, false, false, false, false, false, false, false, false, false, false, false, false, false] rfl rfl (any_of HT_.out (by kernel_rfl)) (fun _ _ _ h => h) (Or.inl ⟨by rfl, ?_⟩) ?_ ?_; rotate_left
           ·
            intro w'
            go_simp
            with_reducible rfl
           rotate_left
           ·
            simp only [Act.put, List.setIfInBounds_toArray, List.set_cons_zero, List.set_cons_succ, i64_w, i32_w]; rfl
           refine pure_ (i := 1) (N := some 27) (v := ?_) (a' := ?_) #[true, true, false, false, false, false, false, false, false, false, false, false, false, false, false, false, false, false, false, false, false] rfl rfl (any_of HT_.out (by kernel_rfl)) (fun _ _ _ h => h) (Or.inl ⟨by rfl, ?_⟩) ?_ ?_; rotate_left
           ·
            intro w'
            go_simp
            with_reducible rfl
           rotate_left
           ·
            simp only [Act.put, List.setIfInBounds_toArray, List.set_cons_zero, List.set_cons_succ, i64_w, i32_w]; rfl
           refine pure_ (i := 2) (N := some 28) (v := ?_) (a' := ?_) #[true, true, true, false, false, false, false, false, false, false, false, false, false, false, false, false, false, false, false, false, false] rfl rfl (any_of HT_.out (by kernel_rfl)) (fun _ _ _ h => h) (Or.inl ⟨by rfl, ?_⟩) ?_ ?_; rotate_left
           ·
            intro w'
            go_simp
            with_reducible rfl
           rotate_left
           ·
            simp only [Act.put, List.setIfInBounds_toArray, List.set_cons_zero, List.set_cons_succ, i64_w, i32_w]; rfl
           refine pure_ (i := 3) (N := some 29) (v := ?_) (a' := ?_) #[true, true, true, true, false, false, false, false, false, false, false, false, false, false, false, false, false, false, false, false, false] rfl rfl (any_of HT_.out (by kernel_rfl)) (fun _ _ _ h => h) (Or.inl ⟨by rfl, ?_⟩) ?_ ?_; rotate_left
           ·
            intro w'
            go_simp
            with_reducible rfl
           rotate_left
           ·
            simp only [Act.put, List.setIfInBounds_toArray, List.set_cons_zero, List.set_cons_succ, i64_w, i32_w]; rfl
           refine pure_ (i := 5) (N := some 31) (v := ?_) (a' := ?_) #[true, true, true, true, false, true, false, false, false, false, false, false, false, false, false, false, false, false, false, false, false] rfl rfl (any_of HT_.out (by kernel_rfl)) (fun _ _ _ h => h) (Or.inl ⟨by rfl, ?_⟩) ?_ ?_; rotate_left
           ·
            intro w'
            go_simp
            with_reducible rfl
           rotate_left
           ·
            simp only [Act.put, List.setIfInBounds_toArray, List.set_cons_zero, List.set_cons_succ, i64_w, i32_w]; rfl
           refine pure_ (i := 6) (N := some 32) (v := ?_) (a' := ?_) #[true, true, true, true, false, true, true, false, false, false, false, false, false, false, false, false, false, false, false, false, false] rfl rfl (any_of HT_.out (by kernel_rfl)) (fun _ _ _ h => h) (Or.inl ⟨by rfl, ?_⟩) ?_ ?_; rotate_left
           ·
            intro w'
            go_simp
            with_reducible rfl
           rotate_left
           ·
            simp only [Act.put, List.setIfInBounds_toArray, List.set_cons_zero, List.set_cons_succ, i64_w, i32_w]; rfl
           refine pure_ (i := 7) (N := some 33) (v := ?_) (a' := ?_) #[true, true, true, true, false, true, true, true, false, false, false, false, false, false, false, false, false, false, false, false, false] rfl rfl (any_of HT_.out (by kernel_rfl)) (fun _ _ _ h => h) (Or.inl ⟨by rfl, ?_⟩) ?_ ?_; rotate_left
           ·
            intro w'
            go_simp
            with_reducible rfl
           rotate_left
           ·
            simp only [Act.put, List.setIfInBounds_toArray, List.set_cons_zero, List.set_cons_succ, i64_w, i32_w]; rfl
           refine pure_ (i := 9) (N := some 35) (v := ?_) (a' := ?_) #[true, true, true, true, false, true, true, true, false, true, false, false, false, false, false, false, false, false, false, false, false] rfl rfl (any_of HT_.out (by kernel_rfl)) (fun _ _ _ h => h) (Or.inl ⟨by rfl, ?_⟩) ?_ ?_; rotate_left
           ·
            intro w'
            go_simp
            with_reducible rfl
           rotate_left
           ·
            simp only [Act.put, List.setIfInBounds_toArray, List.set_cons_zero, List.set_cons_succ, i64_w, i32_w]; rfl
           refine pure_ (i := 11) (N := some 37) (v := ?_) (a' := ?_) #[true, true, true, true, false, true, true, true, false, true, false, true, false, false, false, false, false, false, false, false, false] rfl rfl (any_of HT_.out (by kernel_rfl)) (fun _ _ _ h => h) (Or.inl ⟨by rfl, ?_⟩) ?_ ?_; rotate_left
           ·
            intro w'
            go_simp
            with_reducible rfl
           rotate_left
           ·
            simp only [Act.put, List.setIfInBounds_toArray, List.set_cons_zero, List.set_cons_succ, i64_w, i32_w]; rfl
           refine pure_ (i := 12) (N := some 38) (v := ?_) (a' := ?_) #[true, true, true, true, false, true, true, true, false, true, false, true, true, false, false, false, false, false, false, false, false] rfl rfl (any_of HT_.out (by kernel_rfl)) (fun _ _ _ h => h) (Or.inl ⟨by rfl, ?_⟩) ?_ ?_; rotate_left
           ·
            intro w'
            go_simp
            with_reducible rfl
           rotate_left
           ·
            simp only [Act.put, List.setIfInBounds_toArray, List.set_cons_zero, List.set_cons_succ, i64_w, i32_w]; rfl
           refine pure_ (i := 13) (N := some 39) (v := ?_) (a' := ?_) #[true, true, true, true, false, true, true, true, false, true, false, true, true, true, false, false, false, false, false, false, false] rfl rfl (any_of HT_.out (by kernel_rfl)) (fun _ _ _ h => h) (Or.inl ⟨by rfl, ?_⟩) ?_ ?_; rotate_left
           ·
            intro w'
            go_simp
            with_reducible rfl
           rotate_left
           ·
            simp only [Act.put, List.setIfInBounds_toArray, List.set_cons_zero, List.set_cons_succ, i64_w, i32_w]; rfl
           refine take_ (i := 4) (N := some 30) (v := ?_) (a' := ?_) #[true, true, true, true, true, true, true, true, false, true, false, true, true, true, false, false, false, false, false, false, false] rfl rfl (take_ofW HT_.out HW_.out (by kernel_rfl)) (fun _ _ _ h => h) (Or.inl ⟨by rfl, ?_⟩) hHeld ?_ ?_; rotate_left
           ·
            rintro w' ⟨s0, s1, s2⟩
            go_simp
            with_reducible rfl
           rotate_left
           ·
            simp only [Act.put, List.setIfInBounds_toArray, List.set_cons_zero, List.set_cons_succ, i64_w, i32_w]; rfl
           refine take_ (i := 8) (N := some 34) (v := ?_) (a' := ?_) #[true, true, true, true, true, true, true, true, true, true, false, true, true, true, false, false, false, false, false, false, false] rfl rfl (take_ofW HT_.out HW_.out (by kernel_rfl)) (fun _ _ _ h => h) (Or.inl ⟨by rfl, ?_⟩) hHeld ?_ ?_; rotate_left
           ·
            rintro w' ⟨s0, s1, s2⟩
            go_simp
            with_reducible rfl
           rotate_left
           ·
            simp only [Act.put, List.setIfInBounds_toArray, List.set_cons_zero, List.set_cons_succ, i64_w, i32_w]; rfl
           refine pure_ (i := 10) (N := some 36) (v := ?_) (a' := ?_) #[true, true, true, true, true, true, true, true, true, true, true, true, true, true, false, false, false, false, false, false, false] rfl rfl (any_of HT_.out (by kernel_rfl)) (fun _ _ _ h => h) (Or.inl ⟨by rfl, ?_⟩) ?_ ?_; rotate_left
           ·
            intro w'
            go_simp
            with_reducible rfl
           rotate_left
           ·
            simp only [Act.put, List.setIfInBounds_toArray, List.set_cons_zero, List.set_cons_succ, i64_w, i32_w]; rfl
           refine take_ (i := 14) (N := some 40) (v := ?_) (a' := ?_) #[true, true, true, true, true, true, true, true, true, true, true, true, true, true, true, false, false, false, false, false, false] rfl rfl (take_ofW HT_.out HW_.out (by kernel_rfl)) (fun _ _ _ h => h) (Or.inl ⟨by rfl, ?_⟩) hHeld ?_ ?_; rotate_left
           ·
            rintro w' ⟨s0, s1, s2⟩
            go_simp
            with_reducible rfl
           rotate_left
           ·
            simp only [Act.put, List.setIfInBounds_toArray, List.set_cons_zero, List.set_cons_succ, i64_w, i32_w]; rfl
           refine pure_ (i := 15) (N := some 41) (v := ?_) (a' := ?_) #[true, true, true, true, true, true, true, true, true, true, true, true, true, true, true, true, false, false, false, false, false] rfl rfl (any_of HT_.out (by kernel_rfl)) (fun _ _ _ h => h) (Or.inl ⟨by rfl, ?_⟩) ?_ ?_; rotate_left
           ·
            intro w'
            go_simp
            with_reducible rfl
           rotate_left
           ·
            simp only [Act.put, List.setIfInBounds_toArray, List.set_cons_zero, List.set_cons_succ, i64_w, i32_w]; rfl
           refine pure_ (i := 16) (N := some 42) (v := ?_) (a' := ?_) #[true, true, true, true, true, true, true, true, true, true, true, true, true, true, true, true, true, false, false, false, false] rfl rfl (any_of HT_.out (by kernel_rfl)) (fun _ _ _ h => h) (Or.inl ⟨by rfl, ?_⟩) ?_ ?_; rotate_left
           ·
            intro w'
            go_simp
            with_reducible rfl
           rotate_left
           ·
            simp only [Act.put, List.setIfInBounds_toArray, List.set_cons_zero, List.set_cons_succ, i64_w, i32_w]; rfl
           refine pure_ (i := 17) (N := some 43) (v := ?_) (a' := ?_) #[true, true, true, true, true, true, true, true, true, true, true, true, true, true, true, true, true, true, false, false, false] rfl rfl (any_of HT_.out (by kernel_rfl)) (fun _ _ _ h => h) (Or.inl ⟨by rfl, ?_⟩) ?_ ?_; rotate_left
           ·
            intro w'
            go_simp
            with_reducible rfl
           rotate_left
           ·
            simp only [Act.put, List.setIfInBounds_toArray, List.set_cons_zero, List.set_cons_succ, i64_w, i32_w]; rfl
           refine one_ (i := 18) (N := some 44) #[true, true, true, true, true, true, true, true, true, true, true, true, true, true, true, true, true, true, true, false, false] rfl rfl (one_of HT_.out (by kernel_rfl)) (by decide) (fun K hK => ?_); refine value_ (w1 := ?_) (v := ?_) (by rfl) rfl ?_ ?_; rotate_left 2
           ·
            go_simp
            constructor
            ·
             rfl
            ·
             rfl
           refine hK.out _ _ ⟨(World.cell?_alloc_lt _ _ _ (World.block_lt_of_cell? _ _ (((HB.out.cell (World.block_lt_of_cell? w _ hw159_0)).trans hw159_0)))).trans (((HB.out.cell (World.block_lt_of_cell? w _ hw159_0)).trans hw159_0)), (World.cell?_alloc_lt _ _ _ (World.block_lt_of_cell? _ _ (((HB.out.cell (World.block_lt_of_cell? w _ hw160_0)).trans hw160_0)))).trans (((HB.out.cell (World.block_lt_of_cell? w _ hw160_0)).trans hw160_0)), (World.cell?_alloc_lt _ _ _ (World.block_lt_of_cell? _ _ (((HB.out.cell (World.block_lt_of_cell? w _ hw161_0)).trans hw161_0)))).trans (((HB.out.cell (World.block_lt_of_cell? w _ hw161_0)).trans hw161_0))⟩ (fun hHeld => ?_); clear hK K; refine norm_ (a' := ?_) ?_ ?_; rotate_left
           ·
            show Act.put _ (some 44) _ = _
            simp only [Act.put, List.setIfInBounds_toArray, List.set_cons_zero, List.set_cons_succ, i64_w, i32_w]; rfl
           refine one_ (i := 19) (N := some 45) #[true, true, true, true, true, true, true, true, true, true, true, true, true, true, true, true, true, true, true, true, false] rfl rfl (one_of HT_.out (by kernel_rfl)) (by decide) (fun K hK => ?_); refine Kd.R_append_step (Kd.int .u8) (w0 := w) w.heap.size (by rfl) (.tmp 26) (.tmp 44) 38 5 (.int .u8 0) 1 rfl Try.underlying38 info5 rfl (by decide) (by omega) u7 x7_1 (((rd l0 x8_1) - (Go.bits .and .u8 (Go.bits .and .u8 (rd l0 x8_1) (rd l2 (ji7))) ((255 - (rd l1 x8_1)) % 256))) % 256) [.int .u8 (((rd l0 x8_1) - (Go.bits .and .u8 (Go.bits .and .u8 (rd l0 x8_1) (rd l2 (ji7))) ((255 - (rd l1 x8_1)) % 256))) % 256)] (fun _ => True) (fun _ => False) rfl rfl ?aP (fun _ hk => hk.elim) ?aF ?aO ?aB ?aS ?aL ?_
           (case aP => exact rfl)
           (case aB => exact (by repeat (first | (with_reducible first | exact HB.out | apply below_alloc | apply pw_below_drewN | apply below_drew1) | exact HB.out)))
           (case aF => exact (fun _ _ => trivial))
           (case aO => exact (by (with_reducible repeat (first | apply Kd.R_alloc | apply Kd.R_drewN | apply Kd.R_drew)); exact HO_7.out))
           (case aS => exact (below_size (by repeat (first | (with_reducible first | exact HB.out | apply below_alloc | apply pw_below_drewN | apply below_drew1) | exact HB.out))))
           (case aL => have := LMc12.out; omega)
           intro v163 w14 ho hb hg hat; rw [← Ny162.out] at ho; have n0_ := aK (hb); have n1_ := aK (ho); clear HB; clear HO_7; have HB := n0_; have HO164 := n1_; clear n0_ n1_; clear ho hb hg hat; refine hK.out _ _ ⟨((HB.out.cell (World.block_lt_of_cell? w _ hw159_0)).trans hw159_0), ((HB.out.cell (World.block_lt_of_cell? w _ hw160_0)).trans hw160_0), ((HB.out.cell (World.block_lt_of_cell? w _ hw161_0)).trans hw161_0)⟩ (fun hHeld => ?_); clear hK K; refine norm_ (a' := ?_) ?_ ?_; rotate_left
           ·
            show Act.put _ (some 45) _ = _
            simp only [Act.put, List.setIfInBounds_toArray, List.set_cons_zero, List.set_cons_succ, i64_w, i32_w]; rfl
           refine pure_ (i := 20) (N := some 7) (v := ?_) (a' := ?_) #[true, true, true, true, true, true, true, true, true, true, true, true, true, true, true, true, true, true, true, true, true] rfl rfl (any_of HT_.out (by kernel_rfl)) (fun _ _ _ h => h) (Or.inl ⟨by rfl, ?_⟩) ?_ ?_; rotate_left
           ·
            intro w'
            go_simp
            with_reducible rfl
           rotate_left
           ·
            simp only [Act.put, List.setIfInBounds_toArray, List.set_cons_zero, List.set_cons_succ, i64_w, i32_w]; rfl
           refine done_ (done_of HT_.out (by kernel_rfl)) ?_
           try go_wp2
           go_roundg k1
           case measure => have := HK1.out; omega
           case rel => exact ⟨(y162), (wrap64 (x8_1 + 1)), (by first | rfl | (simp; done) | (simp [*]; done)), H', ⟨by have := HK1.out; omega⟩, ⟨by (with_reducible repeat (first | apply Kd.R_alloc | apply Kd.R_drewN | apply Kd.R_drew)); exact HO164.out⟩, ⟨by repeat (first | (with_reducible first | exact HB.out | apply below_alloc | apply pw_below_drewN | apply below_drew1) | exact HB.out)⟩⟩
          ·
           rw [if_neg c12] at H; exact absurd H (by simp)
         ·
          rw [if_neg c11] at H; exact absurd H (by simp)
        ·
         rw [if_neg c10] at H; exact absurd H (by simp)
       ·
        rw [if_neg c9] at H; exact absurd H (by simp)
      ·
       rw [if_neg c8] at H; exact absurd H (by simp)
    ·
     rw [if_neg c5] at H; have c5b0 : decide (0 < (l2.length : Int)) = false := decide_eq_false c5; have c5b1 : decide (0 < l2.length) = false := decide_eq_false (by omega); clear c5; by_cases c15 : 0 ≤ x8_1
     ·
      rw [if_pos c15] at H; have c15b0 : decide (0 ≤ x8_1) = true := decide_eq_true c15; clear c15; by_cases c16 : x8_1 < (l1.length : Int)
      ·
       rw [if_pos c16] at H; have c16b0 : decide (x8_1 < (l1.length : Int)) = true := decide_eq_true c16; clear c16; by_cases c17 : x7_1.length < 140737488355328
       ·
        rw [if_pos c17] at H; have LMc17 := aK c17; clear c17; obtain ⟨y168, hy168⟩ : ∃ y_ : List Int, y_ = (x7_1 ++ [((rd l0 x8_1) - (Go.bits .and .u8 (Go.bits .and .u8 (rd l0 x8_1) 0) ((255 - (rd l1 x8_1)) % 256))) % 256]) := ⟨_, rfl⟩; replace H : (wagtailref14_Part.l0 k1 l0 l1 l2 y168 (wrap64 (x8_1 + 1))) = some r := by first | (rw [hy168]; with_reducible exact H) | (have H2_ := (Option.bind_some _ _).symm.trans H; rw [hy168]; with_reducible exact H2_) | (have H2_ := (Option.bind_some _ _).symm.trans H; with_reducible exact H2_) | with_reducible exact H | (rw [hy168]; exact H) | exact H
        have Ny168 := aK hy168; clear hy168; have H' := aK H; clear H
        try go_wp2
        have n0_ := aK (Kd.R_drew HO_7.out); have n1_ := aK (below_drew1 HB.out); clear HO_7; clear HB; have HO_7 := n0_; have HB := n1_; clear n0_ n1_; have p165 : 0 ≤ (x8_1 : Int) := of_decide_eq_true (by first | (with_reducible assumption) | assumption); have q165 : x8_1 < (l0.length : Int) := of_decide_eq_true (by first | (with_reducible assumption) | assumption); obtain ⟨ad165, e165, hx165_0⟩ := Kd.at_int HR0.out x8_1 p165 q165; have hw165_0 := hx165_0
        cases e165
        replace hx165_0 := (HB.out.cell (World.block_lt_of_cell? w _ hx165_0)).trans hx165_0; replace p165 := eq_true p165; replace q165 := eq_true q165; have p166 : 0 ≤ (x8_1 : Int) := of_decide_eq_true (by first | (with_reducible assumption) | assumption); have q166 : x8_1 < (l0.length : Int) := of_decide_eq_true (by first | (with_reducible assumption) | assumption); obtain ⟨ad166, e166, hx166_0⟩ := Kd.at_int HR0.out x8_1 p166 q166; have hw166_0 := hx166_0; obtain rfl : ad165 = ad166 := (by injection e166); replace hx166_0 := (HB.out.cell (World.block_lt_of_cell? w _ hx166_0)).trans hx166_0; replace p166 := eq_true p166; replace q166 := eq_true q166; have p167 : 0 ≤ (x8_1 : Int) := of_decide_eq_true (by first | (with_reducible assumption) | assumption); have q167 : x8_1 < (l1.length : Int) := of_decide_eq_true (by first | (with_reducible assumption) | assumption); obtain ⟨ad167, e167, hx167_0⟩ := Kd.at_int HR1.out x8_1 p167 q167; have hw167_0 := hx167_0
        cases e167
        replace hx167_0 := (HB.out.cell (World.block_lt_of_cell? w _ hx167_0)).trans hx167_0; replace p167 := eq_true p167; replace q167 := eq_true q167; refine start_ (n := 21) (S := fun w' => w'.cell? (ad165.add (x8_1).toNat) = some (.int .u8 (rd l0 x8_1)) ∧ w'.cell? (ad165.add (x8_1).toNat) = some (.int .u8 (rd l0 x8_1)) ∧ w'.cell? (ad167.add (x8_1).toNat) = some (.int .u8 (rd l1 x8_1))) (ds := []) #[false, false, false, false, false, false, false, false, false, false, false, false, false, false, false, false, false, false, false, false, false] (by kernel_rfl) rfl rfl ⟨((HB.out.cell (World.block_lt_of_cell? w _ hw165_0)).trans hw165_0), ((HB.out.cell (World.block_lt_of_cell? w _ hw166_0)).trans hw166_0), ((HB.out.cell (World.block_lt_of_cell? w _ hw167_0)).trans hw167_0)⟩ (fun hHeld => ?_); refine with_tabW wagtailref14_Part.tab8 wagtailref14_Part.bits8 (fun HT_ HW_ => ?_); generalize wr.drew = w18 at HO_7 HB hx165_0 hx166_0 hx167_0 hHeld ⊢; refine pure_ (i := 0) (N := some 26) (v := ?_) (a' := ?_) #[true, false, false, false, false, false, false, false, false, false, false, false, false, false, false, false, false, false, false, false, false] rfl rfl (any_of HT_.out (by kernel_rfl)) (fun _ _ _ h => h) (Or.inl ⟨by rfl, ?_⟩) ?_ ?_; rotate_left
        ·
         intro w'
         go_simp
         with_reducible rfl
        rotate_left
        ·
         simp only [Act.put, List.setIfInBounds_toArray, List.set_cons_zero, List.set_cons_succ, i64_w, i32_w]; rfl
        refine pure_ (i := 1) (N := some 27) (v := ?_) (a' := ?_) #[true, true, false, false, false, false, false, false, false, false, false, false, false, false, false, false, false, false, false, false, false] rfl rfl (any_of HT_.out (by kernel_rfl)) (fun _ _ _ h => h) (Or.inl ⟨by rfl, ?_⟩) ?_ ?_; rotate_left
        ·
         intro w'
         go_simp
         with_reducible rfl
        rotate_left
        ·
         simp only [Act.put, List.setIfInBounds_toArray, List.set_cons_zero, List.set_cons_succ, i64_w, i32_w]; rfl
        refine pure_ (i := 2) (N := some 28) (v := ?_) (a' := ?_) #[true, true, true, false, false, false, false, false, false, false, false, false, false, false, false, false, false, false, false, false, false] rfl rfl (any_of HT_.out (by kernel_rfl)) (fun _ _ _ h => h) (Or.inl ⟨by rfl, ?_⟩) ?_ ?_; rotate_left
        ·
         intro w'
         go_simp
         with_reducible rfl
        rotate_left
        ·
         simp only [Act.put, List.setIfInBounds_toArray, List.set_cons_zero, List.set_cons_succ, i64_w, i32_w]; rfl
        refine pure_ (i := 3) (N := some 29) (v := ?_) (a' := ?_) #[true, true, true, true, false, false, false, false, false, false, false, false, false, false, false, false, false, false, false, false, false] rfl rfl (any_of HT_.out (by kernel_rfl)) (fun _ _ _ h => h) (Or.inl ⟨by rfl, ?_⟩) ?_ ?_; rotate_left
        ·
         intro w'
         go_simp
         with_reducible rfl
        rotate_left
        ·
         simp only [Act.put, List.setIfInBounds_toArray, List.set_cons_zero, List.set_cons_succ, i64_w, i32_w]; rfl
        refine pure_ (i := 5) (N := some 31) (v := ?_) (a' := ?_) #[true, true, true, true, false, true, false, false, false, false, false, false, false, false, false, false, false, false, false, false, false] rfl rfl (any_of HT_.out (by kernel_rfl)) (fun _ _ _ h => h) (Or.inl ⟨by rfl, ?_⟩) ?_ ?_; rotate_left
        ·
         intro w'
         go_simp
         with_reducible rfl
        rotate_left
        ·
         simp only [Act.put, List.setIfInBounds_toArray, List.set_cons_zero, List.set_cons_succ, i64_w, i32_w]; rfl
        refine pure_ (i := 6) (N := some 32) (v := ?_) (a' := ?_) #[true, true, true, true, false, true, true, false, false, false, false, false, false, false, false, false, false, false, false, false, false] rfl rfl (any_of HT_.out (by kernel_rfl)) (fun _ _ _ h => h) (Or.inl ⟨by rfl, ?_⟩) ?_ ?_; rotate_left
        ·
         intro w'
         go_simp
         with_reducible rfl
        rotate_left
        ·
         simp only [Act.put, List.setIfInBounds_toArray, List.set_cons_zero, List.set_cons_succ, i64_w, i32_w]; rfl
        refine pure_ (i := 7) (N := some 33) (v := ?_) (a' := ?_) #[true, true, true, true, false, true, true, true, false, false, false, false, false, false, false, false, false, false, false, false, false] rfl rfl (any_of HT_.out (by kernel_rfl)) (fun _ _ _ h => h) (Or.inl ⟨by rfl, ?_⟩) ?_ ?_; rotate_left
        ·
         intro w'
         go_simp
         with_reducible rfl
        rotate_left
        ·
         simp only [Act.put, List.setIfInBounds_toArray, List.set_cons_zero, List.set_cons_succ, i64_w, i32_w]; rfl
        refine pure_ (i := 9) (N := some 35) (v := ?_) (a' := ?_) #[true, true, true, true, false, true, true, true, false, true, false, false, false, false, false, false, false, false, false, false, false] rfl rfl (any_of HT_.out (by kernel_rfl)) (fun _ _ _ h => h) (Or.inl ⟨by rfl, ?_⟩) ?_ ?_; rotate_left
        ·
         intro w'
         go_simp
         with_reducible rfl
        rotate_left
        ·
         simp only [Act.put, List.setIfInBounds_toArray, List.set_cons_zero, List.set_cons_succ, i64_w, i32_w]; rfl
        refine pure_ (i := 11) (N := some 37) (v := ?_) (a' := ?_) #[true, true, true, true, false, true, true, true, false, true, false, true, false, false, false, false, false, false, false, false, false] rfl rfl (any_of HT_.out (by kernel_rfl)) (fun _ _ _ h => h) (Or.inl ⟨by rfl, ?_⟩) ?_ ?_; rotate_left
        ·
         intro w'
         go_simp
         with_reducible rfl
        rotate_left
        ·
         simp only [Act.put, List.setIfInBounds_toArray, List.set_cons_zero, List.set_cons_succ, i64_w, i32_w]; rfl
        refine pure_ (i := 12) (N := some 38) (v := ?_) (a' := ?_) #[true, true, true, true, false, true, true, true, false, true, false, true, true, false, false, false, false, false, false, false, false] rfl rfl (any_of HT_.out (by kernel_rfl)) (fun _ _ _ h => h) (Or.inl ⟨by rfl, ?_⟩) ?_ ?_; rotate_left
        ·
         intro w'
         go_simp
         with_reducible rfl
        rotate_left
        ·
         simp only [Act.put, List.setIfInBounds_toArray, List.set_cons_zero, List.set_cons_succ, i64_w, i32_w]; rfl
        refine pure_ (i := 13) (N := some 39) (v := ?_) (a' := ?_) #[true, true, true, true, false, true, true, true, false, true, false, true, true, true, false, false, false, false, false, false, false] rfl rfl (any_of HT_.out (by kernel_rfl)) (fun _ _ _ h => h) (Or.inl ⟨by rfl, ?_⟩) ?_ ?_; rotate_left
        ·
         intro w'
         go_simp
         with_reducible rfl
        rotate_left
        ·
         simp only [Act.put, List.setIfInBounds_toArray, List.set_cons_zero, List.set_cons_succ, i64_w, i32_w]; rfl
        refine take_ (i := 4) (N := some 30) (v := ?_) (a' := ?_) #[true, true, true, true, true, true, true, true, false, true, false, true, true, true, false, false, false, false, false, false, false] rfl rfl (take_ofW HT_.out HW_.out (by kernel_rfl)) (fun _ _ _ h => h) (Or.inl ⟨by rfl, ?_⟩) hHeld ?_ ?_; rotate_left
        ·
         rintro w' ⟨s0, s1, s2⟩
         go_simp
         with_reducible rfl
        rotate_left
        ·
         simp only [Act.put, List.setIfInBounds_toArray, List.set_cons_zero, List.set_cons_succ, i64_w, i32_w]; rfl
        refine take_ (i := 8) (N := some 34) (v := ?_) (a' := ?_) #[true, true, true, true, true, true, true, true, true, true, false, true, true, true, false, false, false, false, false, false, false] rfl rfl (take_ofW HT_.out HW_.out (by kernel_rfl)) (fun _ _ _ h => h) (Or.inl ⟨by rfl, ?_⟩) hHeld ?_ ?_; rotate_left
        ·
         rintro w' ⟨s0, s1, s2⟩
         go_simp
         with_reducible rfl
        rotate_left
        ·
         simp only [Act.put, List.setIfInBounds_toArray, List.set_cons_zero, List.set_cons_succ, i64_w, i32_w]; rfl
        refine pure_ (i := 10) (N := some 36) (v := ?_) (a' := ?_) #[true, true, true, true, true, true, true, true, true, true, true, true, true, true, false, false, false, false, false, false, false] rfl rfl (any_of HT_.out (by kernel_rfl)) (fun _ _ _ h => h) (Or.inl ⟨by rfl, ?_⟩) ?_ ?_; rotate_left
        ·
         intro w'
         go_simp
         with_reducible rfl
        rotate_left
        ·
         simp only [Act.put, List.setIfInBounds_toArray, List.set_cons_zero, List.set_cons_succ, i64_w, i32_w]; rfl
        refine take_ (i := 14) (N := some 40) (v := ?_) (a' := ?_) #[true, true, true, true, true, true, true, true, true, true, true, true, true, true, true, false, false, false, false, false, false] rfl rfl (take_ofW HT_.out HW_.out (by kernel_rfl)) (fun _ _ _ h => h) (Or.inl ⟨by rfl, ?_⟩) hHeld ?_ ?_; rotate_left
        ·
         rintro w' ⟨s0, s1, s2⟩
         go_simp
         with_reducible rfl
        rotate_left
        ·
         simp only [Act.put, List.setIfInBounds_toArray, List.set_cons_zero, List.set_cons_succ, i64_w, i32_w]; rfl
        refine pure_ (i := 15) (N := some 41) (v := ?_) (a' := ?_) #[true, true, true, true, true, true, true, true, true, true, true, true, true, true, true, true, false, false, false, false, false] rfl rfl (any_of HT_.out (by kernel_rfl)) (fun _ _ _ h => h) (Or.inl ⟨by rfl, ?_⟩) ?_ ?_; rotate_left
        ·
         intro w'
         go_simp
         with_reducible rfl
        rotate_left
        ·
         simp only [Act.put, List.setIfInBounds_toArray, List.set_cons_zero, List.set_cons_succ, i64_w, i32_w]; rfl
        refine pure_ (i := 16) (N := some 42) (v := ?_) (a' := ?_) #[true, true, true, true, true, true, true, true, true, true, true, true, true, true, true, true, true, false, false, false, false] rfl rfl (any_of HT_.out (by kernel_rfl)) (fun _ _ _ h => h) (Or.inl ⟨by rfl, ?_⟩) ?_ ?_; rotate_left
        ·
         intro w'
         go_simp
         with_reducible rfl
        rotate_left
        ·
         simp only [Act.put, List.setIfInBounds_toArray, List.set_cons_zero, List.set_cons_succ, i64_w, i32_w]; rfl
        refine pure_ (i := 17) (N := some 43) (v := ?_) (a' := ?_) #[true, true, true, true, true, true, true, true, true, true, true, true, true, true, true, true, true, true, false, false, false] rfl rfl (any_of HT_.out (by kernel_rfl)) (fun _ _ _ h => h) (Or.inl ⟨by rfl, ?_⟩) ?_ ?_; rotate_left
        ·
         intro w'
         go_simp
         with_reducible rfl
        rotate_left
        ·
         simp only [Act.put, List.setIfInBounds_toArray, List.set_cons_zero, List.set_cons_succ, i64_w, i32_w]; rfl
        refine one_ (i := 18) (N := some 44) #[true, true, true, true, true, true, true, true, true, true, true, true, true, true, true, true, true, true, true, false, false] rfl rfl (one_of HT_.out (by kernel_rfl)) (by decide) (fun K hK => ?_); refine value_ (w1 := ?_) (v := ?_) (by rfl) rfl ?_ ?_; rotate_left 2
        ·
         go_simp
         constructor
         ·
          rfl
         ·
          rfl
        refine hK.out _ _ ⟨(World.cell?_alloc_lt _ _ _ (World.block_lt_of_cell? _ _ (((HB.out.cell (World.block_lt_of_cell? w _ hw165_0)).trans hw165_0)))).trans (((HB.out.cell (World.block_lt_of_cell? w _ hw165_0)).trans hw165_0)), (World.cell?_alloc_lt _ _ _ (World.block_lt_of_cell? _ _ (((HB.out.cell (World.block_lt_of_cell? w _ hw166_0)).trans hw166_0)))).trans (((HB.out.cell (World.block_lt_of_cell? w _ hw166_0)).trans hw166_0)), (World.cell?_alloc_lt _ _ _ (World.block_lt_of_cell? _ _ (((HB.out.cell (World.block_lt_of_cell? w _ hw167_0)).trans hw167_0)))).trans (((HB.out.cell (World.block_lt_of_cell? w _ hw167_0)).trans hw167_0))⟩ (fun hHeld => ?_); clear hK K; refine norm_ (a' := ?_) ?_ ?_; rotate_left
        ·
         show Act.put _ (some 44) _ = _
         simp only [Act.put, List.setIfInBounds_toArray, List.set_cons_zero, List.set_cons_succ, i64_w, i32_w]; rfl
        refine one_ (i := 19) (N := some 45) #[true, true, true, true, true, true, true, true, true, true, true, true, true, true, true, true, true, true, true, true, false] rfl rfl (one_of HT_.out (by kernel_rfl)) (by decide) (fun K hK => ?_); refine Kd.R_append_step (Kd.int .u8) (w0 := w) w.heap.size (by rfl) (.tmp 26) (.tmp 44) 38 5 (.int .u8 0) 1 rfl Try.underlying38 info5 rfl (by decide) (by omega) u7 x7_1 (((rd l0 x8_1) - (Go.bits .and .u8 (Go.bits .and .u8 (rd l0 x8_1) 0) ((255 - (rd l1 x8_1)) % 256))) % 256) [.int .u8 (((rd l0 x8_1) - (Go.bits .and .u8 (Go.bits .and .u8 (rd l0 x8_1) 0) ((255 - (rd l1 x8_1)) % 256))) % 256)] (fun _ => True) (fun _ => False) rfl rfl ?aP (fun _ hk => hk.elim) ?aF ?aO ?aB ?aS ?aL ?_
        (case aP => exact rfl)
        (case aB => exact (by repeat (first | (with_reducible first | exact HB.out | apply below_alloc | apply pw_below_drewN | apply below_drew1) | exact HB.out)))
        (case aF => exact (fun _ _ => trivial))
        (case aO => exact (by (with_reducible repeat (first | apply Kd.R_alloc | apply Kd.R_drewN | apply Kd.R_drew)); exact HO_7.out))
        (case aS => exact (below_size (by repeat (first | (with_reducible first | exact HB.out | apply below_alloc | apply pw_below_drewN | apply below_drew1) | exact HB.out))))
        (case aL => have := LMc17.out; omega)
        intro v169 w19 ho hb hg hat; rw [← Ny168.out] at ho; have n0_ := aK (hb); have n1_ := aK (ho); clear HB; clear HO_7; have HB := n0_; have HO170 := n1_; clear n0_ n1_; clear ho hb hg hat; refine hK.out _ _ ⟨((HB.out.cell (World.block_lt_of_cell? w _ hw165_0)).trans hw165_0), ((HB.out.cell (World.block_lt_of_cell? w _ hw166_0)).trans hw166_0), ((HB.out.cell (World.block_lt_of_cell? w _ hw167_0)).trans hw167_0)⟩ (fun hHeld => ?_); clear hK K; refine norm_ (a' := ?_) ?_ ?_; rotate_left
        ·
         show Act.put _ (some 45) _ = _
         simp only [Act.put, List.setIfInBounds_toArray, List.set_cons_zero, List.set_cons_succ, i64_w, i32_w]; rfl
        refine pure_ (i := 20) (N := some 7) (v := ?_) (a' := ?_) #[true, true, true, true, true, true, true, true, true, true, true, true, true, true, true, true, true, true, true, true, true] rfl rfl (any_of HT_.out (by kernel_rfl)) (fun _ _ _ h => h) (Or.inl ⟨by rfl, ?_⟩) ?_ ?_; rotate_left
        ·
         intro w'
         go_simp
         with_reducible rfl
        rotate_left
        ·
         simp only [Act.put, List.setIfInBounds_toArray, List.set_cons_zero, List.set_cons_succ, i64_w, i32_w]; rfl
        refine done_ (done_of HT_.out (by kernel_rfl)) ?_
        try go_wp2
        go_roundg k1
        case measure => have := HK1.out; omega
        case rel => exact ⟨(y168), (wrap64 (x8_1 + 1)), (by first | rfl | (simp; done) | (simp [*]; done)), H', ⟨by have := HK1.out; omega⟩, ⟨by (with_reducible repeat (first | apply Kd.R_alloc | apply Kd.R_drewN | apply Kd.R_drew)); exact HO170.out⟩, ⟨by repeat (first | (with_reducible first | exact HB.out | apply below_alloc | apply pw_below_drewN | apply below_drew1) | exact HB.out)⟩⟩
       ·
        rw [if_neg c17] at H; exact absurd H (by simp)
      ·
       rw [if_neg c16] at H; exact absurd H (by simp)
     ·
      rw [if_neg c15] at H; exact absurd H (by simp)
   ·
    rw [if_neg c4] at H; have c4b0 : decide (x8_1 < (l0.length : Int)) = false := decide_eq_false c4; clear c4; obtain rfl := Option.some.inj H
    go_wp2
    go_ret; exact ⟨_, by first | rfl | (simp [errW_none, errW_some] <;> rfl) | (simp [*, errW_none, errW_some] <;> rfl), by (with_reducible repeat (first | apply Kd.R_alloc | apply Kd.R_drewN | apply Kd.R_drew)); exact HO_7.out, by repeat (first | (with_reducible first | exact HB.out | apply below_alloc | apply pw_below_drewN | apply below_drew1) | exact HB.out)⟩
end Go.Proofs.Ytnchdmidaigheaa.Hp
namespace Go.Proofs.Ytnchdmidaigheaa.Hp
open Go.RowKit Go.Proofs.YtnchdmidaigheaaW.PrintWords Go.Proofs.YtnchdmidaigheaaW.PrintLast Go.Proofs.YtnchdmidaigheaaW.PrintMore
attribute [local go_sem] max2_int min2_int max_two min_two max_three min_three max_four min_four   -- for this text's walks alone
set_option linter.unusedVariables false
set_option linter.unusedSimpArgs false
def IsS54 (w0 W : World) (g : Nat) (f0 : Int) (f1 : Int) (f2 : Int) (f3 : List Int) (f4 : List ByteArray) (f5 : List Int) (f6 : List Int) (f7 : List (S65)) (f8 : Int) (f9 : Bool) : Prop := ∃ A3 c3, ∃ A4 c4, ∃ A5 c5, ∃ A6 c6, ∃ A7 c7, W.heap[g]? = some (.cells #[.int .i64 f0, .int .i64 f1, .int .i64 f2, .slice A3 f3.length c3, .slice A4 f4.length c4, .slice A5 f5.length c5, .slice A6 f6.length c6, .slice A7 f7.length c7, .int .i64 f8, .bool f9] 54 (0, 0)) ∧ w0.heap.size ≤ g ∧ Kd.C (Kd.int .i64) w0 A3 f3.length f3 ∧ Kd.C Kd.string w0 A4 f4.length f4 ∧ Kd.C (Kd.int .i64) w0 A5 f5.length f5 ∧ Kd.C (Kd.int .i64) w0 A6 f6.length f6 ∧ Kd.C k65 w0 A7 f7.length f7
theorem IsS54.grown {w0 W : World} {g : Nat} {f0 : Int} {f1 : Int} {f2 : Int} {f3 : List Int} {f4 : List ByteArray} {f5 : List Int} {f6 : List Int} {f7 : List (S65)} {f8 : Int} {f9 : Bool} {W1 : World} {row : Option Nat} (h : IsS54 w0 W g f0 f1 f2 f3 f4 f5 f6 f7 f8 f9) (hw : W.grownBy W1 row) (hne : some g ≠ row) : IsS54 w0 W1 g f0 f1 f2 f3 f4 f5 f6 f7 f8 f9 := by
 obtain ⟨A3, c3, A4, c4, A5, c5, A6, c6, A7, c7, hb, hg, hr3, hr4, hr5, hr6, hr7⟩ := h; exact ⟨A3, c3, A4, c4, A5, c5, A6, c6, A7, c7, blk_grown hb hw hne, hg, hr3, hr4, hr5, hr6, hr7⟩
theorem IsS54.kept {w0 W : World} {g : Nat} {f0 : Int} {f1 : Int} {f2 : Int} {f3 : List Int} {f4 : List ByteArray} {f5 : List Int} {f6 : List Int} {f7 : List (S65)} {f8 : Int} {f9 : Bool} {W1 : World} {S : Nat → Prop} (h : IsS54 w0 W g f0 f1 f2 f3 f4 f5 f6 f7 f8 f9) (hk : Kept W W1 S) (hne : ¬ S g) : IsS54 w0 W1 g f0 f1 f2 f3 f4 f5 f6 f7 f8 f9 := by
 obtain ⟨A3, c3, A4, c4, A5, c5, A6, c6, A7, c7, hb, hg, hr3, hr4, hr5, hr6, hr7⟩ := h; exact ⟨A3, c3, A4, c4, A5, c5, A6, c6, A7, c7, blk_kept hb hk hne, hg, hr3, hr4, hr5, hr6, hr7⟩
theorem IsS54.below {w0 W : World} {g : Nat} {f0 : Int} {f1 : Int} {f2 : Int} {f3 : List Int} {f4 : List ByteArray} {f5 : List Int} {f6 : List Int} {f7 : List (S65)} {f8 : Int} {f9 : Bool} {W1 : World} (h : IsS54 w0 W g f0 f1 f2 f3 f4 f5 f6 f7 f8 f9) (hw : Below W.heap.size W W1) : IsS54 w0 W1 g f0 f1 f2 f3 f4 f5 f6 f7 f8 f9 := h.grown (grown_of_below hw none) (by simp)
theorem IsS54.alloc {w0 W : World} {g : Nat} {f0 : Int} {f1 : Int} {f2 : Int} {f3 : List Int} {f4 : List ByteArray} {f5 : List Int} {f6 : List Int} {f7 : List (S65)} {f8 : Int} {f9 : Bool} (h : IsS54 w0 W g f0 f1 f2 f3 f4 f5 f6 f7 f8 f9) (o : Obj) : IsS54 w0 (W.alloc o) g f0 f1 f2 f3 f4 f5 f6 f7 f8 f9 := h.below (below_alloc (Below.refl _ _) o)
theorem IsS54.drewN {w0 W : World} {g : Nat} {f0 : Int} {f1 : Int} {f2 : Int} {f3 : List Int} {f4 : List ByteArray} {f5 : List Int} {f6 : List Int} {f7 : List (S65)} {f8 : Int} {f9 : Bool} (h : IsS54 w0 W g f0 f1 f2 f3 f4 f5 f6 f7 f8 f9) (m : Nat) : IsS54 w0 (W.drewN m) g f0 f1 f2 f3 f4 f5 f6 f7 f8 f9 := h
theorem IsS54.drew {w0 W : World} {g : Nat} {f0 : Int} {f1 : Int} {f2 : Int} {f3 : List Int} {f4 : List ByteArray} {f5 : List Int} {f6 : List Int} {f7 : List (S65)} {f8 : Int} {f9 : Bool} (h : IsS54 w0 W g f0 f1 f2 f3 f4 f5 f6 f7 f8 f9) : IsS54 w0 W.drew g f0 f1 f2 f3 f4 f5 f6 f7 f8 f9 := h
theorem IsS54.at_ {w0 W : World} {g : Nat} {f0 : Int} {f1 : Int} {f2 : Int} {f3 : List Int} {f4 : List ByteArray} {f5 : List Int} {f6 : List Int} {f7 : List (S65)} {f8 : Int} {f9 : Bool} {w' : World} {m : Nat} (hq : W.drewN m = w') (h : IsS54 w0 W g f0 f1 f2 f3 f4 f5 f6 f7 f8 f9) : IsS54 w0 w' g f0 f1 f2 f3 f4 f5 f6 f7 f8 f9 := by subst hq; exact IsS54.drewN h m
theorem IsS54.apart {w0 W : World} {g : Nat} {f0 : Int} {f1 : Int} {f2 : Int} {f3 : List Int} {f4 : List ByteArray} {f5 : List Int} {f6 : List Int} {f7 : List (S65)} {f8 : Int} {f9 : Bool} {α : Type} {d : Kd α} {e : Nat} {base : Nat} {ok : Nat → Prop} {v : Value} {xs : List α} (h : IsS54 w0 W g f0 f1 f2 f3 f4 f5 f6 f7 f8 f9) (ho : d.R e W base ok v xs) (ht : ∀ q, q ∈ e :: d.E → q ≠ 54) : d.R e W base (fun k => ok k ∧ k ≠ g) v xs := by
 obtain ⟨A3, c3, A4, c4, A5, c5, A6, c6, A7, c7, hb, hg, hr3, hr4, hr5, hr6, hr7⟩ := h; exact Kd.R_types ho hb ht
theorem IsS54.own_ne {w0 W : World} {g : Nat} {f0 : Int} {f1 : Int} {f2 : Int} {f3 : List Int} {f4 : List ByteArray} {f5 : List Int} {f6 : List Int} {f7 : List (S65)} {f8 : Int} {f9 : Bool} {α : Type} {d : Kd α} {e : Nat} {base : Nat} {ok : Nat → Prop} {v : Value} {xs : List α} (h : IsS54 w0 W g f0 f1 f2 f3 f4 f5 f6 f7 f8 f9) (ho : d.R e W base ok v xs) (ht : e ≠ 54) : some g ≠ v.ownBlock := by
 obtain ⟨A3, c3, A4, c4, A5, c5, A6, c6, A7, c7, hb, hg, hr3, hr4, hr5, hr6, hr7⟩ := h; exact Kd.R_ne ho hb ht
theorem IsS54.lt {w0 W : World} {g : Nat} {f0 : Int} {f1 : Int} {f2 : Int} {f3 : List Int} {f4 : List ByteArray} {f5 : List Int} {f6 : List Int} {f7 : List (S65)} {f8 : Int} {f9 : Bool} (h : IsS54 w0 W g f0 f1 f2 f3 f4 f5 f6 f7 f8 f9) : g < W.heap.size := by
 obtain ⟨A3, c3, A4, c4, A5, c5, A6, c6, A7, c7, hb, hg, hr3, hr4, hr5, hr6, hr7⟩ := h; exact blk_lt hb
theorem IsS54.far {w0 W : World} {g : Nat} {f0 : Int} {f1 : Int} {f2 : Int} {f3 : List Int} {f4 : List ByteArray} {f5 : List Int} {f6 : List Int} {f7 : List (S65)} {f8 : Int} {f9 : Bool} {p : Addr} (h : IsS54 w0 W g f0 f1 f2 f3 f4 f5 f6 f7 f8 f9) (hne : g ≠ p.block) (u : Value) : IsS54 w0 (W.setCell p u) g f0 f1 f2 f3 f4 f5 f6 f7 f8 f9 := by
 obtain ⟨A3, c3, A4, c4, A5, c5, A6, c6, A7, c7, hb, hg, hr3, hr4, hr5, hr6, hr7⟩ := h; exact ⟨A3, c3, A4, c4, A5, c5, A6, c6, A7, c7, blk_far hb hne u, hg, hr3, hr4, hr5, hr6, hr7⟩
end Go.Proofs.Ytnchdmidaigheaa.Hp
namespace Go.Proofs.Ytnchdmidaigheaa.Hp
open Go.RowKit Go.Proofs.YtnchdmidaigheaaW.PrintWords Go.Proofs.YtnchdmidaigheaaW.PrintLast Go.Proofs.YtnchdmidaigheaaW.PrintMore
attribute [local go_sem] max2_int min2_int max_two min_two max_three min_three max_four min_four   -- for this text's walks alone
set_option linter.unusedVariables false
set_option linter.unusedSimpArgs false
def wagtailref14_Wipe.l0 : Nat → List Int → List Int → List Int → Int → Option (List Int)
 | 0, _, _, _, _ => none
 | k + 1, x0, x1, x5, x6 => if x6 < (x0.length : Int) then (if (x1.length : Int) > 0 then (if (x1.length : Int) = 0 then (none) else (if 0 ≤ (Int.tmod x6 (x1.length : Int)) then (if (Int.tmod x6 (x1.length : Int)) < (x1.length : Int) then (if 0 ≤ x6 then (if x5.length < 140737488355328 then (wagtailref14_Wipe.l0 k x0 x1 (x5 ++ [Go.bits .or .u8 (rd x0 x6) (rd x1 (Int.tmod x6 (x1.length : Int)))]) (wrap64 (x6 + 1))) else (none)) else (none)) else (none)) else (none))) else (if 0 ≤ x6 then (if x5.length < 140737488355328 then (wagtailref14_Wipe.l0 k x0 x1 (x5 ++ [Go.bits .or .u8 (rd x0 x6) 0]) (wrap64 (x6 + 1))) else (none)) else (none))) else (some x5)
def wagtailref14_Wipe.f (k : Nat) (l0 : List Int) (l1 : List Int) : Option (List Int) := wagtailref14_Wipe.l0 k l0 l1 ([] : List Int) 0
theorem wagtailref14_Wipe.mono_l : ∀ k, (∀ y0 y1 y2 y3, LeO (wagtailref14_Wipe.l0 k y0 y1 y2 y3) (wagtailref14_Wipe.l0 (k + 1) y0 y1 y2 y3))
 | 0 => fun _ _ _ _ r h => by simp [wagtailref14_Wipe.l0] at h
 | k + 1 => by
  have ih0 := wagtailref14_Wipe.mono_l k
  ·
   intro y0 y1 y2 y3; unfold wagtailref14_Wipe.l0
   repeat' first
   | (with_reducible exact ih0 _ _ _ _)
   | (with_reducible exact LeO.refl _)
   | (with_reducible exact LeO.none _)
   | (with_reducible refine LeO.ite ?_ ?_)
   | (with_reducible refine LeO.bind ?_ (fun _ => ?_))
   | exact ih0 _ _ _ _
   | exact LeO.none _
   | refine LeO.ite ?_ ?_
   | refine LeO.bind ?_ (fun _ => ?_)
theorem wagtailref14_Wipe.mono : ∀ a0 a1 k, LeO (wagtailref14_Wipe.f k a0 a1) (wagtailref14_Wipe.f (k + 1) a0 a1) := by
 intro a0 a1 k; have ih0 := wagtailref14_Wipe.mono_l k; unfold wagtailref14_Wipe.f
 repeat' first
   | (with_reducible exact ih0 _ _ _ _)
   | (with_reducible exact LeO.refl _)
   | (with_reducible exact LeO.none _)
   | (with_reducible refine LeO.ite ?_ ?_)
   | (with_reducible refine LeO.bind ?_ (fun _ => ?_))
   | exact ih0 _ _ _ _
   | exact LeO.none _
   | refine LeO.ite ?_ ?_
   | refine LeO.bind ?_ (fun _ => ?_)
set_option maxHeartbeats 8000000 in
set_option maxRecDepth 100000 in
theorem wagtailref14_Wipe.calls (k : Nat) (A0 : Option Addr) (c0 : Nat) (l0 : List Int) (A1 : Option Addr) (c1 : Nat) (l1 : List Int) (r : List Int) (w : World) (hr0 : Kd.C (Kd.int .u8) w A0 l0.length l0) (hc0 : l0.length ≤ c0) (hr1 : Kd.C (Kd.int .u8) w A1 l1.length l1) (hc1 : l1.length ≤ c1) (h : wagtailref14_Wipe.f k l0 l1 = some r) :
  Calls Try.prog 78 #[.slice A0 l0.length c0, .slice A1 l1.length c1] w fun e w' => ∃ v0_ : Value, e = .returned (v0_) ∧ Kd.R (Kd.int .u8) 5 w' w.heap.size (fun _ => True) v0_ r ∧ Below w.heap.size w w' := by
 have HR0 := aK hr0; have HC0 := aK hc0; clear hr0 hc0; have HR1 := aK hr1; have HC1 := aK hc1; clear hr1 hc1; have HB := aK (Below.refl w.heap.size w); have H : (wagtailref14_Wipe.l0 k l0 l1 ([] : List Int) 0) = some r := h; clear h; have H' := aK H; clear H; go_enter Try.func78, Try.ntmps78
 go_wp2
 go_loopg [5, 6] k (fun kq v5 v6 w' => ∃ (x5_1 : List Int) (x6_1 : Int), v6 = .int .i64 x6_1 ∧ Aside0 (wagtailref14_Wipe.l0 kq l0 l1 x5_1 x6_1 = some r) ∧ Aside0 (kq ≤ k) ∧ Aside0 (Kd.R (Kd.int .u8) 5 w' w.heap.size (fun _ => True) v5 x5_1) ∧ Aside0 (Below w.heap.size w w'))
 case atStart => exact ⟨(([] : List Int)), (0), (by first | rfl | (simp; done) | (simp [*]; done)), H', ⟨Nat.le_refl _⟩, ⟨by first | exact Kd.R_nil _ _ _ _ _ | exact Kd.N_nil _ _ _ _ _ | exact Kd.V_nil _ _ _ _ _ | exact Kd.Q_nil _ _ _ _ _ | exact Kd.S_nil _ _ _ _ _⟩, ⟨by repeat (first | (with_reducible first | exact HB.out | apply below_alloc | apply pw_below_drewN | apply below_drew1) | exact HB.out)⟩⟩
 case round =>
  clear H'
  try clear c1
  try clear p2
  obtain ⟨x5_1, x6_1, rfl, HA, HK1, HO_5, HB⟩ := hrel
  cases gk with
  | zero => exact absurd HA.out (by simp [wagtailref14_Wipe.l0])
  | succ k1 =>
   have H := HA.out; clear HA; simp only [wagtailref14_Wipe.l0] at H; by_cases c3 : x6_1 < (l0.length : Int)
   ·
    rw [if_pos c3] at H; have c3b0 : decide (x6_1 < (l0.length : Int)) = true := decide_eq_true c3; clear c3; by_cases c4 : (l1.length : Int) > 0
    ·
     rw [if_pos c4] at H; have c4b0 : decide (0 < (l1.length : Int)) = true := decide_eq_true c4; have c4b1 : decide (0 < l1.length) = true := decide_eq_true (by omega); clear c4; by_cases c5 : (l1.length : Int) = 0
     ·
      rw [if_pos c5] at H; exact absurd H (by simp)
     ·
      rw [if_neg c5] at H; have c5b0 : ((l1.length : Int) == 0) = false := beq_eq_false_iff_ne.mpr c5; have c5b1 : ((l1.length : Int) != 0) = true := bne_iff_ne.mpr c5; have c5b2 : ¬ (l1 = []) := fun h_ => c5 (by rw [h_]; rfl); obtain ⟨ji6, hji6⟩ : ∃ j_ : Int, (Int.tmod x6_1 (l1.length : Int)) = j_ := ⟨_, rfl⟩; replace H : (if 0 ≤ (ji6) then (if (ji6) < (l1.length : Int) then (if 0 ≤ x6_1 then (if x5_1.length < 140737488355328 then (wagtailref14_Wipe.l0 k1 l0 l1 (x5_1 ++ [Go.bits .or .u8 (rd l0 x6_1) (rd l1 (ji6))]) (wrap64 (x6_1 + 1))) else (none)) else (none)) else (none)) else (none)) = some r := by first | (rw [hji6] at H; exact H) | (simp only [hji6] at H ⊢; exact H)
      by_cases c7 : 0 ≤ (ji6)
      ·
       rw [if_pos c7] at H; have c7b0 : decide (0 ≤ (ji6)) = true := decide_eq_true c7; clear c7; by_cases c8 : (ji6) < (l1.length : Int)
       ·
        rw [if_pos c8] at H; have c8b0 : decide ((ji6) < (l1.length : Int)) = true := decide_eq_true c8; clear c8; by_cases c9 : 0 ≤ x6_1
        ·
         rw [if_pos c9] at H; have c9b0 : decide (0 ≤ x6_1) = true := decide_eq_true c9; clear c9; by_cases c10 : x5_1.length < 140737488355328
         ·
          rw [if_pos c10] at H; have LMc10 := aK c10; clear c10; obtain ⟨y182, hy182⟩ : ∃ y_ : List Int, y_ = (x5_1 ++ [Go.bits .or .u8 (rd l0 x6_1) (rd l1 (ji6))]) := ⟨_, rfl⟩; replace H : (wagtailref14_Wipe.l0 k1 l0 l1 y182 (wrap64 (x6_1 + 1))) = some r := by first | (rw [hy182]; with_reducible exact H) | (have H2_ := (Option.bind_some _ _).symm.trans H; rw [hy182]; with_reducible exact H2_) | (have H2_ := (Option.bind_some _ _).symm.trans H; with_reducible exact H2_) | with_reducible exact H | (rw [hy182]; exact H) | exact H
          have Ny182 := aK hy182; clear hy182; have H' := aK H; clear H; have p180 : 0 ≤ ((ji6) : Int) := of_decide_eq_true (by first | (with_reducible assumption) | assumption); have q180 : (ji6) < (l1.length : Int) := of_decide_eq_true (by first | (with_reducible assumption) | assumption); obtain ⟨ad180, e180, hx180_0⟩ := Kd.at_int HR1.out (ji6) p180 q180
          cases e180
          replace hx180_0 := (HB.out.cell (World.block_lt_of_cell? w _ hx180_0)).trans hx180_0; replace p180 := eq_true p180; replace q180 := eq_true q180; have p181 : 0 ≤ (x6_1 : Int) := of_decide_eq_true (by first | (with_reducible assumption) | assumption); have q181 : x6_1 < (l0.length : Int) := of_decide_eq_true (by first | (with_reducible assumption) | assumption); obtain ⟨ad181, e181, hx181_0⟩ := Kd.at_int HR0.out x6_1 p181 q181
          cases e181
          replace hx181_0 := (HB.out.cell (World.block_lt_of_cell? w _ hx181_0)).trans hx181_0; replace p181 := eq_true p181; replace q181 := eq_true q181; go_wp2_with (first | ((with_reducible refine gate_builtin (b := .append) (xs := #[.tmp 24, .tmp 31]) rfl ?_); at_builtin; refine Kd.R_append (Kd.int .u8) (w0 := w) w.heap.size rfl (.tmp 24) (.tmp 31) 38 5 (.int .u8 0) 1 rfl Try.underlying38 info5 rfl (by decide) (by omega) u5 x5_1 (Go.bits .or .u8 (rd l0 x6_1) (rd l1 (ji6))) [.int .u8 (Go.bits .or .u8 (rd l0 x6_1) (rd l1 (ji6)))] (fun _ => True) (fun _ => False) rfl rfl ?aP (fun _ hk => hk.elim) ?aF ?aO ?aB ?aS ?aL ?_; (case aP => exact rfl); (case aB => exact (by repeat (first | (with_reducible first | exact HB.out | apply below_alloc | apply pw_below_drewN | apply below_drew1) | exact HB.out))); (case aF => exact (fun _ _ => trivial)); (case aO => exact (by (with_reducible repeat (first | apply Kd.R_alloc | apply Kd.R_drewN | apply Kd.R_drew)); exact HO_5.out)); (case aS => exact (below_size (by repeat (first | (with_reducible first | exact HB.out | apply below_alloc | apply pw_below_drewN | apply below_drew1) | exact HB.out)))); (case aL => have := LMc10.out; omega); intro v183 w11 ho hb hg hat; rw [← Ny182.out] at ho; have n0_ := aK (hb); have n1_ := aK (ho); clear HB; clear HO_5; have HB := n0_; have HO184 := n1_; clear n0_ n1_; clear ho hb hg hat)); go_roundg k1
          case measure => have := HK1.out; omega
          case rel => exact ⟨(y182), (wrap64 (x6_1 + 1)), (by first | rfl | (simp; done) | (simp [*]; done)), H', ⟨by have := HK1.out; omega⟩, ⟨by (with_reducible repeat (first | apply Kd.R_alloc | apply Kd.R_drewN | apply Kd.R_drew)); exact HO184.out⟩, ⟨by repeat (first | (with_reducible first | exact HB.out | apply below_alloc | apply pw_below_drewN | apply below_drew1) | exact HB.out)⟩⟩
         ·
          rw [if_neg c10] at H; exact absurd H (by simp)
        ·
         rw [if_neg c9] at H; exact absurd H (by simp)
       ·
        rw [if_neg c8] at H; exact absurd H (by simp)
      ·
       rw [if_neg c7] at H; exact absurd H (by simp)
    ·
     rw [if_neg c4] at H; have c4b0 : decide (0 < (l1.length : Int)) = false := decide_eq_false c4; have c4b1 : decide (0 < l1.length) = false := decide_eq_false (by omega); clear c4; by_cases c12 : 0 ≤ x6_1
     ·
      rw [if_pos c12] at H; have c12b0 : decide (0 ≤ x6_1) = true := decide_eq_true c12; clear c12; by_cases c13 : x5_1.length < 140737488355328
      ·
       rw [if_pos c13] at H; have LMc13 := aK c13; clear c13; obtain ⟨y186, hy186⟩ : ∃ y_ : List Int, y_ = (x5_1 ++ [Go.bits .or .u8 (rd l0 x6_1) 0]) := ⟨_, rfl⟩; replace H : (wagtailref14_Wipe.l0 k1 l0 l1 y186 (wrap64 (x6_1 + 1))) = some r := by first | (rw [hy186]; with_reducible exact H) | (have H2_ := (Option.bind_some _ _).symm.trans H; rw [hy186]; with_reducible exact H2_) | (have H2_ := (Option.bind_some _ _).symm.trans H; with_reducible exact H2_) | with_reducible exact H | (rw [hy186]; exact H) | exact H
       have Ny186 := aK hy186; clear hy186; have H' := aK H; clear H; have p185 : 0 ≤ (x6_1 : Int) := of_decide_eq_true (by first | (with_reducible assumption) | assumption); have q185 : x6_1 < (l0.length : Int) := of_decide_eq_true (by first | (with_reducible assumption) | assumption); obtain ⟨ad185, e185, hx185_0⟩ := Kd.at_int HR0.out x6_1 p185 q185
       cases e185
       replace hx185_0 := (HB.out.cell (World.block_lt_of_cell? w _ hx185_0)).trans hx185_0; replace p185 := eq_true p185; replace q185 := eq_true q185; go_wp2_with (first | ((with_reducible refine gate_builtin (b := .append) (xs := #[.tmp 24, .tmp 31]) rfl ?_); at_builtin; refine Kd.R_append (Kd.int .u8) (w0 := w) w.heap.size rfl (.tmp 24) (.tmp 31) 38 5 (.int .u8 0) 1 rfl Try.underlying38 info5 rfl (by decide) (by omega) u5 x5_1 (Go.bits .or .u8 (rd l0 x6_1) 0) [.int .u8 (Go.bits .or .u8 (rd l0 x6_1) 0)] (fun _ => True) (fun _ => False) rfl rfl ?aP (fun _ hk => hk.elim) ?aF ?aO ?aB ?aS ?aL ?_; (case aP => exact rfl); (case aB => exact (by repeat (first | (with_reducible first | exact HB.out | apply below_alloc | apply pw_below_drewN | apply below_drew1) | exact HB.out))); (case aF => exact (fun _ _ => trivial)); (case aO => exact (by (with_reducible repeat (first | apply Kd.R_alloc | apply Kd.R_drewN | apply Kd.R_drew)); exact HO_5.out)); (case aS => exact (below_size (by repeat (first | (with_reducible first | exact HB.out | apply below_alloc | apply pw_below_drewN | apply below_drew1) | exact HB.out)))); (case aL => have := LMc13.out; omega); intro v187 w14 ho hb hg hat; rw [← Ny186.out] at ho; have n0_ := aK (hb); have n1_ := aK (ho); clear HB; clear HO_5; have HB := n0_; have HO188 := n1_; clear n0_ n1_; clear ho hb hg hat)); go_roundg k1
       case measure => have := HK1.out; omega
       case rel => exact ⟨(y186), (wrap64 (x6_1 + 1)), (by first | rfl | (simp; done) | (simp [*]; done)), H', ⟨by have := HK1.out; omega⟩, ⟨by (with_reducible repeat (first | apply Kd.R_alloc | apply Kd.R_drewN | apply Kd.R_drew)); exact HO188.out⟩, ⟨by repeat (first | (with_reducible first | exact HB.out | apply below_alloc | apply pw_below_drewN | apply below_drew1) | exact HB.out)⟩⟩
      ·
       rw [if_neg c13] at H; exact absurd H (by simp)
     ·
      rw [if_neg c12] at H; exact absurd H (by simp)
   ·
    rw [if_neg c3] at H; have c3b0 : decide (x6_1 < (l0.length : Int)) = false := decide_eq_false c3; clear c3; obtain rfl := Option.some.inj H
    go_wp2
    go_ret; exact ⟨_, by first | rfl | (simp [errW_none, errW_some] <;> rfl) | (simp [*, errW_none, errW_some] <;> rfl), by (with_reducible repeat (first | apply Kd.R_alloc | apply Kd.R_drewN | apply Kd.R_drew)); exact HO_5.out, by repeat (first | (with_reducible first | exact HB.out | apply below_alloc | apply pw_below_drewN | apply below_drew1) | exact HB.out)⟩
end Go.Proofs.Ytnchdmidaigheaa.Hp
