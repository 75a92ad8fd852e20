/- Parts of the proof of the statement NandDoes, laid together (3 of 7). -/
import Derived.Laws.BitsAllLaws
import Derived.Test.YtnchdmidaigheaaZNandDoes1
namespace Go.Proofs.Ytnchdmidaigheaa.Hp
open Go.RowKit Go.Proofs.YtnchdmidaigheaaW.PrintWords Go.Proofs.YtnchdmidaigheaaW.PrintLast Go.Proofs.YtnchdmidaigheaaW.PrintMore
attribute [local go_sem] max2_int min2_int max_two min_two max_three min_three max_four min_four   -- for this text's walks alone
set_option linter.unusedVariables false
set_option linter.unusedSimpArgs false
def wagtailref14_Part.l0 : Nat → List Int → List Int → List Int → List Int → Int → Option (List Int)
  | 0, _, _, _, _, _ => none
  | k + 1, x0, x1, x2, x7, x8 => if x8 < (x0.length : Int) then (if (x2.length : Int) > 0 then (if (x2.length : Int) = 0 then (none) else (if 0 ≤ (Int.tmod x8 (x2.length : Int)) then (if (Int.tmod x8 (x2.length : Int)) < (x2.length : Int) then (if 0 ≤ x8 then (if x8 < (x1.length : Int) then (if x7.length < 140737488355328 then (wagtailref14_Part.l0 k x0 x1 x2 (x7 ++ [((rd x0 x8) - (Go.bits .and .u8 (Go.bits .and .u8 (rd x0 x8) (rd x2 (Int.tmod x8 (x2.length : Int)))) ((255 - (rd x1 x8)) % 256))) % 256]) (wrap64 (x8 + 1))) else (none)) else (none)) else (none)) else (none)) else (none))) else (if 0 ≤ x8 then (if x8 < (x1.length : Int) then (if x7.length < 140737488355328 then (wagtailref14_Part.l0 k x0 x1 x2 (x7 ++ [((rd x0 x8) - (Go.bits .and .u8 (Go.bits .and .u8 (rd x0 x8) 0) ((255 - (rd x1 x8)) % 256))) % 256]) (wrap64 (x8 + 1))) else (none)) else (none)) else (none))) else (some x7)
def wagtailref14_Part.f (k : Nat) (l0 : List Int) (l1 : List Int) (l2 : List Int) : Option (List Int) := wagtailref14_Part.l0 k l0 l1 l2 ([] : List Int) 0
theorem wagtailref14_Part.mono_l : ∀ k, (∀ y0 y1 y2 y3 y4, LeO (wagtailref14_Part.l0 k y0 y1 y2 y3 y4) (wagtailref14_Part.l0 (k + 1) y0 y1 y2 y3 y4))
  | 0 => fun _ _ _ _ _ r h => by simp [wagtailref14_Part.l0] at h
  | k + 1 => by
    have ih0 := wagtailref14_Part.mono_l k
    · intro y0 y1 y2 y3 y4
      unfold wagtailref14_Part.l0
      repeat' first
      | (with_reducible exact ih0 _ _ _ _ _)
      | (with_reducible exact LeO.refl _)
      | (with_reducible exact LeO.none _)
      | (with_reducible refine LeO.ite ?_ ?_)
      | (with_reducible refine LeO.bind ?_ (fun _ => ?_))
      | exact ih0 _ _ _ _ _
      | exact LeO.none _
      | refine LeO.ite ?_ ?_
      | refine LeO.bind ?_ (fun _ => ?_)
theorem wagtailref14_Part.mono : ∀ a0 a1 a2 k, LeO (wagtailref14_Part.f k a0 a1 a2) (wagtailref14_Part.f (k + 1) a0 a1 a2) := by
  intro a0 a1 a2 k
  have ih0 := wagtailref14_Part.mono_l k
  unfold wagtailref14_Part.f
  repeat' first
      | (with_reducible exact ih0 _ _ _ _ _)
      | (with_reducible exact LeO.refl _)
      | (with_reducible exact LeO.none _)
      | (with_reducible refine LeO.ite ?_ ?_)
      | (with_reducible refine LeO.bind ?_ (fun _ => ?_))
      | exact ih0 _ _ _ _ _
      | exact LeO.none _
      | refine LeO.ite ?_ ?_
      | refine LeO.bind ?_ (fun _ => ?_)
def wagtailref14_Part.T8 : Bool × List (List Nat × List Nat) := (true, [([], []), ([], []), ([], []), ([1, 2], [1, 2]), ([3], [3]), ([], []), ([], []), ([5, 6], [5, 6]), ([7], [7]), ([], []), ([8, 9], [8, 9]), ([], []), ([], []), ([11, 12], [11, 12]), ([13], [13]), ([14], [14]), ([10, 15], [10, 15]), ([4, 16], [4, 16]), ([17], [17]), ([0, 18], [0, 18]), ([19, 19, 0, 1, 2, 3, 4, 5, 6, 7, 8, 9, 10, 11, 12, 13, 14, 15, 16, 17, 18, 19], [0, 19])])
def wagtailref14_Part.B8 : List Nat := [0, 0, 0, 6, 14, 0, 0, 96, 224, 0, 992, 0, 0, 6144, 14336, 30720, 65504, 131070, 262142, 524287, 1048575]
theorem wagtailref14_Part.tab8 : rtab .any (opsOf Try.f76 8) = wagtailref14_Part.T8 := by kernel_rfl
theorem wagtailref14_Part.bits8 : waitsOk wagtailref14_Part.T8.2 wagtailref14_Part.B8 = true := by kernel_rfl
set_option maxHeartbeats 8000000 in
set_option maxRecDepth 100000 in
theorem wagtailref14_Part.calls (k : Nat) (A0 : Option Addr) (c0 : Nat) (l0 : List Int) (A1 : Option Addr) (c1 : Nat) (l1 : List Int) (A2 : Option Addr) (c2 : Nat) (l2 : List Int) (r : List Int) (w : World) (hr0 : Kd.C (Kd.int .u8) w A0 l0.length l0) (hc0 : l0.length ≤ c0) (hr1 : Kd.C (Kd.int .u8) w A1 l1.length l1) (hc1 : l1.length ≤ c1) (hr2 : Kd.C (Kd.int .u8) w A2 l2.length l2) (hc2 : l2.length ≤ c2) (h : wagtailref14_Part.f k l0 l1 l2 = some r) :
    Calls Try.prog 76 #[.slice A0 l0.length c0, .slice A1 l1.length c1, .slice A2 l2.length c2] w fun e w' => ∃ v0_ : Value, e = .returned (v0_) ∧ Kd.R (Kd.int .u8) 5 w' w.heap.size (fun _ => True) v0_ r ∧ Below w.heap.size w w' := by
  have HR0 := Aside0.mk hr0
  have HC0 := Aside0.mk hc0
  clear hr0 hc0
  have HR1 := Aside0.mk hr1
  have HC1 := Aside0.mk hc1
  clear hr1 hc1
  have HR2 := Aside0.mk hr2
  have HC2 := Aside0.mk hc2
  clear hr2 hc2
  have HB := Aside0.mk (Below.refl w.heap.size w)
  have H : (wagtailref14_Part.l0 k l0 l1 l2 ([] : List Int) 0) = some r := h
  clear h
  have H' := Aside0.mk H
  clear H
  go_enter Try.func76, Try.ntmps76
  go_wp2
  go_loopg [7, 8] k (fun kq v7 v8 w' => ∃ (x7_1 : List Int) (x8_1 : Int), v8 = .int .i64 x8_1 ∧ Aside0 (wagtailref14_Part.l0 kq l0 l1 l2 x7_1 x8_1 = some r) ∧ Aside0 (kq ≤ k) ∧ Aside0 (Kd.R (Kd.int .u8) 5 w' w.heap.size (fun _ => True) v7 x7_1) ∧ Aside0 (Below w.heap.size w w'))
  case atStart => exact ⟨(([] : List Int)), (0), (by first | rfl | (simp; done) | (simp [*]; done)), H', ⟨Nat.le_refl _⟩, ⟨by first | exact Kd.R_nil _ _ _ _ _ | exact Kd.N_nil _ _ _ _ _ | exact Kd.V_nil _ _ _ _ _ | exact Kd.Q_nil _ _ _ _ _ | exact Kd.S_nil _ _ _ _ _⟩, ⟨by repeat (first | (with_reducible first | exact HB.out | apply below_alloc | apply pw_below_drewN | apply below_drew1) | exact HB.out)⟩⟩
  case round =>
    clear H'
    try clear c1
    try clear c2
    try clear p2
    obtain ⟨x7_1, x8_1, rfl, HA, HK1, HO_7, HB⟩ := hrel
    cases gk with
    | zero => exact absurd HA.out (by simp [wagtailref14_Part.l0])
    | succ k1 =>
      have H := HA.out
      clear HA
      simp only [wagtailref14_Part.l0] at H
      by_cases c4 : x8_1 < (l0.length : Int)
      · rw [if_pos c4] at H
        have c4b0 : decide (x8_1 < (l0.length : Int)) = true := decide_eq_true c4
        clear c4
        by_cases c5 : (l2.length : Int) > 0
        · rw [if_pos c5] at H
          have c5b0 : decide (0 < (l2.length : Int)) = true := decide_eq_true c5
          have c5b1 : decide (0 < l2.length) = true := decide_eq_true (by omega)
          clear c5
          by_cases c6 : (l2.length : Int) = 0
          · rw [if_pos c6] at H
            exact absurd H (by simp)
          · rw [if_neg c6] at H
            have c6b0 : ((l2.length : Int) == 0) = false := beq_eq_false_iff_ne.mpr c6
            have c6b1 : ((l2.length : Int) != 0) = true := bne_iff_ne.mpr c6
            have c6b2 : ¬ (l2 = []) := fun h_ => c6 (by rw [h_]; rfl)
            obtain ⟨ji7, hji7⟩ : ∃ j_ : Int, (Int.tmod x8_1 (l2.length : Int)) = j_ := ⟨_, rfl⟩
            replace H : (if 0 ≤ (ji7) then (if (ji7) < (l2.length : Int) then (if 0 ≤ x8_1 then (if x8_1 < (l1.length : Int) then (if x7_1.length < 140737488355328 then (wagtailref14_Part.l0 k1 l0 l1 l2 (x7_1 ++ [((rd l0 x8_1) - (Go.bits .and .u8 (Go.bits .and .u8 (rd l0 x8_1) (rd l2 (ji7))) ((255 - (rd l1 x8_1)) % 256))) % 256]) (wrap64 (x8_1 + 1))) else (none)) else (none)) else (none)) else (none)) else (none)) = some r := by first | (rw [hji7] at H; exact H) | (simp only [hji7] at H ⊢; exact H)
            by_cases c8 : 0 ≤ (ji7)
            · rw [if_pos c8] at H
              have c8b0 : decide (0 ≤ (ji7)) = true := decide_eq_true c8
              clear c8
              by_cases c9 : (ji7) < (l2.length : Int)
              · rw [if_pos c9] at H
                have c9b0 : decide ((ji7) < (l2.length : Int)) = true := decide_eq_true c9
                clear c9
                by_cases c10 : 0 ≤ x8_1
                · rw [if_pos c10] at H
                  have c10b0 : decide (0 ≤ x8_1) = true := decide_eq_true c10
                  clear c10
                  by_cases c11 : x8_1 < (l1.length : Int)
                  · rw [if_pos c11] at H
                    have c11b0 : decide (x8_1 < (l1.length : Int)) = true := decide_eq_true c11
                    clear c11
                    by_cases c12 : x7_1.length < 140737488355328
                    · rw [if_pos c12] at H
                      have LMc12 := Aside0.mk c12
                      clear c12
                      obtain ⟨y169, hy169⟩ : ∃ y_ : List Int, y_ = (x7_1 ++ [((rd l0 x8_1) - (Go.bits .and .u8 (Go.bits .and .u8 (rd l0 x8_1) (rd l2 (ji7))) ((255 - (rd l1 x8_1)) % 256))) % 256]) := ⟨_, rfl⟩
                      replace H : (wagtailref14_Part.l0 k1 l0 l1 l2 y169 (wrap64 (x8_1 + 1))) = some r := by first | (rw [hy169]; with_reducible exact H) | (have H2_ := (Option.bind_some _ _).symm.trans H; rw [hy169]; with_reducible exact H2_) | (have H2_ := (Option.bind_some _ _).symm.trans H; with_reducible exact H2_) | with_reducible exact H | (rw [hy169]; exact H) | exact H
                      have Ny169 := Aside0.mk hy169
                      clear hy169
                      have H' := Aside0.mk H
                      clear H
                      have p165 : 0 ≤ ((ji7) : Int) := of_decide_eq_true (by first | (with_reducible assumption) | assumption)
                      have q165 : (ji7) < (l2.length : Int) := of_decide_eq_true (by first | (with_reducible assumption) | assumption)
                      obtain ⟨ad165, e165, hx165_0⟩ := Kd.at_int HR2.out (ji7) p165 q165
                      cases e165
                      replace hx165_0 := (HB.out.cell (World.block_lt_of_cell? w _ hx165_0)).trans hx165_0
                      replace p165 := eq_true p165
                      replace q165 := eq_true q165
                      try go_wp2
                      have n0_ := Aside0.mk (Kd.R_drew HO_7.out)
                      have n1_ := Aside0.mk (below_drew1 HB.out)
                      clear HO_7
                      clear HB
                      have HO_7 := n0_
                      have HB := n1_
                      clear n0_ n1_
                      have p166 : 0 ≤ (x8_1 : Int) := of_decide_eq_true (by first | (with_reducible assumption) | assumption)
                      have q166 : x8_1 < (l0.length : Int) := of_decide_eq_true (by first | (with_reducible assumption) | assumption)
                      obtain ⟨ad166, e166, hx166_0⟩ := Kd.at_int HR0.out x8_1 p166 q166
                      have hw166_0 := hx166_0
                      cases e166
                      replace hx166_0 := (HB.out.cell (World.block_lt_of_cell? w _ hx166_0)).trans hx166_0
                      replace p166 := eq_true p166
                      replace q166 := eq_true q166
                      have p167 : 0 ≤ (x8_1 : Int) := of_decide_eq_true (by first | (with_reducible assumption) | assumption)
                      have q167 : x8_1 < (l0.length : Int) := of_decide_eq_true (by first | (with_reducible assumption) | assumption)
                      obtain ⟨ad167, e167, hx167_0⟩ := Kd.at_int HR0.out x8_1 p167 q167
                      have hw167_0 := hx167_0
                      obtain rfl : ad166 = ad167 := (by injection e167)
                      replace hx167_0 := (HB.out.cell (World.block_lt_of_cell? w _ hx167_0)).trans hx167_0
                      replace p167 := eq_true p167
                      replace q167 := eq_true q167
                      have p168 : 0 ≤ (x8_1 : Int) := of_decide_eq_true (by first | (with_reducible assumption) | assumption)
                      have q168 : x8_1 < (l1.length : Int) := of_decide_eq_true (by first | (with_reducible assumption) | assumption)
                      obtain ⟨ad168, e168, hx168_0⟩ := Kd.at_int HR1.out x8_1 p168 q168
                      have hw168_0 := hx168_0
                      cases e168
                      replace hx168_0 := (HB.out.cell (World.block_lt_of_cell? w _ hx168_0)).trans hx168_0
                      replace p168 := eq_true p168
                      replace q168 := eq_true q168
                      refine start_ (n := 21) (S := fun w' => w'.cell? (ad166.add (x8_1).toNat) = some (.int .u8 (rd l0 x8_1)) ∧ w'.cell? (ad166.add (x8_1).toNat) = some (.int .u8 (rd l0 x8_1)) ∧ w'.cell? (ad168.add (x8_1).toNat) = some (.int .u8 (rd l1 x8_1))) (ds := []) #[false, false, false, false, false, false, false, false, false, false, false, false, false, false, false, false, false, false, false, false, false] (by kernel_rfl) rfl rfl ⟨((HB.out.cell (World.block_lt_of_cell? w _ hw166_0)).trans hw166_0), ((HB.out.cell (World.block_lt_of_cell? w _ hw167_0)).trans hw167_0), ((HB.out.cell (World.block_lt_of_cell? w _ hw168_0)).trans hw168_0)⟩ (fun hHeld => ?_); refine with_tabW wagtailref14_Part.tab8 wagtailref14_Part.bits8 (fun HT_ HW_ => ?_)
                      generalize wr.drew = w13 at HO_7 HB hx166_0 hx167_0 hx168_0 hHeld ⊢
                      refine pure_ (i := 0) (N := some 26) (v := ?_) (a' := ?_) #[true, false, false, false, false, false, false, false, false, false, false, false, false, false, false, false, false, false, false, false, false] rfl rfl (any_of HT_.out (by kernel_rfl)) (fun _ _ _ h => h) (Or.inl ⟨by rfl, ?_⟩) ?_ ?_
                      rotate_left
                      · intro w'
                        go_simp
                        with_reducible rfl
                      rotate_left
                      · simp only [Act.put, List.setIfInBounds_toArray, List.set_cons_zero, List.set_cons_succ, i64_w, i32_w]
                        rfl
                      refine pure_ (i := 1) (N := some 27) (v := ?_) (a' := ?_) #[true, true, false, false, false, false, false, false, false, false, false, false, false, false, false, false, false, false, false, false, false] rfl rfl (any_of HT_.out (by kernel_rfl)) (fun _ _ _ h => h) (Or.inl ⟨by rfl, ?_⟩) ?_ ?_
                      rotate_left
                      · intro w'
                        go_simp
                        with_reducible rfl
                      rotate_left
                      · simp only [Act.put, List.setIfInBounds_toArray, List.set_cons_zero, List.set_cons_succ, i64_w, i32_w]
                        rfl
                      refine pure_ (i := 2) (N := some 28) (v := ?_) (a' := ?_) #[true, true, true, false, false, false, false, false, false, false, false, false, false, false, false, false, false, false, false, false, false] rfl rfl (any_of HT_.out (by kernel_rfl)) (fun _ _ _ h => h) (Or.inl ⟨by rfl, ?_⟩) ?_ ?_
                      rotate_left
                      · intro w'
                        go_simp
                        with_reducible rfl
                      rotate_left
                      · simp only [Act.put, List.setIfInBounds_toArray, List.set_cons_zero, List.set_cons_succ, i64_w, i32_w]
                        rfl
                      refine pure_ (i := 3) (N := some 29) (v := ?_) (a' := ?_) #[true, true, true, true, false, false, false, false, false, false, false, false, false, false, false, false, false, false, false, false, false] rfl rfl (any_of HT_.out (by kernel_rfl)) (fun _ _ _ h => h) (Or.inl ⟨by rfl, ?_⟩) ?_ ?_
                      rotate_left
                      · intro w'
                        go_simp
                        with_reducible rfl
                      rotate_left
                      · simp only [Act.put, List.setIfInBounds_toArray, List.set_cons_zero, List.set_cons_succ, i64_w, i32_w]
                        rfl
                      refine pure_ (i := 5) (N := some 31) (v := ?_) (a' := ?_) #[true, true, true, true, false, true, false, false, false, false, false, false, false, false, false, false, false, false, false, false, false] rfl rfl (any_of HT_.out (by kernel_rfl)) (fun _ _ _ h => h) (Or.inl ⟨by rfl, ?_⟩) ?_ ?_
                      rotate_left
                      · intro w'
                        go_simp
                        with_reducible rfl
                      rotate_left
                      · simp only [Act.put, List.setIfInBounds_toArray, List.set_cons_zero, List.set_cons_succ, i64_w, i32_w]
                        rfl
                      refine pure_ (i := 6) (N := some 32) (v := ?_) (a' := ?_) #[true, true, true, true, false, true, true, false, false, false, false, false, false, false, false, false, false, false, false, false, false] rfl rfl (any_of HT_.out (by kernel_rfl)) (fun _ _ _ h => h) (Or.inl ⟨by rfl, ?_⟩) ?_ ?_
                      rotate_left
                      · intro w'
                        go_simp
                        with_reducible rfl
                      rotate_left
                      · simp only [Act.put, List.setIfInBounds_toArray, List.set_cons_zero, List.set_cons_succ, i64_w, i32_w]
                        rfl
                      refine pure_ (i := 7) (N := some 33) (v := ?_) (a' := ?_) #[true, true, true, true, false, true, true, true, false, false, false, false, false, false, false, false, false, false, false, false, false] rfl rfl (any_of HT_.out (by kernel_rfl)) (fun _ _ _ h => h) (Or.inl ⟨by rfl, ?_⟩) ?_ ?_
                      rotate_left
                      · intro w'
                        go_simp
                        with_reducible rfl
                      rotate_left
                      · simp only [Act.put, List.setIfInBounds_toArray, List.set_cons_zero, List.set_cons_succ, i64_w, i32_w]
                        rfl
                      refine pure_ (i := 9) (N := some 35) (v := ?_) (a' := ?_) #[true, true, true, true, false, true, true, true, false, true, false, false, false, false, false, false, false, false, false, false, false] rfl rfl (any_of HT_.out (by kernel_rfl)) (fun _ _ _ h => h) (Or.inl ⟨by rfl, ?_⟩) ?_ ?_
                      rotate_left
                      · intro w'
                        go_simp
                        with_reducible rfl
                      rotate_left
                      · simp only [Act.put, List.setIfInBounds_toArray, List.set_cons_zero, List.set_cons_succ, i64_w, i32_w]
                        rfl
                      refine pure_ (i := 11) (N := some 37) (v := ?_) (a' := ?_) #[true, true, true, true, false, true, true, true, false, true, false, true, false, false, false, false, false, false, false, false, false] rfl rfl (any_of HT_.out (by kernel_rfl)) (fun _ _ _ h => h) (Or.inl ⟨by rfl, ?_⟩) ?_ ?_
                      rotate_left
                      · intro w'
                        go_simp
                        with_reducible rfl
                      rotate_left
                      · simp only [Act.put, List.setIfInBounds_toArray, List.set_cons_zero, List.set_cons_succ, i64_w, i32_w]
                        rfl
                      refine pure_ (i := 12) (N := some 38) (v := ?_) (a' := ?_) #[true, true, true, true, false, true, true, true, false, true, false, true, true, false, false, false, false, false, false, false, false] rfl rfl (any_of HT_.out (by kernel_rfl)) (fun _ _ _ h => h) (Or.inl ⟨by rfl, ?_⟩) ?_ ?_
                      rotate_left
                      · intro w'
                        go_simp
                        with_reducible rfl
                      rotate_left
                      · simp only [Act.put, List.setIfInBounds_toArray, List.set_cons_zero, List.set_cons_succ, i64_w, i32_w]
                        rfl
                      refine pure_ (i := 13) (N := some 39) (v := ?_) (a' := ?_) #[true, true, true, true, false, true, true, true, false, true, false, true, true, true, false, false, false, false, false, false, false] rfl rfl (any_of HT_.out (by kernel_rfl)) (fun _ _ _ h => h) (Or.inl ⟨by rfl, ?_⟩) ?_ ?_
                      rotate_left
                      · intro w'
                        go_simp
                        with_reducible rfl
                      rotate_left
                      · simp only [Act.put, List.setIfInBounds_toArray, List.set_cons_zero, List.set_cons_succ, i64_w, i32_w]
                        rfl
                      refine take_ (i := 4) (N := some 30) (v := ?_) (a' := ?_) #[true, true, true, true, true, true, true, true, false, true, false, true, true, true, false, false, false, false, false, false, false] rfl rfl (take_ofW HT_.out HW_.out (by kernel_rfl)) (fun _ _ _ h => h) (Or.inl ⟨by rfl, ?_⟩) hHeld ?_ ?_
                      rotate_left
                      · rintro w' ⟨s0, s1, s2⟩
                        go_simp
                        with_reducible rfl
                      rotate_left
                      · simp only [Act.put, List.setIfInBounds_toArray, List.set_cons_zero, List.set_cons_succ, i64_w, i32_w]
                        rfl
                      refine take_ (i := 8) (N := some 34) (v := ?_) (a' := ?_) #[true, true, true, true, true, true, true, true, true, true, false, true, true, true, false, false, false, false, false, false, false] rfl rfl (take_ofW HT_.out HW_.out (by kernel_rfl)) (fun _ _ _ h => h) (Or.inl ⟨by rfl, ?_⟩) hHeld ?_ ?_
                      rotate_left
                      · rintro w' ⟨s0, s1, s2⟩
                        go_simp
                        with_reducible rfl
                      rotate_left
                      · simp only [Act.put, List.setIfInBounds_toArray, List.set_cons_zero, List.set_cons_succ, i64_w, i32_w]
                        rfl
                      refine pure_ (i := 10) (N := some 36) (v := ?_) (a' := ?_) #[true, true, true, true, true, true, true, true, true, true, true, true, true, true, false, false, false, false, false, false, false] rfl rfl (any_of HT_.out (by kernel_rfl)) (fun _ _ _ h => h) (Or.inl ⟨by rfl, ?_⟩) ?_ ?_
                      rotate_left
                      · intro w'
                        go_simp
                        with_reducible rfl
                      rotate_left
                      · simp only [Act.put, List.setIfInBounds_toArray, List.set_cons_zero, List.set_cons_succ, i64_w, i32_w]
                        rfl
                      refine take_ (i := 14) (N := some 40) (v := ?_) (a' := ?_) #[true, true, true, true, true, true, true, true, true, true, true, true, true, true, true, false, false, false, false, false, false] rfl rfl (take_ofW HT_.out HW_.out (by kernel_rfl)) (fun _ _ _ h => h) (Or.inl ⟨by rfl, ?_⟩) hHeld ?_ ?_
                      rotate_left
                      · rintro w' ⟨s0, s1, s2⟩
                        go_simp
                        with_reducible rfl
                      rotate_left
                      · simp only [Act.put, List.setIfInBounds_toArray, List.set_cons_zero, List.set_cons_succ, i64_w, i32_w]
                        rfl
                      refine pure_ (i := 15) (N := some 41) (v := ?_) (a' := ?_) #[true, true, true, true, true, true, true, true, true, true, true, true, true, true, true, true, false, false, false, false, false] rfl rfl (any_of HT_.out (by kernel_rfl)) (fun _ _ _ h => h) (Or.inl ⟨by rfl, ?_⟩) ?_ ?_
                      rotate_left
                      · intro w'
                        go_simp
                        with_reducible rfl
                      rotate_left
                      · simp only [Act.put, List.setIfInBounds_toArray, List.set_cons_zero, List.set_cons_succ, i64_w, i32_w]
                        rfl
                      refine pure_ (i := 16) (N := some 42) (v := ?_) (a' := ?_) #[true, true, true, true, true, true, true, true, true, true, true, true, true, true, true, true, true, false, false, false, false] rfl rfl (any_of HT_.out (by kernel_rfl)) (fun _ _ _ h => h) (Or.inl ⟨by rfl, ?_⟩) ?_ ?_
                      rotate_left
                      · intro w'
                        go_simp
                        with_reducible rfl
                      rotate_left
                      · simp only [Act.put, List.setIfInBounds_toArray, List.set_cons_zero, List.set_cons_succ, i64_w, i32_w]
                        rfl
                      refine pure_ (i := 17) (N := some 43) (v := ?_) (a' := ?_) #[true, true, true, true, true, true, true, true, true, true, true, true, true, true, true, true, true, true, false, false, false] rfl rfl (any_of HT_.out (by kernel_rfl)) (fun _ _ _ h => h) (Or.inl ⟨by rfl, ?_⟩) ?_ ?_
                      rotate_left
                      · intro w'
                        go_simp
                        with_reducible rfl
                      rotate_left
                      · simp only [Act.put, List.setIfInBounds_toArray, List.set_cons_zero, List.set_cons_succ, i64_w, i32_w]
                        rfl
                      refine one_ (i := 18) (N := some 44) #[true, true, true, true, true, true, true, true, true, true, true, true, true, true, true, true, true, true, true, false, false] rfl rfl (one_of HT_.out (by kernel_rfl)) (by decide) (fun K hK => ?_)
                      refine value_ (w1 := ?_) (v := ?_) (by rfl) rfl ?_ ?_
                      rotate_left 2
                      · go_simp
                        constructor
                        · rfl
                        · rfl
                      refine hK.out _ _ ⟨(World.cell?_alloc_lt _ _ _ (World.block_lt_of_cell? _ _ (((HB.out.cell (World.block_lt_of_cell? w _ hw166_0)).trans hw166_0)))).trans (((HB.out.cell (World.block_lt_of_cell? w _ hw166_0)).trans hw166_0)), (World.cell?_alloc_lt _ _ _ (World.block_lt_of_cell? _ _ (((HB.out.cell (World.block_lt_of_cell? w _ hw167_0)).trans hw167_0)))).trans (((HB.out.cell (World.block_lt_of_cell? w _ hw167_0)).trans hw167_0)), (World.cell?_alloc_lt _ _ _ (World.block_lt_of_cell? _ _ (((HB.out.cell (World.block_lt_of_cell? w _ hw168_0)).trans hw168_0)))).trans (((HB.out.cell (World.block_lt_of_cell? w _ hw168_0)).trans hw168_0))⟩ (fun hHeld => ?_)
                      clear hK K
                      refine norm_ (a' := ?_) ?_ ?_
                      rotate_left
                      · show Act.put _ (some 44) _ = _
                        simp only [Act.put, List.setIfInBounds_toArray, List.set_cons_zero, List.set_cons_succ, i64_w, i32_w]
                        rfl
                      refine one_ (i := 19) (N := some 45) #[true, true, true, true, true, true, true, true, true, true, true, true, true, true, true, true, true, true, true, true, false] rfl rfl (one_of HT_.out (by kernel_rfl)) (by decide) (fun K hK => ?_)
                      refine Kd.R_append_step (Kd.int .u8) (w0 := w) w.heap.size (by rfl) (.tmp 26) (.tmp 44) 38 5 (.int .u8 0) 1 rfl Try.underlying38 info5 rfl (by decide) (by omega) u7 x7_1 (((rd l0 x8_1) - (Go.bits .and .u8 (Go.bits .and .u8 (rd l0 x8_1) (rd l2 (ji7))) ((255 - (rd l1 x8_1)) % 256))) % 256) [.int .u8 (((rd l0 x8_1) - (Go.bits .and .u8 (Go.bits .and .u8 (rd l0 x8_1) (rd l2 (ji7))) ((255 - (rd l1 x8_1)) % 256))) % 256)] (fun _ => True) (fun _ => False) rfl rfl ?aP (fun _ hk => hk.elim) ?aF ?aO ?aB ?aS ?aL ?_
                      (case aP => exact rfl)
                      (case aB => exact (by repeat (first | (with_reducible first | exact HB.out | apply below_alloc | apply pw_below_drewN | apply below_drew1) | exact HB.out)))
                      (case aF => exact (fun _ _ => trivial))
                      (case aO => exact (by (with_reducible repeat (first | apply Kd.R_alloc | apply Kd.R_drewN | apply Kd.R_drew)); exact HO_7.out))
                      (case aS => exact (below_size (by repeat (first | (with_reducible first | exact HB.out | apply below_alloc | apply pw_below_drewN | apply below_drew1) | exact HB.out))))
                      (case aL => have := LMc12.out; omega)
                      intro v170 w14 ho hb hg hat
                      rw [← Ny169.out] at ho
                      have n0_ := Aside0.mk (hb)
                      have n1_ := Aside0.mk (ho)
                      clear HB
                      clear HO_7
                      have HB := n0_
                      have HO171 := n1_
                      clear n0_ n1_
                      clear ho hb hg hat
                      refine hK.out _ _ ⟨((HB.out.cell (World.block_lt_of_cell? w _ hw166_0)).trans hw166_0), ((HB.out.cell (World.block_lt_of_cell? w _ hw167_0)).trans hw167_0), ((HB.out.cell (World.block_lt_of_cell? w _ hw168_0)).trans hw168_0)⟩ (fun hHeld => ?_)
                      clear hK K
                      refine norm_ (a' := ?_) ?_ ?_
                      rotate_left
                      · show Act.put _ (some 45) _ = _
                        simp only [Act.put, List.setIfInBounds_toArray, List.set_cons_zero, List.set_cons_succ, i64_w, i32_w]
                        rfl
                      refine pure_ (i := 20) (N := some 7) (v := ?_) (a' := ?_) #[true, true, true, true, true, true, true, true, true, true, true, true, true, true, true, true, true, true, true, true, true] rfl rfl (any_of HT_.out (by kernel_rfl)) (fun _ _ _ h => h) (Or.inl ⟨by rfl, ?_⟩) ?_ ?_
                      rotate_left
                      · intro w'
                        go_simp
                        with_reducible rfl
                      rotate_left
                      · simp only [Act.put, List.setIfInBounds_toArray, List.set_cons_zero, List.set_cons_succ, i64_w, i32_w]
                        rfl
                      refine done_ (done_of HT_.out (by kernel_rfl)) ?_
                      try go_wp2
                      go_roundg k1
                      case measure => have := HK1.out; omega
                      case rel => exact ⟨(y169), (wrap64 (x8_1 + 1)), (by first | rfl | (simp; done) | (simp [*]; done)), H', ⟨by have := HK1.out; omega⟩, ⟨by (with_reducible repeat (first | apply Kd.R_alloc | apply Kd.R_drewN | apply Kd.R_drew)); exact HO171.out⟩, ⟨by repeat (first | (with_reducible first | exact HB.out | apply below_alloc | apply pw_below_drewN | apply below_drew1) | exact HB.out)⟩⟩
                    · rw [if_neg c12] at H
                      exact absurd H (by simp)
                  · rw [if_neg c11] at H
                    exact absurd H (by simp)
                · rw [if_neg c10] at H
                  exact absurd H (by simp)
              · rw [if_neg c9] at H
                exact absurd H (by simp)
            · rw [if_neg c8] at H
              exact absurd H (by simp)
        · rw [if_neg c5] at H
          have c5b0 : decide (0 < (l2.length : Int)) = false := decide_eq_false c5
          have c5b1 : decide (0 < l2.length) = false := decide_eq_false (by omega)
          clear c5
          by_cases c15 : 0 ≤ x8_1
          · rw [if_pos c15] at H
            have c15b0 : decide (0 ≤ x8_1) = true := decide_eq_true c15
            clear c15
            by_cases c16 : x8_1 < (l1.length : Int)
            · rw [if_pos c16] at H
              have c16b0 : decide (x8_1 < (l1.length : Int)) = true := decide_eq_true c16
              clear c16
              by_cases c17 : x7_1.length < 140737488355328
              · rw [if_pos c17] at H
                have LMc17 := Aside0.mk c17
                clear c17
                obtain ⟨y175, hy175⟩ : ∃ y_ : List Int, y_ = (x7_1 ++ [((rd l0 x8_1) - (Go.bits .and .u8 (Go.bits .and .u8 (rd l0 x8_1) 0) ((255 - (rd l1 x8_1)) % 256))) % 256]) := ⟨_, rfl⟩
                replace H : (wagtailref14_Part.l0 k1 l0 l1 l2 y175 (wrap64 (x8_1 + 1))) = some r := by first | (rw [hy175]; with_reducible exact H) | (have H2_ := (Option.bind_some _ _).symm.trans H; rw [hy175]; with_reducible exact H2_) | (have H2_ := (Option.bind_some _ _).symm.trans H; with_reducible exact H2_) | with_reducible exact H | (rw [hy175]; exact H) | exact H
                have Ny175 := Aside0.mk hy175
                clear hy175
                have H' := Aside0.mk H
                clear H
                try go_wp2
                have n0_ := Aside0.mk (Kd.R_drew HO_7.out)
                have n1_ := Aside0.mk (below_drew1 HB.out)
                clear HO_7
                clear HB
                have HO_7 := n0_
                have HB := n1_
                clear n0_ n1_
                have p172 : 0 ≤ (x8_1 : Int) := of_decide_eq_true (by first | (with_reducible assumption) | assumption)
                have q172 : x8_1 < (l0.length : Int) := of_decide_eq_true (by first | (with_reducible assumption) | assumption)
                obtain ⟨ad172, e172, hx172_0⟩ := Kd.at_int HR0.out x8_1 p172 q172
                have hw172_0 := hx172_0
                cases e172
                replace hx172_0 := (HB.out.cell (World.block_lt_of_cell? w _ hx172_0)).trans hx172_0
                replace p172 := eq_true p172
                replace q172 := eq_true q172
                have p173 : 0 ≤ (x8_1 : Int) := of_decide_eq_true (by first | (with_reducible assumption) | assumption)
                have q173 : x8_1 < (l0.length : Int) := of_decide_eq_true (by first | (with_reducible assumption) | assumption)
                obtain ⟨ad173, e173, hx173_0⟩ := Kd.at_int HR0.out x8_1 p173 q173
                have hw173_0 := hx173_0
                obtain rfl : ad172 = ad173 := (by injection e173)
                replace hx173_0 := (HB.out.cell (World.block_lt_of_cell? w _ hx173_0)).trans hx173_0
                replace p173 := eq_true p173
                replace q173 := eq_true q173
                have p174 : 0 ≤ (x8_1 : Int) := of_decide_eq_true (by first | (with_reducible assumption) | assumption)
                have q174 : x8_1 < (l1.length : Int) := of_decide_eq_true (by first | (with_reducible assumption) | assumption)
                obtain ⟨ad174, e174, hx174_0⟩ := Kd.at_int HR1.out x8_1 p174 q174
                have hw174_0 := hx174_0
                cases e174
                replace hx174_0 := (HB.out.cell (World.block_lt_of_cell? w _ hx174_0)).trans hx174_0
                replace p174 := eq_true p174
                replace q174 := eq_true q174
                refine start_ (n := 21) (S := fun w' => w'.cell? (ad172.add (x8_1).toNat) = some (.int .u8 (rd l0 x8_1)) ∧ w'.cell? (ad172.add (x8_1).toNat) = some (.int .u8 (rd l0 x8_1)) ∧ w'.cell? (ad174.add (x8_1).toNat) = some (.int .u8 (rd l1 x8_1))) (ds := []) #[false, false, false, false, false, false, false, false, false, false, false, false, false, false, false, false, false, false, false, false, false] (by kernel_rfl) rfl rfl ⟨((HB.out.cell (World.block_lt_of_cell? w _ hw172_0)).trans hw172_0), ((HB.out.cell (World.block_lt_of_cell? w _ hw173_0)).trans hw173_0), ((HB.out.cell (World.block_lt_of_cell? w _ hw174_0)).trans hw174_0)⟩ (fun hHeld => ?_); refine with_tabW wagtailref14_Part.tab8 wagtailref14_Part.bits8 (fun HT_ HW_ => ?_)
                generalize wr.drew = w18 at HO_7 HB hx172_0 hx173_0 hx174_0 hHeld ⊢
                refine pure_ (i := 0) (N := some 26) (v := ?_) (a' := ?_) #[true, false, false, false, false, false, false, false, false, false, false, false, false, false, false, false, false, false, false, false, false] rfl rfl (any_of HT_.out (by kernel_rfl)) (fun _ _ _ h => h) (Or.inl ⟨by rfl, ?_⟩) ?_ ?_
                rotate_left
                · intro w'
                  go_simp
                  with_reducible rfl
                rotate_left
                · simp only [Act.put, List.setIfInBounds_toArray, List.set_cons_zero, List.set_cons_succ, i64_w, i32_w]
                  rfl
                refine pure_ (i := 1) (N := some 27) (v := ?_) (a' := ?_) #[true, true, false, false, false, false, false, false, false, false, false, false, false, false, false, false, false, false, false, false, false] rfl rfl (any_of HT_.out (by kernel_rfl)) (fun _ _ _ h => h) (Or.inl ⟨by rfl, ?_⟩) ?_ ?_
                rotate_left
                · intro w'
                  go_simp
                  with_reducible rfl
                rotate_left
                · simp only [Act.put, List.setIfInBounds_toArray, List.set_cons_zero, List.set_cons_succ, i64_w, i32_w]
                  rfl
                refine pure_ (i := 2) (N := some 28) (v := ?_) (a' := ?_) #[true, true, true, false, false, false, false, false, false, false, false, false, false, false, false, false, false, false, false, false, false] rfl rfl (any_of HT_.out (by kernel_rfl)) (fun _ _ _ h => h) (Or.inl ⟨by rfl, ?_⟩) ?_ ?_
                rotate_left
                · intro w'
                  go_simp
                  with_reducible rfl
                rotate_left
                · simp only [Act.put, List.setIfInBounds_toArray, List.set_cons_zero, List.set_cons_succ, i64_w, i32_w]
                  rfl
                refine pure_ (i := 3) (N := some 29) (v := ?_) (a' := ?_) #[true, true, true, true, false, false, false, false, false, false, false, false, false, false, false, false, false, false, false, false, false] rfl rfl (any_of HT_.out (by kernel_rfl)) (fun _ _ _ h => h) (Or.inl ⟨by rfl, ?_⟩) ?_ ?_
                rotate_left
                · intro w'
                  go_simp
                  with_reducible rfl
                rotate_left
                · simp only [Act.put, List.setIfInBounds_toArray, List.set_cons_zero, List.set_cons_succ, i64_w, i32_w]
                  rfl
                refine pure_ (i := 5) (N := some 31) (v := ?_) (a' := ?_) #[true, true, true, true, false, true, false, false, false, false, false, false, false, false, false, false, false, false, false, false, false] rfl rfl (any_of HT_.out (by kernel_rfl)) (fun _ _ _ h => h) (Or.inl ⟨by rfl, ?_⟩) ?_ ?_
                rotate_left
                · intro w'
                  go_simp
                  with_reducible rfl
                rotate_left
                · simp only [Act.put, List.setIfInBounds_toArray, List.set_cons_zero, List.set_cons_succ, i64_w, i32_w]
                  rfl
                refine pure_ (i := 6) (N := some 32) (v := ?_) (a' := ?_) #[true, true, true, true, false, true, true, false, false, false, false, false, false, false, false, false, false, false, false, false, false] rfl rfl (any_of HT_.out (by kernel_rfl)) (fun _ _ _ h => h) (Or.inl ⟨by rfl, ?_⟩) ?_ ?_
                rotate_left
                · intro w'
                  go_simp
                  with_reducible rfl
                rotate_left
                · simp only [Act.put, List.setIfInBounds_toArray, List.set_cons_zero, List.set_cons_succ, i64_w, i32_w]
                  rfl
                refine pure_ (i := 7) (N := some 33) (v := ?_) (a' := ?_) #[true, true, true, true, false, true, true, true, false, false, false, false, false, false, false, false, false, false, false, false, false] rfl rfl (any_of HT_.out (by kernel_rfl)) (fun _ _ _ h => h) (Or.inl ⟨by rfl, ?_⟩) ?_ ?_
                rotate_left
                · intro w'
                  go_simp
                  with_reducible rfl
                rotate_left
                · simp only [Act.put, List.setIfInBounds_toArray, List.set_cons_zero, List.set_cons_succ, i64_w, i32_w]
                  rfl
                refine pure_ (i := 9) (N := some 35) (v := ?_) (a' := ?_) #[true, true, true, true, false, true, true, true, false, true, false, false, false, false, false, false, false, false, false, false, false] rfl rfl (any_of HT_.out (by kernel_rfl)) (fun _ _ _ h => h) (Or.inl ⟨by rfl, ?_⟩) ?_ ?_
                rotate_left
                · intro w'
                  go_simp
                  with_reducible rfl
                rotate_left
                · simp only [Act.put, List.setIfInBounds_toArray, List.set_cons_zero, List.set_cons_succ, i64_w, i32_w]
                  rfl
                refine pure_ (i := 11) (N := some 37) (v := ?_) (a' := ?_) #[true, true, true, true, false, true, true, true, false, true, false, true, false, false, false, false, false, false, false, false, false] rfl rfl (any_of HT_.out (by kernel_rfl)) (fun _ _ _ h => h) (Or.inl ⟨by rfl, ?_⟩) ?_ ?_
                rotate_left
                · intro w'
                  go_simp
                  with_reducible rfl
                rotate_left
                · simp only [Act.put, List.setIfInBounds_toArray, List.set_cons_zero, List.set_cons_succ, i64_w, i32_w]
                  rfl
                refine pure_ (i := 12) (N := some 38) (v := ?_) (a' := ?_) #[true, true, true, true, false, true, true, true, false, true, false, true, true, false, false, false, false, false, false, false, false] rfl rfl (any_of HT_.out (by kernel_rfl)) (fun _ _ _ h => h) (Or.inl ⟨by rfl, ?_⟩) ?_ ?_
                rotate_left
                · intro w'
                  go_simp
                  with_reducible rfl
                rotate_left
                · simp only [Act.put, List.setIfInBounds_toArray, List.set_cons_zero, List.set_cons_succ, i64_w, i32_w]
                  rfl
                refine pure_ (i := 13) (N := some 39) (v := ?_) (a' := ?_) #[true, true, true, true, false, true, true, true, false, true, false, true, true, true, false, false, false, false, false, false, false] rfl rfl (any_of HT_.out (by kernel_rfl)) (fun _ _ _ h => h) (Or.inl ⟨by rfl, ?_⟩) ?_ ?_
                rotate_left
                · intro w'
                  go_simp
                  with_reducible rfl
                rotate_left
                · simp only [Act.put, List.setIfInBounds_toArray, List.set_cons_zero, List.set_cons_succ, i64_w, i32_w]
                  rfl
                refine take_ (i := 4) (N := some 30) (v := ?_) (a' := ?_) #[true, true, true, true, true, true, true, true, false, true, false, true, true, true, false, false, false, false, false, false, false] rfl rfl (take_ofW HT_.out HW_.out (by kernel_rfl)) (fun _ _ _ h => h) (Or.inl ⟨by rfl, ?_⟩) hHeld ?_ ?_
                rotate_left
                · rintro w' ⟨s0, s1, s2⟩
                  go_simp
                  with_reducible rfl
                rotate_left
                · simp only [Act.put, List.setIfInBounds_toArray, List.set_cons_zero, List.set_cons_succ, i64_w, i32_w]
                  rfl
                refine take_ (i := 8) (N := some 34) (v := ?_) (a' := ?_) #[true, true, true, true, true, true, true, true, true, true, false, true, true, true, false, false, false, false, false, false, false] rfl rfl (take_ofW HT_.out HW_.out (by kernel_rfl)) (fun _ _ _ h => h) (Or.inl ⟨by rfl, ?_⟩) hHeld ?_ ?_
                rotate_left
                · rintro w' ⟨s0, s1, s2⟩
                  go_simp
                  with_reducible rfl
                rotate_left
                · simp only [Act.put, List.setIfInBounds_toArray, List.set_cons_zero, List.set_cons_succ, i64_w, i32_w]
                  rfl
                refine pure_ (i := 10) (N := some 36) (v := ?_) (a' := ?_) #[true, true, true, true, true, true, true, true, true, true, true, true, true, true, false, false, false, false, false, false, false] rfl rfl (any_of HT_.out (by kernel_rfl)) (fun _ _ _ h => h) (Or.inl ⟨by rfl, ?_⟩) ?_ ?_
                rotate_left
                · intro w'
                  go_simp
                  with_reducible rfl
                rotate_left
                · simp only [Act.put, List.setIfInBounds_toArray, List.set_cons_zero, List.set_cons_succ, i64_w, i32_w]
                  rfl
                refine take_ (i := 14) (N := some 40) (v := ?_) (a' := ?_) #[true, true, true, true, true, true, true, true, true, true, true, true, true, true, true, false, false, false, false, false, false] rfl rfl (take_ofW HT_.out HW_.out (by kernel_rfl)) (fun _ _ _ h => h) (Or.inl ⟨by rfl, ?_⟩) hHeld ?_ ?_
                rotate_left
                · rintro w' ⟨s0, s1, s2⟩
                  go_simp
                  with_reducible rfl
                rotate_left
                · simp only [Act.put, List.setIfInBounds_toArray, List.set_cons_zero, List.set_cons_succ, i64_w, i32_w]
                  rfl
                refine pure_ (i := 15) (N := some 41) (v := ?_) (a' := ?_) #[true, true, true, true, true, true, true, true, true, true, true, true, true, true, true, true, false, false, false, false, false] rfl rfl (any_of HT_.out (by kernel_rfl)) (fun _ _ _ h => h) (Or.inl ⟨by rfl, ?_⟩) ?_ ?_
                rotate_left
                · intro w'
                  go_simp
                  with_reducible rfl
                rotate_left
                · simp only [Act.put, List.setIfInBounds_toArray, List.set_cons_zero, List.set_cons_succ, i64_w, i32_w]
                  rfl
                refine pure_ (i := 16) (N := some 42) (v := ?_) (a' := ?_) #[true, true, true, true, true, true, true, true, true, true, true, true, true, true, true, true, true, false, false, false, false] rfl rfl (any_of HT_.out (by kernel_rfl)) (fun _ _ _ h => h) (Or.inl ⟨by rfl, ?_⟩) ?_ ?_
                rotate_left
                · intro w'
                  go_simp
                  with_reducible rfl
                rotate_left
                · simp only [Act.put, List.setIfInBounds_toArray, List.set_cons_zero, List.set_cons_succ, i64_w, i32_w]
                  rfl
                refine pure_ (i := 17) (N := some 43) (v := ?_) (a' := ?_) #[true, true, true, true, true, true, true, true, true, true, true, true, true, true, true, true, true, true, false, false, false] rfl rfl (any_of HT_.out (by kernel_rfl)) (fun _ _ _ h => h) (Or.inl ⟨by rfl, ?_⟩) ?_ ?_
                rotate_left
                · intro w'
                  go_simp
                  with_reducible rfl
                rotate_left
                · simp only [Act.put, List.setIfInBounds_toArray, List.set_cons_zero, List.set_cons_succ, i64_w, i32_w]
                  rfl
                refine one_ (i := 18) (N := some 44) #[true, true, true, true, true, true, true, true, true, true, true, true, true, true, true, true, true, true, true, false, false] rfl rfl (one_of HT_.out (by kernel_rfl)) (by decide) (fun K hK => ?_)
                refine value_ (w1 := ?_) (v := ?_) (by rfl) rfl ?_ ?_
                rotate_left 2
                · go_simp
                  constructor
                  · rfl
                  · rfl
                refine hK.out _ _ ⟨(World.cell?_alloc_lt _ _ _ (World.block_lt_of_cell? _ _ (((HB.out.cell (World.block_lt_of_cell? w _ hw172_0)).trans hw172_0)))).trans (((HB.out.cell (World.block_lt_of_cell? w _ hw172_0)).trans hw172_0)), (World.cell?_alloc_lt _ _ _ (World.block_lt_of_cell? _ _ (((HB.out.cell (World.block_lt_of_cell? w _ hw173_0)).trans hw173_0)))).trans (((HB.out.cell (World.block_lt_of_cell? w _ hw173_0)).trans hw173_0)), (World.cell?_alloc_lt _ _ _ (World.block_lt_of_cell? _ _ (((HB.out.cell (World.block_lt_of_cell? w _ hw174_0)).trans hw174_0)))).trans (((HB.out.cell (World.block_lt_of_cell? w _ hw174_0)).trans hw174_0))⟩ (fun hHeld => ?_)
                clear hK K
                refine norm_ (a' := ?_) ?_ ?_
                rotate_left
                · show Act.put _ (some 44) _ = _
                  simp only [Act.put, List.setIfInBounds_toArray, List.set_cons_zero, List.set_cons_succ, i64_w, i32_w]
                  rfl
                refine one_ (i := 19) (N := some 45) #[true, true, true, true, true, true, true, true, true, true, true, true, true, true, true, true, true, true, true, true, false] rfl rfl (one_of HT_.out (by kernel_rfl)) (by decide) (fun K hK => ?_)
                refine Kd.R_append_step (Kd.int .u8) (w0 := w) w.heap.size (by rfl) (.tmp 26) (.tmp 44) 38 5 (.int .u8 0) 1 rfl Try.underlying38 info5 rfl (by decide) (by omega) u7 x7_1 (((rd l0 x8_1) - (Go.bits .and .u8 (Go.bits .and .u8 (rd l0 x8_1) 0) ((255 - (rd l1 x8_1)) % 256))) % 256) [.int .u8 (((rd l0 x8_1) - (Go.bits .and .u8 (Go.bits .and .u8 (rd l0 x8_1) 0) ((255 - (rd l1 x8_1)) % 256))) % 256)] (fun _ => True) (fun _ => False) rfl rfl ?aP (fun _ hk => hk.elim) ?aF ?aO ?aB ?aS ?aL ?_
                (case aP => exact rfl)
                (case aB => exact (by repeat (first | (with_reducible first | exact HB.out | apply below_alloc | apply pw_below_drewN | apply below_drew1) | exact HB.out)))
                (case aF => exact (fun _ _ => trivial))
                (case aO => exact (by (with_reducible repeat (first | apply Kd.R_alloc | apply Kd.R_drewN | apply Kd.R_drew)); exact HO_7.out))
                (case aS => exact (below_size (by repeat (first | (with_reducible first | exact HB.out | apply below_alloc | apply pw_below_drewN | apply below_drew1) | exact HB.out))))
                (case aL => have := LMc17.out; omega)
                intro v176 w19 ho hb hg hat
                rw [← Ny175.out] at ho
                have n0_ := Aside0.mk (hb)
                have n1_ := Aside0.mk (ho)
                clear HB
                clear HO_7
                have HB := n0_
                have HO177 := n1_
                clear n0_ n1_
                clear ho hb hg hat
                refine hK.out _ _ ⟨((HB.out.cell (World.block_lt_of_cell? w _ hw172_0)).trans hw172_0), ((HB.out.cell (World.block_lt_of_cell? w _ hw173_0)).trans hw173_0), ((HB.out.cell (World.block_lt_of_cell? w _ hw174_0)).trans hw174_0)⟩ (fun hHeld => ?_)
                clear hK K
                refine norm_ (a' := ?_) ?_ ?_
                rotate_left
                · show Act.put _ (some 45) _ = _
                  simp only [Act.put, List.setIfInBounds_toArray, List.set_cons_zero, List.set_cons_succ, i64_w, i32_w]
                  rfl
                refine pure_ (i := 20) (N := some 7) (v := ?_) (a' := ?_) #[true, true, true, true, true, true, true, true, true, true, true, true, true, true, true, true, true, true, true, true, true] rfl rfl (any_of HT_.out (by kernel_rfl)) (fun _ _ _ h => h) (Or.inl ⟨by rfl, ?_⟩) ?_ ?_
                rotate_left
                · intro w'
                  go_simp
                  with_reducible rfl
                rotate_left
                · simp only [Act.put, List.setIfInBounds_toArray, List.set_cons_zero, List.set_cons_succ, i64_w, i32_w]
                  rfl
                refine done_ (done_of HT_.out (by kernel_rfl)) ?_
                try go_wp2
                go_roundg k1
                case measure => have := HK1.out; omega
                case rel => exact ⟨(y175), (wrap64 (x8_1 + 1)), (by first | rfl | (simp; done) | (simp [*]; done)), H', ⟨by have := HK1.out; omega⟩, ⟨by (with_reducible repeat (first | apply Kd.R_alloc | apply Kd.R_drewN | apply Kd.R_drew)); exact HO177.out⟩, ⟨by repeat (first | (with_reducible first | exact HB.out | apply below_alloc | apply pw_below_drewN | apply below_drew1) | exact HB.out)⟩⟩
              · rw [if_neg c17] at H
                exact absurd H (by simp)
            · rw [if_neg c16] at H
              exact absurd H (by simp)
          · rw [if_neg c15] at H
            exact absurd H (by simp)
      · rw [if_neg c4] at H
        have c4b0 : decide (x8_1 < (l0.length : Int)) = false := decide_eq_false c4
        clear c4
        obtain rfl := Option.some.inj H
        go_wp2
        go_ret
        exact ⟨_, by first | rfl | (simp [errW_none, errW_some] <;> rfl) | (simp [*, errW_none, errW_some] <;> rfl), by (with_reducible repeat (first | apply Kd.R_alloc | apply Kd.R_drewN | apply Kd.R_drew)); exact HO_7.out, by repeat (first | (with_reducible first | exact HB.out | apply below_alloc | apply pw_below_drewN | apply below_drew1) | exact HB.out)⟩
end Go.Proofs.Ytnchdmidaigheaa.Hp
namespace Go.Proofs.Ytnchdmidaigheaa.Hp
open Go.RowKit Go.Proofs.YtnchdmidaigheaaW.PrintWords Go.Proofs.YtnchdmidaigheaaW.PrintLast Go.Proofs.YtnchdmidaigheaaW.PrintMore
attribute [local go_sem] max2_int min2_int max_two min_two max_three min_three max_four min_four   -- for this text's walks alone
set_option linter.unusedVariables false
set_option linter.unusedSimpArgs false
def IsS54 (w0 W : World) (g : Nat) (f0 : Int) (f1 : Int) (f2 : Int) (f3 : List Int) (f4 : List ByteArray) (f5 : List Int) (f6 : List Int) (f7 : List (S65)) (f8 : Int) (f9 : Bool) : Prop := ∃ A3 c3, ∃ A4 c4, ∃ A5 c5, ∃ A6 c6, ∃ A7 c7, W.heap[g]? = some (.cells #[.int .i64 f0, .int .i64 f1, .int .i64 f2, .slice A3 f3.length c3, .slice A4 f4.length c4, .slice A5 f5.length c5, .slice A6 f6.length c6, .slice A7 f7.length c7, .int .i64 f8, .bool f9] 54 (0, 0)) ∧ w0.heap.size ≤ g ∧ Kd.C (Kd.int .i64) w0 A3 f3.length f3 ∧ Kd.C Kd.string w0 A4 f4.length f4 ∧ Kd.C (Kd.int .i64) w0 A5 f5.length f5 ∧ Kd.C (Kd.int .i64) w0 A6 f6.length f6 ∧ Kd.C k65 w0 A7 f7.length f7
theorem IsS54.grown {w0 W : World} {g : Nat} {f0 : Int} {f1 : Int} {f2 : Int} {f3 : List Int} {f4 : List ByteArray} {f5 : List Int} {f6 : List Int} {f7 : List (S65)} {f8 : Int} {f9 : Bool} {W1 : World} {row : Option Nat} (h : IsS54 w0 W g f0 f1 f2 f3 f4 f5 f6 f7 f8 f9) (hw : W.grownBy W1 row) (hne : some g ≠ row) : IsS54 w0 W1 g f0 f1 f2 f3 f4 f5 f6 f7 f8 f9 := by
  obtain ⟨A3, c3, A4, c4, A5, c5, A6, c6, A7, c7, hb, hg, hr3, hr4, hr5, hr6, hr7⟩ := h
  exact ⟨A3, c3, A4, c4, A5, c5, A6, c6, A7, c7, blk_grown hb hw hne, hg, hr3, hr4, hr5, hr6, hr7⟩
theorem IsS54.kept {w0 W : World} {g : Nat} {f0 : Int} {f1 : Int} {f2 : Int} {f3 : List Int} {f4 : List ByteArray} {f5 : List Int} {f6 : List Int} {f7 : List (S65)} {f8 : Int} {f9 : Bool} {W1 : World} {S : Nat → Prop} (h : IsS54 w0 W g f0 f1 f2 f3 f4 f5 f6 f7 f8 f9) (hk : Kept W W1 S) (hne : ¬ S g) : IsS54 w0 W1 g f0 f1 f2 f3 f4 f5 f6 f7 f8 f9 := by
  obtain ⟨A3, c3, A4, c4, A5, c5, A6, c6, A7, c7, hb, hg, hr3, hr4, hr5, hr6, hr7⟩ := h
  exact ⟨A3, c3, A4, c4, A5, c5, A6, c6, A7, c7, blk_kept hb hk hne, hg, hr3, hr4, hr5, hr6, hr7⟩
theorem IsS54.below {w0 W : World} {g : Nat} {f0 : Int} {f1 : Int} {f2 : Int} {f3 : List Int} {f4 : List ByteArray} {f5 : List Int} {f6 : List Int} {f7 : List (S65)} {f8 : Int} {f9 : Bool} {W1 : World} (h : IsS54 w0 W g f0 f1 f2 f3 f4 f5 f6 f7 f8 f9) (hw : Below W.heap.size W W1) : IsS54 w0 W1 g f0 f1 f2 f3 f4 f5 f6 f7 f8 f9 := h.grown (grown_of_below hw none) (by simp)
theorem IsS54.alloc {w0 W : World} {g : Nat} {f0 : Int} {f1 : Int} {f2 : Int} {f3 : List Int} {f4 : List ByteArray} {f5 : List Int} {f6 : List Int} {f7 : List (S65)} {f8 : Int} {f9 : Bool} (h : IsS54 w0 W g f0 f1 f2 f3 f4 f5 f6 f7 f8 f9) (o : Obj) : IsS54 w0 (W.alloc o) g f0 f1 f2 f3 f4 f5 f6 f7 f8 f9 := h.below (below_alloc (Below.refl _ _) o)
theorem IsS54.drewN {w0 W : World} {g : Nat} {f0 : Int} {f1 : Int} {f2 : Int} {f3 : List Int} {f4 : List ByteArray} {f5 : List Int} {f6 : List Int} {f7 : List (S65)} {f8 : Int} {f9 : Bool} (h : IsS54 w0 W g f0 f1 f2 f3 f4 f5 f6 f7 f8 f9) (m : Nat) : IsS54 w0 (W.drewN m) g f0 f1 f2 f3 f4 f5 f6 f7 f8 f9 := h
theorem IsS54.drew {w0 W : World} {g : Nat} {f0 : Int} {f1 : Int} {f2 : Int} {f3 : List Int} {f4 : List ByteArray} {f5 : List Int} {f6 : List Int} {f7 : List (S65)} {f8 : Int} {f9 : Bool} (h : IsS54 w0 W g f0 f1 f2 f3 f4 f5 f6 f7 f8 f9) : IsS54 w0 W.drew g f0 f1 f2 f3 f4 f5 f6 f7 f8 f9 := h
theorem IsS54.at_ {w0 W : World} {g : Nat} {f0 : Int} {f1 : Int} {f2 : Int} {f3 : List Int} {f4 : List ByteArray} {f5 : List Int} {f6 : List Int} {f7 : List (S65)} {f8 : Int} {f9 : Bool} {w' : World} {m : Nat} (hq : W.drewN m = w') (h : IsS54 w0 W g f0 f1 f2 f3 f4 f5 f6 f7 f8 f9) : IsS54 w0 w' g f0 f1 f2 f3 f4 f5 f6 f7 f8 f9 := by subst hq; exact IsS54.drewN h m
theorem IsS54.apart {w0 W : World} {g : Nat} {f0 : Int} {f1 : Int} {f2 : Int} {f3 : List Int} {f4 : List ByteArray} {f5 : List Int} {f6 : List Int} {f7 : List (S65)} {f8 : Int} {f9 : Bool} {α : Type} {d : Kd α} {e : Nat} {base : Nat} {ok : Nat → Prop} {v : Value} {xs : List α} (h : IsS54 w0 W g f0 f1 f2 f3 f4 f5 f6 f7 f8 f9) (ho : d.R e W base ok v xs) (ht : ∀ q, q ∈ e :: d.E → q ≠ 54) : d.R e W base (fun k => ok k ∧ k ≠ g) v xs := by
  obtain ⟨A3, c3, A4, c4, A5, c5, A6, c6, A7, c7, hb, hg, hr3, hr4, hr5, hr6, hr7⟩ := h
  exact Kd.R_types ho hb ht
theorem IsS54.own_ne {w0 W : World} {g : Nat} {f0 : Int} {f1 : Int} {f2 : Int} {f3 : List Int} {f4 : List ByteArray} {f5 : List Int} {f6 : List Int} {f7 : List (S65)} {f8 : Int} {f9 : Bool} {α : Type} {d : Kd α} {e : Nat} {base : Nat} {ok : Nat → Prop} {v : Value} {xs : List α} (h : IsS54 w0 W g f0 f1 f2 f3 f4 f5 f6 f7 f8 f9) (ho : d.R e W base ok v xs) (ht : e ≠ 54) : some g ≠ v.ownBlock := by
  obtain ⟨A3, c3, A4, c4, A5, c5, A6, c6, A7, c7, hb, hg, hr3, hr4, hr5, hr6, hr7⟩ := h
  exact Kd.R_ne ho hb ht
theorem IsS54.lt {w0 W : World} {g : Nat} {f0 : Int} {f1 : Int} {f2 : Int} {f3 : List Int} {f4 : List ByteArray} {f5 : List Int} {f6 : List Int} {f7 : List (S65)} {f8 : Int} {f9 : Bool} (h : IsS54 w0 W g f0 f1 f2 f3 f4 f5 f6 f7 f8 f9) : g < W.heap.size := by
  obtain ⟨A3, c3, A4, c4, A5, c5, A6, c6, A7, c7, hb, hg, hr3, hr4, hr5, hr6, hr7⟩ := h
  exact blk_lt hb
theorem IsS54.ge {w0 W : World} {g : Nat} {f0 : Int} {f1 : Int} {f2 : Int} {f3 : List Int} {f4 : List ByteArray} {f5 : List Int} {f6 : List Int} {f7 : List (S65)} {f8 : Int} {f9 : Bool} (h : IsS54 w0 W g f0 f1 f2 f3 f4 f5 f6 f7 f8 f9) : w0.heap.size ≤ g := by
  obtain ⟨A3, c3, A4, c4, A5, c5, A6, c6, A7, c7, hb, hg, hr3, hr4, hr5, hr6, hr7⟩ := h
  exact hg
theorem IsS54.far {w0 W : World} {g : Nat} {f0 : Int} {f1 : Int} {f2 : Int} {f3 : List Int} {f4 : List ByteArray} {f5 : List Int} {f6 : List Int} {f7 : List (S65)} {f8 : Int} {f9 : Bool} {p : Addr} (h : IsS54 w0 W g f0 f1 f2 f3 f4 f5 f6 f7 f8 f9) (hne : g ≠ p.block) (u : Value) : IsS54 w0 (W.setCell p u) g f0 f1 f2 f3 f4 f5 f6 f7 f8 f9 := by
  obtain ⟨A3, c3, A4, c4, A5, c5, A6, c6, A7, c7, hb, hg, hr3, hr4, hr5, hr6, hr7⟩ := h
  exact ⟨A3, c3, A4, c4, A5, c5, A6, c6, A7, c7, blk_far hb hne u, hg, hr3, hr4, hr5, hr6, hr7⟩
theorem cellS54_0 {W : World} {g : Nat} {A3 : Option Addr} {c3 : Nat} {A4 : Option Addr} {c4 : Nat} {A5 : Option Addr} {c5 : Nat} {A6 : Option Addr} {c6 : Nat} {A7 : Option Addr} {c7 : Nat} {f0 : Int} {f1 : Int} {f2 : Int} {f3 : List Int} {f4 : List ByteArray} {f5 : List Int} {f6 : List Int} {f7 : List (S65)} {f8 : Int} {f9 : Bool} (h : W.heap[g]? = some (.cells #[.int .i64 f0, .int .i64 f1, .int .i64 f2, .slice A3 f3.length c3, .slice A4 f4.length c4, .slice A5 f5.length c5, .slice A6 f6.length c6, .slice A7 f7.length c7, .int .i64 f8, .bool f9] 54 (0, 0))) : W.cell? ⟨g, 0, none⟩ = some (.int .i64 f0) := (blk_cell h 0).trans rfl
theorem IsS54.set_0 {w0 W : World} {g : Nat} {f0 : Int} {f1 : Int} {f2 : Int} {f3 : List Int} {f4 : List ByteArray} {f5 : List Int} {f6 : List Int} {f7 : List (S65)} {f8 : Int} {f9 : Bool} (h : IsS54 w0 W g f0 f1 f2 f3 f4 f5 f6 f7 f8 f9) (x : Int) : IsS54 w0 (W.setCell ⟨g, 0, none⟩ (.int .i64 x)) g x f1 f2 f3 f4 f5 f6 f7 f8 f9 := by
  obtain ⟨A3, c3, A4, c4, A5, c5, A6, c6, A7, c7, hb, hg, hr3, hr4, hr5, hr6, hr7⟩ := h
  exact ⟨A3, c3, A4, c4, A5, c5, A6, c6, A7, c7, by simpa using blk_set hb 0 (.int .i64 x), hg, hr3, hr4, hr5, hr6, hr7⟩
theorem cellS54_1 {W : World} {g : Nat} {A3 : Option Addr} {c3 : Nat} {A4 : Option Addr} {c4 : Nat} {A5 : Option Addr} {c5 : Nat} {A6 : Option Addr} {c6 : Nat} {A7 : Option Addr} {c7 : Nat} {f0 : Int} {f1 : Int} {f2 : Int} {f3 : List Int} {f4 : List ByteArray} {f5 : List Int} {f6 : List Int} {f7 : List (S65)} {f8 : Int} {f9 : Bool} (h : W.heap[g]? = some (.cells #[.int .i64 f0, .int .i64 f1, .int .i64 f2, .slice A3 f3.length c3, .slice A4 f4.length c4, .slice A5 f5.length c5, .slice A6 f6.length c6, .slice A7 f7.length c7, .int .i64 f8, .bool f9] 54 (0, 0))) : W.cell? ⟨g, 1, none⟩ = some (.int .i64 f1) := (blk_cell h 1).trans rfl
theorem IsS54.set_1 {w0 W : World} {g : Nat} {f0 : Int} {f1 : Int} {f2 : Int} {f3 : List Int} {f4 : List ByteArray} {f5 : List Int} {f6 : List Int} {f7 : List (S65)} {f8 : Int} {f9 : Bool} (h : IsS54 w0 W g f0 f1 f2 f3 f4 f5 f6 f7 f8 f9) (x : Int) : IsS54 w0 (W.setCell ⟨g, 1, none⟩ (.int .i64 x)) g f0 x f2 f3 f4 f5 f6 f7 f8 f9 := by
  obtain ⟨A3, c3, A4, c4, A5, c5, A6, c6, A7, c7, hb, hg, hr3, hr4, hr5, hr6, hr7⟩ := h
  exact ⟨A3, c3, A4, c4, A5, c5, A6, c6, A7, c7, by simpa using blk_set hb 1 (.int .i64 x), hg, hr3, hr4, hr5, hr6, hr7⟩
theorem cellS54_2 {W : World} {g : Nat} {A3 : Option Addr} {c3 : Nat} {A4 : Option Addr} {c4 : Nat} {A5 : Option Addr} {c5 : Nat} {A6 : Option Addr} {c6 : Nat} {A7 : Option Addr} {c7 : Nat} {f0 : Int} {f1 : Int} {f2 : Int} {f3 : List Int} {f4 : List ByteArray} {f5 : List Int} {f6 : List Int} {f7 : List (S65)} {f8 : Int} {f9 : Bool} (h : W.heap[g]? = some (.cells #[.int .i64 f0, .int .i64 f1, .int .i64 f2, .slice A3 f3.length c3, .slice A4 f4.length c4, .slice A5 f5.length c5, .slice A6 f6.length c6, .slice A7 f7.length c7, .int .i64 f8, .bool f9] 54 (0, 0))) : W.cell? ⟨g, 2, none⟩ = some (.int .i64 f2) := (blk_cell h 2).trans rfl
theorem IsS54.set_2 {w0 W : World} {g : Nat} {f0 : Int} {f1 : Int} {f2 : Int} {f3 : List Int} {f4 : List ByteArray} {f5 : List Int} {f6 : List Int} {f7 : List (S65)} {f8 : Int} {f9 : Bool} (h : IsS54 w0 W g f0 f1 f2 f3 f4 f5 f6 f7 f8 f9) (x : Int) : IsS54 w0 (W.setCell ⟨g, 2, none⟩ (.int .i64 x)) g f0 f1 x f3 f4 f5 f6 f7 f8 f9 := by
  obtain ⟨A3, c3, A4, c4, A5, c5, A6, c6, A7, c7, hb, hg, hr3, hr4, hr5, hr6, hr7⟩ := h
  exact ⟨A3, c3, A4, c4, A5, c5, A6, c6, A7, c7, by simpa using blk_set hb 2 (.int .i64 x), hg, hr3, hr4, hr5, hr6, hr7⟩
theorem cellS54_3 {W : World} {g : Nat} {A3 : Option Addr} {c3 : Nat} {A4 : Option Addr} {c4 : Nat} {A5 : Option Addr} {c5 : Nat} {A6 : Option Addr} {c6 : Nat} {A7 : Option Addr} {c7 : Nat} {f0 : Int} {f1 : Int} {f2 : Int} {f3 : List Int} {f4 : List ByteArray} {f5 : List Int} {f6 : List Int} {f7 : List (S65)} {f8 : Int} {f9 : Bool} (h : W.heap[g]? = some (.cells #[.int .i64 f0, .int .i64 f1, .int .i64 f2, .slice A3 f3.length c3, .slice A4 f4.length c4, .slice A5 f5.length c5, .slice A6 f6.length c6, .slice A7 f7.length c7, .int .i64 f8, .bool f9] 54 (0, 0))) : W.cell? ⟨g, 3, none⟩ = some (.slice A3 f3.length c3) := (blk_cell h 3).trans rfl
theorem cellS54_4 {W : World} {g : Nat} {A3 : Option Addr} {c3 : Nat} {A4 : Option Addr} {c4 : Nat} {A5 : Option Addr} {c5 : Nat} {A6 : Option Addr} {c6 : Nat} {A7 : Option Addr} {c7 : Nat} {f0 : Int} {f1 : Int} {f2 : Int} {f3 : List Int} {f4 : List ByteArray} {f5 : List Int} {f6 : List Int} {f7 : List (S65)} {f8 : Int} {f9 : Bool} (h : W.heap[g]? = some (.cells #[.int .i64 f0, .int .i64 f1, .int .i64 f2, .slice A3 f3.length c3, .slice A4 f4.length c4, .slice A5 f5.length c5, .slice A6 f6.length c6, .slice A7 f7.length c7, .int .i64 f8, .bool f9] 54 (0, 0))) : W.cell? ⟨g, 4, none⟩ = some (.slice A4 f4.length c4) := (blk_cell h 4).trans rfl
theorem cellS54_5 {W : World} {g : Nat} {A3 : Option Addr} {c3 : Nat} {A4 : Option Addr} {c4 : Nat} {A5 : Option Addr} {c5 : Nat} {A6 : Option Addr} {c6 : Nat} {A7 : Option Addr} {c7 : Nat} {f0 : Int} {f1 : Int} {f2 : Int} {f3 : List Int} {f4 : List ByteArray} {f5 : List Int} {f6 : List Int} {f7 : List (S65)} {f8 : Int} {f9 : Bool} (h : W.heap[g]? = some (.cells #[.int .i64 f0, .int .i64 f1, .int .i64 f2, .slice A3 f3.length c3, .slice A4 f4.length c4, .slice A5 f5.length c5, .slice A6 f6.length c6, .slice A7 f7.length c7, .int .i64 f8, .bool f9] 54 (0, 0))) : W.cell? ⟨g, 5, none⟩ = some (.slice A5 f5.length c5) := (blk_cell h 5).trans rfl
theorem cellS54_6 {W : World} {g : Nat} {A3 : Option Addr} {c3 : Nat} {A4 : Option Addr} {c4 : Nat} {A5 : Option Addr} {c5 : Nat} {A6 : Option Addr} {c6 : Nat} {A7 : Option Addr} {c7 : Nat} {f0 : Int} {f1 : Int} {f2 : Int} {f3 : List Int} {f4 : List ByteArray} {f5 : List Int} {f6 : List Int} {f7 : List (S65)} {f8 : Int} {f9 : Bool} (h : W.heap[g]? = some (.cells #[.int .i64 f0, .int .i64 f1, .int .i64 f2, .slice A3 f3.length c3, .slice A4 f4.length c4, .slice A5 f5.length c5, .slice A6 f6.length c6, .slice A7 f7.length c7, .int .i64 f8, .bool f9] 54 (0, 0))) : W.cell? ⟨g, 6, none⟩ = some (.slice A6 f6.length c6) := (blk_cell h 6).trans rfl
theorem cellS54_7 {W : World} {g : Nat} {A3 : Option Addr} {c3 : Nat} {A4 : Option Addr} {c4 : Nat} {A5 : Option Addr} {c5 : Nat} {A6 : Option Addr} {c6 : Nat} {A7 : Option Addr} {c7 : Nat} {f0 : Int} {f1 : Int} {f2 : Int} {f3 : List Int} {f4 : List ByteArray} {f5 : List Int} {f6 : List Int} {f7 : List (S65)} {f8 : Int} {f9 : Bool} (h : W.heap[g]? = some (.cells #[.int .i64 f0, .int .i64 f1, .int .i64 f2, .slice A3 f3.length c3, .slice A4 f4.length c4, .slice A5 f5.length c5, .slice A6 f6.length c6, .slice A7 f7.length c7, .int .i64 f8, .bool f9] 54 (0, 0))) : W.cell? ⟨g, 7, none⟩ = some (.slice A7 f7.length c7) := (blk_cell h 7).trans rfl
theorem cellS54_8 {W : World} {g : Nat} {A3 : Option Addr} {c3 : Nat} {A4 : Option Addr} {c4 : Nat} {A5 : Option Addr} {c5 : Nat} {A6 : Option Addr} {c6 : Nat} {A7 : Option Addr} {c7 : Nat} {f0 : Int} {f1 : Int} {f2 : Int} {f3 : List Int} {f4 : List ByteArray} {f5 : List Int} {f6 : List Int} {f7 : List (S65)} {f8 : Int} {f9 : Bool} (h : W.heap[g]? = some (.cells #[.int .i64 f0, .int .i64 f1, .int .i64 f2, .slice A3 f3.length c3, .slice A4 f4.length c4, .slice A5 f5.length c5, .slice A6 f6.length c6, .slice A7 f7.length c7, .int .i64 f8, .bool f9] 54 (0, 0))) : W.cell? ⟨g, 8, none⟩ = some (.int .i64 f8) := (blk_cell h 8).trans rfl
theorem IsS54.set_8 {w0 W : World} {g : Nat} {f0 : Int} {f1 : Int} {f2 : Int} {f3 : List Int} {f4 : List ByteArray} {f5 : List Int} {f6 : List Int} {f7 : List (S65)} {f8 : Int} {f9 : Bool} (h : IsS54 w0 W g f0 f1 f2 f3 f4 f5 f6 f7 f8 f9) (x : Int) : IsS54 w0 (W.setCell ⟨g, 8, none⟩ (.int .i64 x)) g f0 f1 f2 f3 f4 f5 f6 f7 x f9 := by
  obtain ⟨A3, c3, A4, c4, A5, c5, A6, c6, A7, c7, hb, hg, hr3, hr4, hr5, hr6, hr7⟩ := h
  exact ⟨A3, c3, A4, c4, A5, c5, A6, c6, A7, c7, by simpa using blk_set hb 8 (.int .i64 x), hg, hr3, hr4, hr5, hr6, hr7⟩
theorem cellS54_9 {W : World} {g : Nat} {A3 : Option Addr} {c3 : Nat} {A4 : Option Addr} {c4 : Nat} {A5 : Option Addr} {c5 : Nat} {A6 : Option Addr} {c6 : Nat} {A7 : Option Addr} {c7 : Nat} {f0 : Int} {f1 : Int} {f2 : Int} {f3 : List Int} {f4 : List ByteArray} {f5 : List Int} {f6 : List Int} {f7 : List (S65)} {f8 : Int} {f9 : Bool} (h : W.heap[g]? = some (.cells #[.int .i64 f0, .int .i64 f1, .int .i64 f2, .slice A3 f3.length c3, .slice A4 f4.length c4, .slice A5 f5.length c5, .slice A6 f6.length c6, .slice A7 f7.length c7, .int .i64 f8, .bool f9] 54 (0, 0))) : W.cell? ⟨g, 9, none⟩ = some (.bool f9) := (blk_cell h 9).trans rfl
theorem IsS54.set_9 {w0 W : World} {g : Nat} {f0 : Int} {f1 : Int} {f2 : Int} {f3 : List Int} {f4 : List ByteArray} {f5 : List Int} {f6 : List Int} {f7 : List (S65)} {f8 : Int} {f9 : Bool} (h : IsS54 w0 W g f0 f1 f2 f3 f4 f5 f6 f7 f8 f9) (x : Bool) : IsS54 w0 (W.setCell ⟨g, 9, none⟩ (.bool x)) g f0 f1 f2 f3 f4 f5 f6 f7 f8 x := by
  obtain ⟨A3, c3, A4, c4, A5, c5, A6, c6, A7, c7, hb, hg, hr3, hr4, hr5, hr6, hr7⟩ := h
  exact ⟨A3, c3, A4, c4, A5, c5, A6, c6, A7, c7, by simpa using blk_set hb 9 (.bool x), hg, hr3, hr4, hr5, hr6, hr7⟩
def wagtailref14_Dev_Here.f (s0_0 : Int) (s0_1 : Int) (s0_2 : Int) (s0_3 : List Int) (s0_4 : List ByteArray) (s0_5 : List Int) (s0_6 : List Int) (s0_7 : List (S65)) (s0_8 : Int) (s0_9 : Bool) (a1_0 : Int) (a1_1 : Int) : Option (Bool × Int × Int × Int × Int × Bool) := if a1_0 ≥ 0 then (if a1_0 < s0_0 then (if a1_1 ≥ 0 then (some (decide (a1_1 < s0_1), s0_0, s0_1, s0_2, s0_8, s0_9)) else (some (false, s0_0, s0_1, s0_2, s0_8, s0_9))) else (some (false, s0_0, s0_1, s0_2, s0_8, s0_9))) else (some (false, s0_0, s0_1, s0_2, s0_8, s0_9))
set_option maxHeartbeats 8000000 in
set_option maxRecDepth 100000 in
theorem wagtailref14_Dev_Here.calls (g : Nat) (s0_0 : Int) (s0_1 : Int) (s0_2 : Int) (s0_3 : List Int) (s0_4 : List ByteArray) (s0_5 : List Int) (s0_6 : List Int) (s0_7 : List (S65)) (s0_8 : Int) (s0_9 : Bool) (a1_0 : Int) (a1_1 : Int) (r1 : Bool) (r2 : Int) (r3 : Int) (r4 : Int) (r5 : Int) (r6 : Bool) (w0 w : World) (hI : IsS54 w0 w g s0_0 s0_1 s0_2 s0_3 s0_4 s0_5 s0_6 s0_7 s0_8 s0_9) (hB : Below w0.heap.size w0 w) (h : wagtailref14_Dev_Here.f s0_0 s0_1 s0_2 s0_3 s0_4 s0_5 s0_6 s0_7 s0_8 s0_9 a1_0 a1_1 = some (r1, r2, r3, r4, r5, r6)) :
    Calls Try.prog 74 #[.pointer (some ⟨g, 0, none⟩), .agg #[.int .i64 a1_0, .int .i64 a1_1]] w fun e w' => e = .returned (.bool r1) ∧ IsS54 w0 w' g r2 r3 r4 s0_3 s0_4 s0_5 s0_6 s0_7 r5 r6 ∧ Below w0.heap.size w0 w' ∧ KeepBut w w' g none := by
  have hu37 := Try.underlying37
  have HI0 := Aside0.mk hI
  have HK := Aside0.mk (KeepBut.refl w g none)
  have HL := Aside0.mk hB.size
  clear hI
  have HW0 := Aside0.mk hB.size
  have HB := Aside0.mk hB
  clear hB
  have H : (if a1_0 ≥ 0 then (if a1_0 < s0_0 then (if a1_1 ≥ 0 then (some (decide (a1_1 < s0_1), s0_0, s0_1, s0_2, s0_8, s0_9)) else (some (false, s0_0, s0_1, s0_2, s0_8, s0_9))) else (some (false, s0_0, s0_1, s0_2, s0_8, s0_9))) else (some (false, s0_0, s0_1, s0_2, s0_8, s0_9))) = some (r1, r2, r3, r4, r5, r6) := h
  clear h
  by_cases c3 : a1_0 ≥ 0
  · rw [if_pos c3] at H
    have c3b0 : decide (0 ≤ a1_0) = true := decide_eq_true c3
    clear c3
    by_cases c4 : a1_0 < s0_0
    · rw [if_pos c4] at H
      have c4b0 : decide (a1_0 < s0_0) = true := decide_eq_true c4
      clear c4
      by_cases c5 : a1_1 ≥ 0
      · rw [if_pos c5] at H
        have c5b0 : decide (0 ≤ a1_1) = true := decide_eq_true c5
        clear c5
        simp only [Option.some.injEq, Prod.mk.injEq] at H
        obtain ⟨rfl, rfl, rfl, rfl, rfl, rfl⟩ := H
        go_enter Try.func74, Try.ntmps74
        go_wp2_with (first | ((with_reducible refine gate_dst (N := 3) rfl ?_); refine box_event ?hg (N := 3) ?hd (cs := #[.int .i64 a1_0, .int .i64 a1_1]) (t := 37) ?hr ?_; (case hd => rfl); (case hg => rfl); (case hr => first | (go_simp; done) | (go_simp; rfl)); intro gb159 hg w6 hbox hb; have n0_ := Aside0.mk (IsS54.below (by repeat (first | (with_reducible first | exact HI0.out | apply IsS54.alloc | apply IsS54.drewN | apply IsS54.drew | apply IsS54.set_0 | apply IsS54.set_1 | apply IsS54.set_2 | apply IsS54.set_8 | apply IsS54.set_9) | exact HI0.out)) hb); have n1_ := Aside0.mk (KeepBut.trans (by repeat (first | (with_reducible first | exact HK.out | apply KeepBut.set_ | apply keep_drewN | apply keep_drew | apply keep_alloc) | exact HK.out)) (KeepBut.of_below hb g none) (.inl rfl)); have n2_ := Aside0.mk (below_step (by repeat (first | (with_reducible first | exact HB.out | apply below_alloc | apply pw_below_drewN | apply below_drew1 | refine below_set ?_ (IsS54.ge HI0.out)) | exact HB.out)) hb); have n3_ := Aside0.mk (hbox); have n4_ := Aside0.mk ((by rw [hg]; exact (keep_size (w := w) (g := g) (row := none) (by repeat (first | (with_reducible first | exact HK.out | apply KeepBut.set_ | apply keep_drewN | apply keep_drew | apply keep_alloc) | exact HK.out))) : w.heap.size ≤ gb159)); have n5_ := Aside0.mk ((Nat.le_trans HW0.out (by rw [hg]; exact (keep_size (w := w) (g := g) (row := none) (by repeat (first | (with_reducible first | exact HK.out | apply KeepBut.set_ | apply keep_drewN | apply keep_drew | apply keep_alloc) | exact HK.out))) : w.heap.size ≤ gb159) : w0.heap.size ≤ gb159)); have n6_ := Aside0.mk ((by rw [hg]; exact Nat.ne_of_lt (IsS54.lt (show IsS54 w0 _ g s0_0 s0_1 s0_2 s0_3 s0_4 s0_5 s0_6 s0_7 s0_8 s0_9 from by repeat (first | (with_reducible first | exact HI0.out | apply IsS54.alloc | apply IsS54.drewN | apply IsS54.drew | apply IsS54.set_0 | apply IsS54.set_1 | apply IsS54.set_2 | apply IsS54.set_8 | apply IsS54.set_9) | exact HI0.out))) : g ≠ gb159)); have n7_ := Aside0.mk ((by rw [hg]; exact Nat.ne_of_gt (IsS54.lt (show IsS54 w0 _ g s0_0 s0_1 s0_2 s0_3 s0_4 s0_5 s0_6 s0_7 s0_8 s0_9 from by repeat (first | (with_reducible first | exact HI0.out | apply IsS54.alloc | apply IsS54.drewN | apply IsS54.drew | apply IsS54.set_0 | apply IsS54.set_1 | apply IsS54.set_2 | apply IsS54.set_8 | apply IsS54.set_9) | exact HI0.out))) : gb159 ≠ g)); clear HI0; clear HK; clear HB; have HI0 := n0_; have HK := n1_; have HB := n2_; have BK159 := n3_; have GW159 := n4_; have GE159 := n5_; have NB0_159 := n6_; have NB159_0 := n7_; clear n0_ n1_ n2_ n3_ n4_ n5_ n6_ n7_; clear hb hbox hg; have hnb7 := NB159_0.out; have hnc7 := NB0_159.out; have hcz8_0 : w6.cell? ⟨gb159, 0, none⟩ = some (.int .i64 a1_0) := (blk_cell BK159.out 0).trans rfl; have hcz8_1 : w6.cell? ⟨gb159, 1, none⟩ = some (.int .i64 a1_1) := (blk_cell BK159.out 1).trans rfl; have hfz8_0 := blk_frozen BK159.out 0; have hfz8_1 := blk_frozen BK159.out 1; obtain ⟨ASz9_3, cSz9_3, ASz9_4, cSz9_4, ASz9_5, cSz9_5, ASz9_6, cSz9_6, ASz9_7, cSz9_7, HGz9, hgz9, HSz9_3, HSz9_4, HSz9_5, HSz9_6, HSz9_7⟩ := HI0.out; have hcz9_0 := cellS54_0 HGz9; have hcz9_1 := cellS54_1 HGz9; have hcz9_2 := cellS54_2 HGz9; have hcz9_3 := cellS54_3 HGz9; have hcz9_4 := cellS54_4 HGz9; have hcz9_5 := cellS54_5 HGz9; have hcz9_6 := cellS54_6 HGz9; have hcz9_7 := cellS54_7 HGz9; have hcz9_8 := cellS54_8 HGz9; have hcz9_9 := cellS54_9 HGz9; have hfz9_0 := blk_frozen HGz9 0; have hfz9_1 := blk_frozen HGz9 1; have hfz9_2 := blk_frozen HGz9 2; have hfz9_8 := blk_frozen HGz9 8; have hfz9_9 := blk_frozen HGz9 9; clear HGz9 hgz9))
        repeat (go_quiet (first | ((with_reducible refine gate_dst (N := 3) rfl ?_); refine box_event ?hg (N := 3) ?hd (cs := #[.int .i64 a1_0, .int .i64 a1_1]) (t := 37) ?hr ?_; (case hd => rfl); (case hg => rfl); (case hr => first | (go_simp; done) | (go_simp; rfl)); intro gb159 hg w6 hbox hb; have n0_ := Aside0.mk (IsS54.below (by repeat (first | (with_reducible first | exact HI0.out | apply IsS54.alloc | apply IsS54.drewN | apply IsS54.drew | apply IsS54.set_0 | apply IsS54.set_1 | apply IsS54.set_2 | apply IsS54.set_8 | apply IsS54.set_9) | exact HI0.out)) hb); have n1_ := Aside0.mk (KeepBut.trans (by repeat (first | (with_reducible first | exact HK.out | apply KeepBut.set_ | apply keep_drewN | apply keep_drew | apply keep_alloc) | exact HK.out)) (KeepBut.of_below hb g none) (.inl rfl)); have n2_ := Aside0.mk (below_step (by repeat (first | (with_reducible first | exact HB.out | apply below_alloc | apply pw_below_drewN | apply below_drew1 | refine below_set ?_ (IsS54.ge HI0.out)) | exact HB.out)) hb); have n3_ := Aside0.mk (hbox); have n4_ := Aside0.mk ((by rw [hg]; exact (keep_size (w := w) (g := g) (row := none) (by repeat (first | (with_reducible first | exact HK.out | apply KeepBut.set_ | apply keep_drewN | apply keep_drew | apply keep_alloc) | exact HK.out))) : w.heap.size ≤ gb159)); have n5_ := Aside0.mk ((Nat.le_trans HW0.out (by rw [hg]; exact (keep_size (w := w) (g := g) (row := none) (by repeat (first | (with_reducible first | exact HK.out | apply KeepBut.set_ | apply keep_drewN | apply keep_drew | apply keep_alloc) | exact HK.out))) : w.heap.size ≤ gb159) : w0.heap.size ≤ gb159)); have n6_ := Aside0.mk ((by rw [hg]; exact Nat.ne_of_lt (IsS54.lt (show IsS54 w0 _ g s0_0 s0_1 s0_2 s0_3 s0_4 s0_5 s0_6 s0_7 s0_8 s0_9 from by repeat (first | (with_reducible first | exact HI0.out | apply IsS54.alloc | apply IsS54.drewN | apply IsS54.drew | apply IsS54.set_0 | apply IsS54.set_1 | apply IsS54.set_2 | apply IsS54.set_8 | apply IsS54.set_9) | exact HI0.out))) : g ≠ gb159)); have n7_ := Aside0.mk ((by rw [hg]; exact Nat.ne_of_gt (IsS54.lt (show IsS54 w0 _ g s0_0 s0_1 s0_2 s0_3 s0_4 s0_5 s0_6 s0_7 s0_8 s0_9 from by repeat (first | (with_reducible first | exact HI0.out | apply IsS54.alloc | apply IsS54.drewN | apply IsS54.drew | apply IsS54.set_0 | apply IsS54.set_1 | apply IsS54.set_2 | apply IsS54.set_8 | apply IsS54.set_9) | exact HI0.out))) : gb159 ≠ g)); clear HI0; clear HK; clear HB; have HI0 := n0_; have HK := n1_; have HB := n2_; have BK159 := n3_; have GW159 := n4_; have GE159 := n5_; have NB0_159 := n6_; have NB159_0 := n7_; clear n0_ n1_ n2_ n3_ n4_ n5_ n6_ n7_; clear hb hbox hg; have hnb7 := NB159_0.out; have hnc7 := NB0_159.out; have hcz8_0 : w6.cell? ⟨gb159, 0, none⟩ = some (.int .i64 a1_0) := (blk_cell BK159.out 0).trans rfl; have hcz8_1 : w6.cell? ⟨gb159, 1, none⟩ = some (.int .i64 a1_1) := (blk_cell BK159.out 1).trans rfl; have hfz8_0 := blk_frozen BK159.out 0; have hfz8_1 := blk_frozen BK159.out 1; obtain ⟨ASz9_3, cSz9_3, ASz9_4, cSz9_4, ASz9_5, cSz9_5, ASz9_6, cSz9_6, ASz9_7, cSz9_7, HGz9, hgz9, HSz9_3, HSz9_4, HSz9_5, HSz9_6, HSz9_7⟩ := HI0.out; have hcz9_0 := cellS54_0 HGz9; have hcz9_1 := cellS54_1 HGz9; have hcz9_2 := cellS54_2 HGz9; have hcz9_3 := cellS54_3 HGz9; have hcz9_4 := cellS54_4 HGz9; have hcz9_5 := cellS54_5 HGz9; have hcz9_6 := cellS54_6 HGz9; have hcz9_7 := cellS54_7 HGz9; have hcz9_8 := cellS54_8 HGz9; have hcz9_9 := cellS54_9 HGz9; have hfz9_0 := blk_frozen HGz9 0; have hfz9_1 := blk_frozen HGz9 1; have hfz9_2 := blk_frozen HGz9 2; have hfz9_8 := blk_frozen HGz9 8; have hfz9_9 := blk_frozen HGz9 9; clear HGz9 hgz9)); try go_wp2_with (first | ((with_reducible refine gate_dst (N := 3) rfl ?_); refine box_event ?hg (N := 3) ?hd (cs := #[.int .i64 a1_0, .int .i64 a1_1]) (t := 37) ?hr ?_; (case hd => rfl); (case hg => rfl); (case hr => first | (go_simp; done) | (go_simp; rfl)); intro gb159 hg w6 hbox hb; have n0_ := Aside0.mk (IsS54.below (by repeat (first | (with_reducible first | exact HI0.out | apply IsS54.alloc | apply IsS54.drewN | apply IsS54.drew | apply IsS54.set_0 | apply IsS54.set_1 | apply IsS54.set_2 | apply IsS54.set_8 | apply IsS54.set_9) | exact HI0.out)) hb); have n1_ := Aside0.mk (KeepBut.trans (by repeat (first | (with_reducible first | exact HK.out | apply KeepBut.set_ | apply keep_drewN | apply keep_drew | apply keep_alloc) | exact HK.out)) (KeepBut.of_below hb g none) (.inl rfl)); have n2_ := Aside0.mk (below_step (by repeat (first | (with_reducible first | exact HB.out | apply below_alloc | apply pw_below_drewN | apply below_drew1 | refine below_set ?_ (IsS54.ge HI0.out)) | exact HB.out)) hb); have n3_ := Aside0.mk (hbox); have n4_ := Aside0.mk ((by rw [hg]; exact (keep_size (w := w) (g := g) (row := none) (by repeat (first | (with_reducible first | exact HK.out | apply KeepBut.set_ | apply keep_drewN | apply keep_drew | apply keep_alloc) | exact HK.out))) : w.heap.size ≤ gb159)); have n5_ := Aside0.mk ((Nat.le_trans HW0.out (by rw [hg]; exact (keep_size (w := w) (g := g) (row := none) (by repeat (first | (with_reducible first | exact HK.out | apply KeepBut.set_ | apply keep_drewN | apply keep_drew | apply keep_alloc) | exact HK.out))) : w.heap.size ≤ gb159) : w0.heap.size ≤ gb159)); have n6_ := Aside0.mk ((by rw [hg]; exact Nat.ne_of_lt (IsS54.lt (show IsS54 w0 _ g s0_0 s0_1 s0_2 s0_3 s0_4 s0_5 s0_6 s0_7 s0_8 s0_9 from by repeat (first | (with_reducible first | exact HI0.out | apply IsS54.alloc | apply IsS54.drewN | apply IsS54.drew | apply IsS54.set_0 | apply IsS54.set_1 | apply IsS54.set_2 | apply IsS54.set_8 | apply IsS54.set_9) | exact HI0.out))) : g ≠ gb159)); have n7_ := Aside0.mk ((by rw [hg]; exact Nat.ne_of_gt (IsS54.lt (show IsS54 w0 _ g s0_0 s0_1 s0_2 s0_3 s0_4 s0_5 s0_6 s0_7 s0_8 s0_9 from by repeat (first | (with_reducible first | exact HI0.out | apply IsS54.alloc | apply IsS54.drewN | apply IsS54.drew | apply IsS54.set_0 | apply IsS54.set_1 | apply IsS54.set_2 | apply IsS54.set_8 | apply IsS54.set_9) | exact HI0.out))) : gb159 ≠ g)); clear HI0; clear HK; clear HB; have HI0 := n0_; have HK := n1_; have HB := n2_; have BK159 := n3_; have GW159 := n4_; have GE159 := n5_; have NB0_159 := n6_; have NB159_0 := n7_; clear n0_ n1_ n2_ n3_ n4_ n5_ n6_ n7_; clear hb hbox hg; have hnb7 := NB159_0.out; have hnc7 := NB0_159.out; have hcz8_0 : w6.cell? ⟨gb159, 0, none⟩ = some (.int .i64 a1_0) := (blk_cell BK159.out 0).trans rfl; have hcz8_1 : w6.cell? ⟨gb159, 1, none⟩ = some (.int .i64 a1_1) := (blk_cell BK159.out 1).trans rfl; have hfz8_0 := blk_frozen BK159.out 0; have hfz8_1 := blk_frozen BK159.out 1; obtain ⟨ASz9_3, cSz9_3, ASz9_4, cSz9_4, ASz9_5, cSz9_5, ASz9_6, cSz9_6, ASz9_7, cSz9_7, HGz9, hgz9, HSz9_3, HSz9_4, HSz9_5, HSz9_6, HSz9_7⟩ := HI0.out; have hcz9_0 := cellS54_0 HGz9; have hcz9_1 := cellS54_1 HGz9; have hcz9_2 := cellS54_2 HGz9; have hcz9_3 := cellS54_3 HGz9; have hcz9_4 := cellS54_4 HGz9; have hcz9_5 := cellS54_5 HGz9; have hcz9_6 := cellS54_6 HGz9; have hcz9_7 := cellS54_7 HGz9; have hcz9_8 := cellS54_8 HGz9; have hcz9_9 := cellS54_9 HGz9; have hfz9_0 := blk_frozen HGz9 0; have hfz9_1 := blk_frozen HGz9 1; have hfz9_2 := blk_frozen HGz9 2; have hfz9_8 := blk_frozen HGz9 8; have hfz9_9 := blk_frozen HGz9 9; clear HGz9 hgz9)))
        go_ret
        exact ⟨by first | rfl | (simp [errW_none, errW_some] <;> rfl) | (simp [*, errW_none, errW_some] <;> rfl), by repeat (first | (with_reducible first | exact HI0.out | apply IsS54.alloc | apply IsS54.drewN | apply IsS54.drew | apply IsS54.set_0 | apply IsS54.set_1 | apply IsS54.set_2 | apply IsS54.set_8 | apply IsS54.set_9 | refine IsS54.far ?_ NB0_159.out _) | exact HI0.out), by repeat (first | (with_reducible first | exact HB.out | apply below_alloc | apply pw_below_drewN | apply below_drew1 | refine below_set ?_ (IsS54.ge HI0.out) | refine below_set ?_ GE159.out) | exact HB.out), by repeat (first | (with_reducible first | exact HK.out | apply KeepBut.set_ | apply keep_drewN | apply keep_drew | apply keep_alloc | refine keep_far ?_ GW159.out _) | exact HK.out)⟩
      · rw [if_neg c5] at H
        have c5b0 : decide (0 ≤ a1_1) = false := decide_eq_false c5
        clear c5
        simp only [Option.some.injEq, Prod.mk.injEq] at H
        obtain ⟨rfl, rfl, rfl, rfl, rfl, rfl⟩ := H
        go_enter Try.func74, Try.ntmps74
        go_wp2_with (first | ((with_reducible refine gate_dst (N := 3) rfl ?_); refine box_event ?hg (N := 3) ?hd (cs := #[.int .i64 a1_0, .int .i64 a1_1]) (t := 37) ?hr ?_; (case hd => rfl); (case hg => rfl); (case hr => first | (go_simp; done) | (go_simp; rfl)); intro gb159 hg w10 hbox hb; have n0_ := Aside0.mk (IsS54.below (by repeat (first | (with_reducible first | exact HI0.out | apply IsS54.alloc | apply IsS54.drewN | apply IsS54.drew | apply IsS54.set_0 | apply IsS54.set_1 | apply IsS54.set_2 | apply IsS54.set_8 | apply IsS54.set_9) | exact HI0.out)) hb); have n1_ := Aside0.mk (KeepBut.trans (by repeat (first | (with_reducible first | exact HK.out | apply KeepBut.set_ | apply keep_drewN | apply keep_drew | apply keep_alloc) | exact HK.out)) (KeepBut.of_below hb g none) (.inl rfl)); have n2_ := Aside0.mk (below_step (by repeat (first | (with_reducible first | exact HB.out | apply below_alloc | apply pw_below_drewN | apply below_drew1 | refine below_set ?_ (IsS54.ge HI0.out)) | exact HB.out)) hb); have n3_ := Aside0.mk (hbox); have n4_ := Aside0.mk ((by rw [hg]; exact (keep_size (w := w) (g := g) (row := none) (by repeat (first | (with_reducible first | exact HK.out | apply KeepBut.set_ | apply keep_drewN | apply keep_drew | apply keep_alloc) | exact HK.out))) : w.heap.size ≤ gb159)); have n5_ := Aside0.mk ((Nat.le_trans HW0.out (by rw [hg]; exact (keep_size (w := w) (g := g) (row := none) (by repeat (first | (with_reducible first | exact HK.out | apply KeepBut.set_ | apply keep_drewN | apply keep_drew | apply keep_alloc) | exact HK.out))) : w.heap.size ≤ gb159) : w0.heap.size ≤ gb159)); have n6_ := Aside0.mk ((by rw [hg]; exact Nat.ne_of_lt (IsS54.lt (show IsS54 w0 _ g s0_0 s0_1 s0_2 s0_3 s0_4 s0_5 s0_6 s0_7 s0_8 s0_9 from by repeat (first | (with_reducible first | exact HI0.out | apply IsS54.alloc | apply IsS54.drewN | apply IsS54.drew | apply IsS54.set_0 | apply IsS54.set_1 | apply IsS54.set_2 | apply IsS54.set_8 | apply IsS54.set_9) | exact HI0.out))) : g ≠ gb159)); have n7_ := Aside0.mk ((by rw [hg]; exact Nat.ne_of_gt (IsS54.lt (show IsS54 w0 _ g s0_0 s0_1 s0_2 s0_3 s0_4 s0_5 s0_6 s0_7 s0_8 s0_9 from by repeat (first | (with_reducible first | exact HI0.out | apply IsS54.alloc | apply IsS54.drewN | apply IsS54.drew | apply IsS54.set_0 | apply IsS54.set_1 | apply IsS54.set_2 | apply IsS54.set_8 | apply IsS54.set_9) | exact HI0.out))) : gb159 ≠ g)); clear HI0; clear HK; clear HB; have HI0 := n0_; have HK := n1_; have HB := n2_; have BK159 := n3_; have GW159 := n4_; have GE159 := n5_; have NB0_159 := n6_; have NB159_0 := n7_; clear n0_ n1_ n2_ n3_ n4_ n5_ n6_ n7_; clear hb hbox hg; have hnb11 := NB159_0.out; have hnc11 := NB0_159.out; have hcz12_0 : w10.cell? ⟨gb159, 0, none⟩ = some (.int .i64 a1_0) := (blk_cell BK159.out 0).trans rfl; have hcz12_1 : w10.cell? ⟨gb159, 1, none⟩ = some (.int .i64 a1_1) := (blk_cell BK159.out 1).trans rfl; have hfz12_0 := blk_frozen BK159.out 0; have hfz12_1 := blk_frozen BK159.out 1; obtain ⟨ASz13_3, cSz13_3, ASz13_4, cSz13_4, ASz13_5, cSz13_5, ASz13_6, cSz13_6, ASz13_7, cSz13_7, HGz13, hgz13, HSz13_3, HSz13_4, HSz13_5, HSz13_6, HSz13_7⟩ := HI0.out; have hcz13_0 := cellS54_0 HGz13; have hcz13_1 := cellS54_1 HGz13; have hcz13_2 := cellS54_2 HGz13; have hcz13_3 := cellS54_3 HGz13; have hcz13_4 := cellS54_4 HGz13; have hcz13_5 := cellS54_5 HGz13; have hcz13_6 := cellS54_6 HGz13; have hcz13_7 := cellS54_7 HGz13; have hcz13_8 := cellS54_8 HGz13; have hcz13_9 := cellS54_9 HGz13; have hfz13_0 := blk_frozen HGz13 0; have hfz13_1 := blk_frozen HGz13 1; have hfz13_2 := blk_frozen HGz13 2; have hfz13_8 := blk_frozen HGz13 8; have hfz13_9 := blk_frozen HGz13 9; clear HGz13 hgz13))
        repeat (go_quiet (first | ((with_reducible refine gate_dst (N := 3) rfl ?_); refine box_event ?hg (N := 3) ?hd (cs := #[.int .i64 a1_0, .int .i64 a1_1]) (t := 37) ?hr ?_; (case hd => rfl); (case hg => rfl); (case hr => first | (go_simp; done) | (go_simp; rfl)); intro gb159 hg w10 hbox hb; have n0_ := Aside0.mk (IsS54.below (by repeat (first | (with_reducible first | exact HI0.out | apply IsS54.alloc | apply IsS54.drewN | apply IsS54.drew | apply IsS54.set_0 | apply IsS54.set_1 | apply IsS54.set_2 | apply IsS54.set_8 | apply IsS54.set_9) | exact HI0.out)) hb); have n1_ := Aside0.mk (KeepBut.trans (by repeat (first | (with_reducible first | exact HK.out | apply KeepBut.set_ | apply keep_drewN | apply keep_drew | apply keep_alloc) | exact HK.out)) (KeepBut.of_below hb g none) (.inl rfl)); have n2_ := Aside0.mk (below_step (by repeat (first | (with_reducible first | exact HB.out | apply below_alloc | apply pw_below_drewN | apply below_drew1 | refine below_set ?_ (IsS54.ge HI0.out)) | exact HB.out)) hb); have n3_ := Aside0.mk (hbox); have n4_ := Aside0.mk ((by rw [hg]; exact (keep_size (w := w) (g := g) (row := none) (by repeat (first | (with_reducible first | exact HK.out | apply KeepBut.set_ | apply keep_drewN | apply keep_drew | apply keep_alloc) | exact HK.out))) : w.heap.size ≤ gb159)); have n5_ := Aside0.mk ((Nat.le_trans HW0.out (by rw [hg]; exact (keep_size (w := w) (g := g) (row := none) (by repeat (first | (with_reducible first | exact HK.out | apply KeepBut.set_ | apply keep_drewN | apply keep_drew | apply keep_alloc) | exact HK.out))) : w.heap.size ≤ gb159) : w0.heap.size ≤ gb159)); have n6_ := Aside0.mk ((by rw [hg]; exact Nat.ne_of_lt (IsS54.lt (show IsS54 w0 _ g s0_0 s0_1 s0_2 s0_3 s0_4 s0_5 s0_6 s0_7 s0_8 s0_9 from by repeat (first | (with_reducible first | exact HI0.out | apply IsS54.alloc | apply IsS54.drewN | apply IsS54.drew | apply IsS54.set_0 | apply IsS54.set_1 | apply IsS54.set_2 | apply IsS54.set_8 | apply IsS54.set_9) | exact HI0.out))) : g ≠ gb159)); have n7_ := Aside0.mk ((by rw [hg]; exact Nat.ne_of_gt (IsS54.lt (show IsS54 w0 _ g s0_0 s0_1 s0_2 s0_3 s0_4 s0_5 s0_6 s0_7 s0_8 s0_9 from by repeat (first | (with_reducible first | exact HI0.out | apply IsS54.alloc | apply IsS54.drewN | apply IsS54.drew | apply IsS54.set_0 | apply IsS54.set_1 | apply IsS54.set_2 | apply IsS54.set_8 | apply IsS54.set_9) | exact HI0.out))) : gb159 ≠ g)); clear HI0; clear HK; clear HB; have HI0 := n0_; have HK := n1_; have HB := n2_; have BK159 := n3_; have GW159 := n4_; have GE159 := n5_; have NB0_159 := n6_; have NB159_0 := n7_; clear n0_ n1_ n2_ n3_ n4_ n5_ n6_ n7_; clear hb hbox hg; have hnb11 := NB159_0.out; have hnc11 := NB0_159.out; have hcz12_0 : w10.cell? ⟨gb159, 0, none⟩ = some (.int .i64 a1_0) := (blk_cell BK159.out 0).trans rfl; have hcz12_1 : w10.cell? ⟨gb159, 1, none⟩ = some (.int .i64 a1_1) := (blk_cell BK159.out 1).trans rfl; have hfz12_0 := blk_frozen BK159.out 0; have hfz12_1 := blk_frozen BK159.out 1; obtain ⟨ASz13_3, cSz13_3, ASz13_4, cSz13_4, ASz13_5, cSz13_5, ASz13_6, cSz13_6, ASz13_7, cSz13_7, HGz13, hgz13, HSz13_3, HSz13_4, HSz13_5, HSz13_6, HSz13_7⟩ := HI0.out; have hcz13_0 := cellS54_0 HGz13; have hcz13_1 := cellS54_1 HGz13; have hcz13_2 := cellS54_2 HGz13; have hcz13_3 := cellS54_3 HGz13; have hcz13_4 := cellS54_4 HGz13; have hcz13_5 := cellS54_5 HGz13; have hcz13_6 := cellS54_6 HGz13; have hcz13_7 := cellS54_7 HGz13; have hcz13_8 := cellS54_8 HGz13; have hcz13_9 := cellS54_9 HGz13; have hfz13_0 := blk_frozen HGz13 0; have hfz13_1 := blk_frozen HGz13 1; have hfz13_2 := blk_frozen HGz13 2; have hfz13_8 := blk_frozen HGz13 8; have hfz13_9 := blk_frozen HGz13 9; clear HGz13 hgz13)); try go_wp2_with (first | ((with_reducible refine gate_dst (N := 3) rfl ?_); refine box_event ?hg (N := 3) ?hd (cs := #[.int .i64 a1_0, .int .i64 a1_1]) (t := 37) ?hr ?_; (case hd => rfl); (case hg => rfl); (case hr => first | (go_simp; done) | (go_simp; rfl)); intro gb159 hg w10 hbox hb; have n0_ := Aside0.mk (IsS54.below (by repeat (first | (with_reducible first | exact HI0.out | apply IsS54.alloc | apply IsS54.drewN | apply IsS54.drew | apply IsS54.set_0 | apply IsS54.set_1 | apply IsS54.set_2 | apply IsS54.set_8 | apply IsS54.set_9) | exact HI0.out)) hb); have n1_ := Aside0.mk (KeepBut.trans (by repeat (first | (with_reducible first | exact HK.out | apply KeepBut.set_ | apply keep_drewN | apply keep_drew | apply keep_alloc) | exact HK.out)) (KeepBut.of_below hb g none) (.inl rfl)); have n2_ := Aside0.mk (below_step (by repeat (first | (with_reducible first | exact HB.out | apply below_alloc | apply pw_below_drewN | apply below_drew1 | refine below_set ?_ (IsS54.ge HI0.out)) | exact HB.out)) hb); have n3_ := Aside0.mk (hbox); have n4_ := Aside0.mk ((by rw [hg]; exact (keep_size (w := w) (g := g) (row := none) (by repeat (first | (with_reducible first | exact HK.out | apply KeepBut.set_ | apply keep_drewN | apply keep_drew | apply keep_alloc) | exact HK.out))) : w.heap.size ≤ gb159)); have n5_ := Aside0.mk ((Nat.le_trans HW0.out (by rw [hg]; exact (keep_size (w := w) (g := g) (row := none) (by repeat (first | (with_reducible first | exact HK.out | apply KeepBut.set_ | apply keep_drewN | apply keep_drew | apply keep_alloc) | exact HK.out))) : w.heap.size ≤ gb159) : w0.heap.size ≤ gb159)); have n6_ := Aside0.mk ((by rw [hg]; exact Nat.ne_of_lt (IsS54.lt (show IsS54 w0 _ g s0_0 s0_1 s0_2 s0_3 s0_4 s0_5 s0_6 s0_7 s0_8 s0_9 from by repeat (first | (with_reducible first | exact HI0.out | apply IsS54.alloc | apply IsS54.drewN | apply IsS54.drew | apply IsS54.set_0 | apply IsS54.set_1 | apply IsS54.set_2 | apply IsS54.set_8 | apply IsS54.set_9) | exact HI0.out))) : g ≠ gb159)); have n7_ := Aside0.mk ((by rw [hg]; exact Nat.ne_of_gt (IsS54.lt (show IsS54 w0 _ g s0_0 s0_1 s0_2 s0_3 s0_4 s0_5 s0_6 s0_7 s0_8 s0_9 from by repeat (first | (with_reducible first | exact HI0.out | apply IsS54.alloc | apply IsS54.drewN | apply IsS54.drew | apply IsS54.set_0 | apply IsS54.set_1 | apply IsS54.set_2 | apply IsS54.set_8 | apply IsS54.set_9) | exact HI0.out))) : gb159 ≠ g)); clear HI0; clear HK; clear HB; have HI0 := n0_; have HK := n1_; have HB := n2_; have BK159 := n3_; have GW159 := n4_; have GE159 := n5_; have NB0_159 := n6_; have NB159_0 := n7_; clear n0_ n1_ n2_ n3_ n4_ n5_ n6_ n7_; clear hb hbox hg; have hnb11 := NB159_0.out; have hnc11 := NB0_159.out; have hcz12_0 : w10.cell? ⟨gb159, 0, none⟩ = some (.int .i64 a1_0) := (blk_cell BK159.out 0).trans rfl; have hcz12_1 : w10.cell? ⟨gb159, 1, none⟩ = some (.int .i64 a1_1) := (blk_cell BK159.out 1).trans rfl; have hfz12_0 := blk_frozen BK159.out 0; have hfz12_1 := blk_frozen BK159.out 1; obtain ⟨ASz13_3, cSz13_3, ASz13_4, cSz13_4, ASz13_5, cSz13_5, ASz13_6, cSz13_6, ASz13_7, cSz13_7, HGz13, hgz13, HSz13_3, HSz13_4, HSz13_5, HSz13_6, HSz13_7⟩ := HI0.out; have hcz13_0 := cellS54_0 HGz13; have hcz13_1 := cellS54_1 HGz13; have hcz13_2 := cellS54_2 HGz13; have hcz13_3 := cellS54_3 HGz13; have hcz13_4 := cellS54_4 HGz13; have hcz13_5 := cellS54_5 HGz13; have hcz13_6 := cellS54_6 HGz13; have hcz13_7 := cellS54_7 HGz13; have hcz13_8 := cellS54_8 HGz13; have hcz13_9 := cellS54_9 HGz13; have hfz13_0 := blk_frozen HGz13 0; have hfz13_1 := blk_frozen HGz13 1; have hfz13_2 := blk_frozen HGz13 2; have hfz13_8 := blk_frozen HGz13 8; have hfz13_9 := blk_frozen HGz13 9; clear HGz13 hgz13)))
        go_ret
        exact ⟨by first | rfl | (simp [errW_none, errW_some] <;> rfl) | (simp [*, errW_none, errW_some] <;> rfl), by repeat (first | (with_reducible first | exact HI0.out | apply IsS54.alloc | apply IsS54.drewN | apply IsS54.drew | apply IsS54.set_0 | apply IsS54.set_1 | apply IsS54.set_2 | apply IsS54.set_8 | apply IsS54.set_9 | refine IsS54.far ?_ NB0_159.out _) | exact HI0.out), by repeat (first | (with_reducible first | exact HB.out | apply below_alloc | apply pw_below_drewN | apply below_drew1 | refine below_set ?_ (IsS54.ge HI0.out) | refine below_set ?_ GE159.out) | exact HB.out), by repeat (first | (with_reducible first | exact HK.out | apply KeepBut.set_ | apply keep_drewN | apply keep_drew | apply keep_alloc | refine keep_far ?_ GW159.out _) | exact HK.out)⟩
    · rw [if_neg c4] at H
      have c4b0 : decide (a1_0 < s0_0) = false := decide_eq_false c4
      clear c4
      simp only [Option.some.injEq, Prod.mk.injEq] at H
      obtain ⟨rfl, rfl, rfl, rfl, rfl, rfl⟩ := H
      go_enter Try.func74, Try.ntmps74
      go_wp2_with (first | ((with_reducible refine gate_dst (N := 3) rfl ?_); refine box_event ?hg (N := 3) ?hd (cs := #[.int .i64 a1_0, .int .i64 a1_1]) (t := 37) ?hr ?_; (case hd => rfl); (case hg => rfl); (case hr => first | (go_simp; done) | (go_simp; rfl)); intro gb159 hg w14 hbox hb; have n0_ := Aside0.mk (IsS54.below (by repeat (first | (with_reducible first | exact HI0.out | apply IsS54.alloc | apply IsS54.drewN | apply IsS54.drew | apply IsS54.set_0 | apply IsS54.set_1 | apply IsS54.set_2 | apply IsS54.set_8 | apply IsS54.set_9) | exact HI0.out)) hb); have n1_ := Aside0.mk (KeepBut.trans (by repeat (first | (with_reducible first | exact HK.out | apply KeepBut.set_ | apply keep_drewN | apply keep_drew | apply keep_alloc) | exact HK.out)) (KeepBut.of_below hb g none) (.inl rfl)); have n2_ := Aside0.mk (below_step (by repeat (first | (with_reducible first | exact HB.out | apply below_alloc | apply pw_below_drewN | apply below_drew1 | refine below_set ?_ (IsS54.ge HI0.out)) | exact HB.out)) hb); have n3_ := Aside0.mk (hbox); have n4_ := Aside0.mk ((by rw [hg]; exact (keep_size (w := w) (g := g) (row := none) (by repeat (first | (with_reducible first | exact HK.out | apply KeepBut.set_ | apply keep_drewN | apply keep_drew | apply keep_alloc) | exact HK.out))) : w.heap.size ≤ gb159)); have n5_ := Aside0.mk ((Nat.le_trans HW0.out (by rw [hg]; exact (keep_size (w := w) (g := g) (row := none) (by repeat (first | (with_reducible first | exact HK.out | apply KeepBut.set_ | apply keep_drewN | apply keep_drew | apply keep_alloc) | exact HK.out))) : w.heap.size ≤ gb159) : w0.heap.size ≤ gb159)); have n6_ := Aside0.mk ((by rw [hg]; exact Nat.ne_of_lt (IsS54.lt (show IsS54 w0 _ g s0_0 s0_1 s0_2 s0_3 s0_4 s0_5 s0_6 s0_7 s0_8 s0_9 from by repeat (first | (with_reducible first | exact HI0.out | apply IsS54.alloc | apply IsS54.drewN | apply IsS54.drew | apply IsS54.set_0 | apply IsS54.set_1 | apply IsS54.set_2 | apply IsS54.set_8 | apply IsS54.set_9) | exact HI0.out))) : g ≠ gb159)); have n7_ := Aside0.mk ((by rw [hg]; exact Nat.ne_of_gt (IsS54.lt (show IsS54 w0 _ g s0_0 s0_1 s0_2 s0_3 s0_4 s0_5 s0_6 s0_7 s0_8 s0_9 from by repeat (first | (with_reducible first | exact HI0.out | apply IsS54.alloc | apply IsS54.drewN | apply IsS54.drew | apply IsS54.set_0 | apply IsS54.set_1 | apply IsS54.set_2 | apply IsS54.set_8 | apply IsS54.set_9) | exact HI0.out))) : gb159 ≠ g)); clear HI0; clear HK; clear HB; have HI0 := n0_; have HK := n1_; have HB := n2_; have BK159 := n3_; have GW159 := n4_; have GE159 := n5_; have NB0_159 := n6_; have NB159_0 := n7_; clear n0_ n1_ n2_ n3_ n4_ n5_ n6_ n7_; clear hb hbox hg; have hnb15 := NB159_0.out; have hnc15 := NB0_159.out; have hcz16_0 : w14.cell? ⟨gb159, 0, none⟩ = some (.int .i64 a1_0) := (blk_cell BK159.out 0).trans rfl; have hcz16_1 : w14.cell? ⟨gb159, 1, none⟩ = some (.int .i64 a1_1) := (blk_cell BK159.out 1).trans rfl; have hfz16_0 := blk_frozen BK159.out 0; have hfz16_1 := blk_frozen BK159.out 1; obtain ⟨ASz17_3, cSz17_3, ASz17_4, cSz17_4, ASz17_5, cSz17_5, ASz17_6, cSz17_6, ASz17_7, cSz17_7, HGz17, hgz17, HSz17_3, HSz17_4, HSz17_5, HSz17_6, HSz17_7⟩ := HI0.out; have hcz17_0 := cellS54_0 HGz17; have hcz17_1 := cellS54_1 HGz17; have hcz17_2 := cellS54_2 HGz17; have hcz17_3 := cellS54_3 HGz17; have hcz17_4 := cellS54_4 HGz17; have hcz17_5 := cellS54_5 HGz17; have hcz17_6 := cellS54_6 HGz17; have hcz17_7 := cellS54_7 HGz17; have hcz17_8 := cellS54_8 HGz17; have hcz17_9 := cellS54_9 HGz17; have hfz17_0 := blk_frozen HGz17 0; have hfz17_1 := blk_frozen HGz17 1; have hfz17_2 := blk_frozen HGz17 2; have hfz17_8 := blk_frozen HGz17 8; have hfz17_9 := blk_frozen HGz17 9; clear HGz17 hgz17))
      repeat (go_quiet (first | ((with_reducible refine gate_dst (N := 3) rfl ?_); refine box_event ?hg (N := 3) ?hd (cs := #[.int .i64 a1_0, .int .i64 a1_1]) (t := 37) ?hr ?_; (case hd => rfl); (case hg => rfl); (case hr => first | (go_simp; done) | (go_simp; rfl)); intro gb159 hg w14 hbox hb; have n0_ := Aside0.mk (IsS54.below (by repeat (first | (with_reducible first | exact HI0.out | apply IsS54.alloc | apply IsS54.drewN | apply IsS54.drew | apply IsS54.set_0 | apply IsS54.set_1 | apply IsS54.set_2 | apply IsS54.set_8 | apply IsS54.set_9) | exact HI0.out)) hb); have n1_ := Aside0.mk (KeepBut.trans (by repeat (first | (with_reducible first | exact HK.out | apply KeepBut.set_ | apply keep_drewN | apply keep_drew | apply keep_alloc) | exact HK.out)) (KeepBut.of_below hb g none) (.inl rfl)); have n2_ := Aside0.mk (below_step (by repeat (first | (with_reducible first | exact HB.out | apply below_alloc | apply pw_below_drewN | apply below_drew1 | refine below_set ?_ (IsS54.ge HI0.out)) | exact HB.out)) hb); have n3_ := Aside0.mk (hbox); have n4_ := Aside0.mk ((by rw [hg]; exact (keep_size (w := w) (g := g) (row := none) (by repeat (first | (with_reducible first | exact HK.out | apply KeepBut.set_ | apply keep_drewN | apply keep_drew | apply keep_alloc) | exact HK.out))) : w.heap.size ≤ gb159)); have n5_ := Aside0.mk ((Nat.le_trans HW0.out (by rw [hg]; exact (keep_size (w := w) (g := g) (row := none) (by repeat (first | (with_reducible first | exact HK.out | apply KeepBut.set_ | apply keep_drewN | apply keep_drew | apply keep_alloc) | exact HK.out))) : w.heap.size ≤ gb159) : w0.heap.size ≤ gb159)); have n6_ := Aside0.mk ((by rw [hg]; exact Nat.ne_of_lt (IsS54.lt (show IsS54 w0 _ g s0_0 s0_1 s0_2 s0_3 s0_4 s0_5 s0_6 s0_7 s0_8 s0_9 from by repeat (first | (with_reducible first | exact HI0.out | apply IsS54.alloc | apply IsS54.drewN | apply IsS54.drew | apply IsS54.set_0 | apply IsS54.set_1 | apply IsS54.set_2 | apply IsS54.set_8 | apply IsS54.set_9) | exact HI0.out))) : g ≠ gb159)); have n7_ := Aside0.mk ((by rw [hg]; exact Nat.ne_of_gt (IsS54.lt (show IsS54 w0 _ g s0_0 s0_1 s0_2 s0_3 s0_4 s0_5 s0_6 s0_7 s0_8 s0_9 from by repeat (first | (with_reducible first | exact HI0.out | apply IsS54.alloc | apply IsS54.drewN | apply IsS54.drew | apply IsS54.set_0 | apply IsS54.set_1 | apply IsS54.set_2 | apply IsS54.set_8 | apply IsS54.set_9) | exact HI0.out))) : gb159 ≠ g)); clear HI0; clear HK; clear HB; have HI0 := n0_; have HK := n1_; have HB := n2_; have BK159 := n3_; have GW159 := n4_; have GE159 := n5_; have NB0_159 := n6_; have NB159_0 := n7_; clear n0_ n1_ n2_ n3_ n4_ n5_ n6_ n7_; clear hb hbox hg; have hnb15 := NB159_0.out; have hnc15 := NB0_159.out; have hcz16_0 : w14.cell? ⟨gb159, 0, none⟩ = some (.int .i64 a1_0) := (blk_cell BK159.out 0).trans rfl; have hcz16_1 : w14.cell? ⟨gb159, 1, none⟩ = some (.int .i64 a1_1) := (blk_cell BK159.out 1).trans rfl; have hfz16_0 := blk_frozen BK159.out 0; have hfz16_1 := blk_frozen BK159.out 1; obtain ⟨ASz17_3, cSz17_3, ASz17_4, cSz17_4, ASz17_5, cSz17_5, ASz17_6, cSz17_6, ASz17_7, cSz17_7, HGz17, hgz17, HSz17_3, HSz17_4, HSz17_5, HSz17_6, HSz17_7⟩ := HI0.out; have hcz17_0 := cellS54_0 HGz17; have hcz17_1 := cellS54_1 HGz17; have hcz17_2 := cellS54_2 HGz17; have hcz17_3 := cellS54_3 HGz17; have hcz17_4 := cellS54_4 HGz17; have hcz17_5 := cellS54_5 HGz17; have hcz17_6 := cellS54_6 HGz17; have hcz17_7 := cellS54_7 HGz17; have hcz17_8 := cellS54_8 HGz17; have hcz17_9 := cellS54_9 HGz17; have hfz17_0 := blk_frozen HGz17 0; have hfz17_1 := blk_frozen HGz17 1; have hfz17_2 := blk_frozen HGz17 2; have hfz17_8 := blk_frozen HGz17 8; have hfz17_9 := blk_frozen HGz17 9; clear HGz17 hgz17)); try go_wp2_with (first | ((with_reducible refine gate_dst (N := 3) rfl ?_); refine box_event ?hg (N := 3) ?hd (cs := #[.int .i64 a1_0, .int .i64 a1_1]) (t := 37) ?hr ?_; (case hd => rfl); (case hg => rfl); (case hr => first | (go_simp; done) | (go_simp; rfl)); intro gb159 hg w14 hbox hb; have n0_ := Aside0.mk (IsS54.below (by repeat (first | (with_reducible first | exact HI0.out | apply IsS54.alloc | apply IsS54.drewN | apply IsS54.drew | apply IsS54.set_0 | apply IsS54.set_1 | apply IsS54.set_2 | apply IsS54.set_8 | apply IsS54.set_9) | exact HI0.out)) hb); have n1_ := Aside0.mk (KeepBut.trans (by repeat (first | (with_reducible first | exact HK.out | apply KeepBut.set_ | apply keep_drewN | apply keep_drew | apply keep_alloc) | exact HK.out)) (KeepBut.of_below hb g none) (.inl rfl)); have n2_ := Aside0.mk (below_step (by repeat (first | (with_reducible first | exact HB.out | apply below_alloc | apply pw_below_drewN | apply below_drew1 | refine below_set ?_ (IsS54.ge HI0.out)) | exact HB.out)) hb); have n3_ := Aside0.mk (hbox); have n4_ := Aside0.mk ((by rw [hg]; exact (keep_size (w := w) (g := g) (row := none) (by repeat (first | (with_reducible first | exact HK.out | apply KeepBut.set_ | apply keep_drewN | apply keep_drew | apply keep_alloc) | exact HK.out))) : w.heap.size ≤ gb159)); have n5_ := Aside0.mk ((Nat.le_trans HW0.out (by rw [hg]; exact (keep_size (w := w) (g := g) (row := none) (by repeat (first | (with_reducible first | exact HK.out | apply KeepBut.set_ | apply keep_drewN | apply keep_drew | apply keep_alloc) | exact HK.out))) : w.heap.size ≤ gb159) : w0.heap.size ≤ gb159)); have n6_ := Aside0.mk ((by rw [hg]; exact Nat.ne_of_lt (IsS54.lt (show IsS54 w0 _ g s0_0 s0_1 s0_2 s0_3 s0_4 s0_5 s0_6 s0_7 s0_8 s0_9 from by repeat (first | (with_reducible first | exact HI0.out | apply IsS54.alloc | apply IsS54.drewN | apply IsS54.drew | apply IsS54.set_0 | apply IsS54.set_1 | apply IsS54.set_2 | apply IsS54.set_8 | apply IsS54.set_9) | exact HI0.out))) : g ≠ gb159)); have n7_ := Aside0.mk ((by rw [hg]; exact Nat.ne_of_gt (IsS54.lt (show IsS54 w0 _ g s0_0 s0_1 s0_2 s0_3 s0_4 s0_5 s0_6 s0_7 s0_8 s0_9 from by repeat (first | (with_reducible first | exact HI0.out | apply IsS54.alloc | apply IsS54.drewN | apply IsS54.drew | apply IsS54.set_0 | apply IsS54.set_1 | apply IsS54.set_2 | apply IsS54.set_8 | apply IsS54.set_9) | exact HI0.out))) : gb159 ≠ g)); clear HI0; clear HK; clear HB; have HI0 := n0_; have HK := n1_; have HB := n2_; have BK159 := n3_; have GW159 := n4_; have GE159 := n5_; have NB0_159 := n6_; have NB159_0 := n7_; clear n0_ n1_ n2_ n3_ n4_ n5_ n6_ n7_; clear hb hbox hg; have hnb15 := NB159_0.out; have hnc15 := NB0_159.out; have hcz16_0 : w14.cell? ⟨gb159, 0, none⟩ = some (.int .i64 a1_0) := (blk_cell BK159.out 0).trans rfl; have hcz16_1 : w14.cell? ⟨gb159, 1, none⟩ = some (.int .i64 a1_1) := (blk_cell BK159.out 1).trans rfl; have hfz16_0 := blk_frozen BK159.out 0; have hfz16_1 := blk_frozen BK159.out 1; obtain ⟨ASz17_3, cSz17_3, ASz17_4, cSz17_4, ASz17_5, cSz17_5, ASz17_6, cSz17_6, ASz17_7, cSz17_7, HGz17, hgz17, HSz17_3, HSz17_4, HSz17_5, HSz17_6, HSz17_7⟩ := HI0.out; have hcz17_0 := cellS54_0 HGz17; have hcz17_1 := cellS54_1 HGz17; have hcz17_2 := cellS54_2 HGz17; have hcz17_3 := cellS54_3 HGz17; have hcz17_4 := cellS54_4 HGz17; have hcz17_5 := cellS54_5 HGz17; have hcz17_6 := cellS54_6 HGz17; have hcz17_7 := cellS54_7 HGz17; have hcz17_8 := cellS54_8 HGz17; have hcz17_9 := cellS54_9 HGz17; have hfz17_0 := blk_frozen HGz17 0; have hfz17_1 := blk_frozen HGz17 1; have hfz17_2 := blk_frozen HGz17 2; have hfz17_8 := blk_frozen HGz17 8; have hfz17_9 := blk_frozen HGz17 9; clear HGz17 hgz17)))
      go_ret
      exact ⟨by first | rfl | (simp [errW_none, errW_some] <;> rfl) | (simp [*, errW_none, errW_some] <;> rfl), by repeat (first | (with_reducible first | exact HI0.out | apply IsS54.alloc | apply IsS54.drewN | apply IsS54.drew | apply IsS54.set_0 | apply IsS54.set_1 | apply IsS54.set_2 | apply IsS54.set_8 | apply IsS54.set_9 | refine IsS54.far ?_ NB0_159.out _) | exact HI0.out), by repeat (first | (with_reducible first | exact HB.out | apply below_alloc | apply pw_below_drewN | apply below_drew1 | refine below_set ?_ (IsS54.ge HI0.out) | refine below_set ?_ GE159.out) | exact HB.out), by repeat (first | (with_reducible first | exact HK.out | apply KeepBut.set_ | apply keep_drewN | apply keep_drew | apply keep_alloc | refine keep_far ?_ GW159.out _) | exact HK.out)⟩
  · rw [if_neg c3] at H
    have c3b0 : decide (0 ≤ a1_0) = false := decide_eq_false c3
    clear c3
    simp only [Option.some.injEq, Prod.mk.injEq] at H
    obtain ⟨rfl, rfl, rfl, rfl, rfl, rfl⟩ := H
    go_enter Try.func74, Try.ntmps74
    go_wp2_with (first | ((with_reducible refine gate_dst (N := 3) rfl ?_); refine box_event ?hg (N := 3) ?hd (cs := #[.int .i64 a1_0, .int .i64 a1_1]) (t := 37) ?hr ?_; (case hd => rfl); (case hg => rfl); (case hr => first | (go_simp; done) | (go_simp; rfl)); intro gb159 hg w18 hbox hb; have n0_ := Aside0.mk (IsS54.below (by repeat (first | (with_reducible first | exact HI0.out | apply IsS54.alloc | apply IsS54.drewN | apply IsS54.drew | apply IsS54.set_0 | apply IsS54.set_1 | apply IsS54.set_2 | apply IsS54.set_8 | apply IsS54.set_9) | exact HI0.out)) hb); have n1_ := Aside0.mk (KeepBut.trans (by repeat (first | (with_reducible first | exact HK.out | apply KeepBut.set_ | apply keep_drewN | apply keep_drew | apply keep_alloc) | exact HK.out)) (KeepBut.of_below hb g none) (.inl rfl)); have n2_ := Aside0.mk (below_step (by repeat (first | (with_reducible first | exact HB.out | apply below_alloc | apply pw_below_drewN | apply below_drew1 | refine below_set ?_ (IsS54.ge HI0.out)) | exact HB.out)) hb); have n3_ := Aside0.mk (hbox); have n4_ := Aside0.mk ((by rw [hg]; exact (keep_size (w := w) (g := g) (row := none) (by repeat (first | (with_reducible first | exact HK.out | apply KeepBut.set_ | apply keep_drewN | apply keep_drew | apply keep_alloc) | exact HK.out))) : w.heap.size ≤ gb159)); have n5_ := Aside0.mk ((Nat.le_trans HW0.out (by rw [hg]; exact (keep_size (w := w) (g := g) (row := none) (by repeat (first | (with_reducible first | exact HK.out | apply KeepBut.set_ | apply keep_drewN | apply keep_drew | apply keep_alloc) | exact HK.out))) : w.heap.size ≤ gb159) : w0.heap.size ≤ gb159)); have n6_ := Aside0.mk ((by rw [hg]; exact Nat.ne_of_lt (IsS54.lt (show IsS54 w0 _ g s0_0 s0_1 s0_2 s0_3 s0_4 s0_5 s0_6 s0_7 s0_8 s0_9 from by repeat (first | (with_reducible first | exact HI0.out | apply IsS54.alloc | apply IsS54.drewN | apply IsS54.drew | apply IsS54.set_0 | apply IsS54.set_1 | apply IsS54.set_2 | apply IsS54.set_8 | apply IsS54.set_9) | exact HI0.out))) : g ≠ gb159)); have n7_ := Aside0.mk ((by rw [hg]; exact Nat.ne_of_gt (IsS54.lt (show IsS54 w0 _ g s0_0 s0_1 s0_2 s0_3 s0_4 s0_5 s0_6 s0_7 s0_8 s0_9 from by repeat (first | (with_reducible first | exact HI0.out | apply IsS54.alloc | apply IsS54.drewN | apply IsS54.drew | apply IsS54.set_0 | apply IsS54.set_1 | apply IsS54.set_2 | apply IsS54.set_8 | apply IsS54.set_9) | exact HI0.out))) : gb159 ≠ g)); clear HI0; clear HK; clear HB; have HI0 := n0_; have HK := n1_; have HB := n2_; have BK159 := n3_; have GW159 := n4_; have GE159 := n5_; have NB0_159 := n6_; have NB159_0 := n7_; clear n0_ n1_ n2_ n3_ n4_ n5_ n6_ n7_; clear hb hbox hg; have hnb19 := NB159_0.out; have hnc19 := NB0_159.out; have hcz20_0 : w18.cell? ⟨gb159, 0, none⟩ = some (.int .i64 a1_0) := (blk_cell BK159.out 0).trans rfl; have hcz20_1 : w18.cell? ⟨gb159, 1, none⟩ = some (.int .i64 a1_1) := (blk_cell BK159.out 1).trans rfl; have hfz20_0 := blk_frozen BK159.out 0; have hfz20_1 := blk_frozen BK159.out 1))
    repeat (go_quiet (first | ((with_reducible refine gate_dst (N := 3) rfl ?_); refine box_event ?hg (N := 3) ?hd (cs := #[.int .i64 a1_0, .int .i64 a1_1]) (t := 37) ?hr ?_; (case hd => rfl); (case hg => rfl); (case hr => first | (go_simp; done) | (go_simp; rfl)); intro gb159 hg w18 hbox hb; have n0_ := Aside0.mk (IsS54.below (by repeat (first | (with_reducible first | exact HI0.out | apply IsS54.alloc | apply IsS54.drewN | apply IsS54.drew | apply IsS54.set_0 | apply IsS54.set_1 | apply IsS54.set_2 | apply IsS54.set_8 | apply IsS54.set_9) | exact HI0.out)) hb); have n1_ := Aside0.mk (KeepBut.trans (by repeat (first | (with_reducible first | exact HK.out | apply KeepBut.set_ | apply keep_drewN | apply keep_drew | apply keep_alloc) | exact HK.out)) (KeepBut.of_below hb g none) (.inl rfl)); have n2_ := Aside0.mk (below_step (by repeat (first | (with_reducible first | exact HB.out | apply below_alloc | apply pw_below_drewN | apply below_drew1 | refine below_set ?_ (IsS54.ge HI0.out)) | exact HB.out)) hb); have n3_ := Aside0.mk (hbox); have n4_ := Aside0.mk ((by rw [hg]; exact (keep_size (w := w) (g := g) (row := none) (by repeat (first | (with_reducible first | exact HK.out | apply KeepBut.set_ | apply keep_drewN | apply keep_drew | apply keep_alloc) | exact HK.out))) : w.heap.size ≤ gb159)); have n5_ := Aside0.mk ((Nat.le_trans HW0.out (by rw [hg]; exact (keep_size (w := w) (g := g) (row := none) (by repeat (first | (with_reducible first | exact HK.out | apply KeepBut.set_ | apply keep_drewN | apply keep_drew | apply keep_alloc) | exact HK.out))) : w.heap.size ≤ gb159) : w0.heap.size ≤ gb159)); have n6_ := Aside0.mk ((by rw [hg]; exact Nat.ne_of_lt (IsS54.lt (show IsS54 w0 _ g s0_0 s0_1 s0_2 s0_3 s0_4 s0_5 s0_6 s0_7 s0_8 s0_9 from by repeat (first | (with_reducible first | exact HI0.out | apply IsS54.alloc | apply IsS54.drewN | apply IsS54.drew | apply IsS54.set_0 | apply IsS54.set_1 | apply IsS54.set_2 | apply IsS54.set_8 | apply IsS54.set_9) | exact HI0.out))) : g ≠ gb159)); have n7_ := Aside0.mk ((by rw [hg]; exact Nat.ne_of_gt (IsS54.lt (show IsS54 w0 _ g s0_0 s0_1 s0_2 s0_3 s0_4 s0_5 s0_6 s0_7 s0_8 s0_9 from by repeat (first | (with_reducible first | exact HI0.out | apply IsS54.alloc | apply IsS54.drewN | apply IsS54.drew | apply IsS54.set_0 | apply IsS54.set_1 | apply IsS54.set_2 | apply IsS54.set_8 | apply IsS54.set_9) | exact HI0.out))) : gb159 ≠ g)); clear HI0; clear HK; clear HB; have HI0 := n0_; have HK := n1_; have HB := n2_; have BK159 := n3_; have GW159 := n4_; have GE159 := n5_; have NB0_159 := n6_; have NB159_0 := n7_; clear n0_ n1_ n2_ n3_ n4_ n5_ n6_ n7_; clear hb hbox hg; have hnb19 := NB159_0.out; have hnc19 := NB0_159.out; have hcz20_0 : w18.cell? ⟨gb159, 0, none⟩ = some (.int .i64 a1_0) := (blk_cell BK159.out 0).trans rfl; have hcz20_1 : w18.cell? ⟨gb159, 1, none⟩ = some (.int .i64 a1_1) := (blk_cell BK159.out 1).trans rfl; have hfz20_0 := blk_frozen BK159.out 0; have hfz20_1 := blk_frozen BK159.out 1)); try go_wp2_with (first | ((with_reducible refine gate_dst (N := 3) rfl ?_); refine box_event ?hg (N := 3) ?hd (cs := #[.int .i64 a1_0, .int .i64 a1_1]) (t := 37) ?hr ?_; (case hd => rfl); (case hg => rfl); (case hr => first | (go_simp; done) | (go_simp; rfl)); intro gb159 hg w18 hbox hb; have n0_ := Aside0.mk (IsS54.below (by repeat (first | (with_reducible first | exact HI0.out | apply IsS54.alloc | apply IsS54.drewN | apply IsS54.drew | apply IsS54.set_0 | apply IsS54.set_1 | apply IsS54.set_2 | apply IsS54.set_8 | apply IsS54.set_9) | exact HI0.out)) hb); have n1_ := Aside0.mk (KeepBut.trans (by repeat (first | (with_reducible first | exact HK.out | apply KeepBut.set_ | apply keep_drewN | apply keep_drew | apply keep_alloc) | exact HK.out)) (KeepBut.of_below hb g none) (.inl rfl)); have n2_ := Aside0.mk (below_step (by repeat (first | (with_reducible first | exact HB.out | apply below_alloc | apply pw_below_drewN | apply below_drew1 | refine below_set ?_ (IsS54.ge HI0.out)) | exact HB.out)) hb); have n3_ := Aside0.mk (hbox); have n4_ := Aside0.mk ((by rw [hg]; exact (keep_size (w := w) (g := g) (row := none) (by repeat (first | (with_reducible first | exact HK.out | apply KeepBut.set_ | apply keep_drewN | apply keep_drew | apply keep_alloc) | exact HK.out))) : w.heap.size ≤ gb159)); have n5_ := Aside0.mk ((Nat.le_trans HW0.out (by rw [hg]; exact (keep_size (w := w) (g := g) (row := none) (by repeat (first | (with_reducible first | exact HK.out | apply KeepBut.set_ | apply keep_drewN | apply keep_drew | apply keep_alloc) | exact HK.out))) : w.heap.size ≤ gb159) : w0.heap.size ≤ gb159)); have n6_ := Aside0.mk ((by rw [hg]; exact Nat.ne_of_lt (IsS54.lt (show IsS54 w0 _ g s0_0 s0_1 s0_2 s0_3 s0_4 s0_5 s0_6 s0_7 s0_8 s0_9 from by repeat (first | (with_reducible first | exact HI0.out | apply IsS54.alloc | apply IsS54.drewN | apply IsS54.drew | apply IsS54.set_0 | apply IsS54.set_1 | apply IsS54.set_2 | apply IsS54.set_8 | apply IsS54.set_9) | exact HI0.out))) : g ≠ gb159)); have n7_ := Aside0.mk ((by rw [hg]; exact Nat.ne_of_gt (IsS54.lt (show IsS54 w0 _ g s0_0 s0_1 s0_2 s0_3 s0_4 s0_5 s0_6 s0_7 s0_8 s0_9 from by repeat (first | (with_reducible first | exact HI0.out | apply IsS54.alloc | apply IsS54.drewN | apply IsS54.drew | apply IsS54.set_0 | apply IsS54.set_1 | apply IsS54.set_2 | apply IsS54.set_8 | apply IsS54.set_9) | exact HI0.out))) : gb159 ≠ g)); clear HI0; clear HK; clear HB; have HI0 := n0_; have HK := n1_; have HB := n2_; have BK159 := n3_; have GW159 := n4_; have GE159 := n5_; have NB0_159 := n6_; have NB159_0 := n7_; clear n0_ n1_ n2_ n3_ n4_ n5_ n6_ n7_; clear hb hbox hg; have hnb19 := NB159_0.out; have hnc19 := NB0_159.out; have hcz20_0 : w18.cell? ⟨gb159, 0, none⟩ = some (.int .i64 a1_0) := (blk_cell BK159.out 0).trans rfl; have hcz20_1 : w18.cell? ⟨gb159, 1, none⟩ = some (.int .i64 a1_1) := (blk_cell BK159.out 1).trans rfl; have hfz20_0 := blk_frozen BK159.out 0; have hfz20_1 := blk_frozen BK159.out 1)))
    go_ret
    exact ⟨by first | rfl | (simp [errW_none, errW_some] <;> rfl) | (simp [*, errW_none, errW_some] <;> rfl), by repeat (first | (with_reducible first | exact HI0.out | apply IsS54.alloc | apply IsS54.drewN | apply IsS54.drew | apply IsS54.set_0 | apply IsS54.set_1 | apply IsS54.set_2 | apply IsS54.set_8 | apply IsS54.set_9 | refine IsS54.far ?_ NB0_159.out _) | exact HI0.out), by repeat (first | (with_reducible first | exact HB.out | apply below_alloc | apply pw_below_drewN | apply below_drew1 | refine below_set ?_ (IsS54.ge HI0.out) | refine below_set ?_ GE159.out) | exact HB.out), by repeat (first | (with_reducible first | exact HK.out | apply KeepBut.set_ | apply keep_drewN | apply keep_drew | apply keep_alloc | refine keep_far ?_ GW159.out _) | exact HK.out)⟩
end Go.Proofs.Ytnchdmidaigheaa.Hp
namespace Go.Proofs.Ytnchdmidaigheaa.Hp
open Go.RowKit Go.Proofs.YtnchdmidaigheaaW.PrintWords Go.Proofs.YtnchdmidaigheaaW.PrintLast Go.Proofs.YtnchdmidaigheaaW.PrintMore
attribute [local go_sem] max2_int min2_int max_two min_two max_three min_three max_four min_four   -- for this text's walks alone
set_option linter.unusedVariables false
set_option linter.unusedSimpArgs false
def wagtailref14_Dev_end.f (s0_0 : Int) (s0_1 : Int) (s0_2 : Int) (s0_3 : List Int) (s0_4 : List ByteArray) (s0_5 : List Int) (s0_6 : List Int) (s0_7 : List (S65)) (s0_8 : Int) (s0_9 : Bool) (a1 : Int) : Option (Int × Int × Int × Int × Int × Bool) := if a1 = 1 then (some (10, s0_0, s0_1, s0_2, s0_8, s0_9)) else (if a1 = 2 then (some (9, s0_0, s0_1, s0_2, s0_8, true)) else (some (0, s0_0, s0_1, s0_2, s0_8, s0_9)))
set_option maxHeartbeats 8000000 in
set_option maxRecDepth 100000 in
theorem wagtailref14_Dev_end.calls (g : Nat) (s0_0 : Int) (s0_1 : Int) (s0_2 : Int) (s0_3 : List Int) (s0_4 : List ByteArray) (s0_5 : List Int) (s0_6 : List Int) (s0_7 : List (S65)) (s0_8 : Int) (s0_9 : Bool) (a1 : Int) (r1 : Int) (r2 : Int) (r3 : Int) (r4 : Int) (r5 : Int) (r6 : Bool) (w0 w : World) (hI : IsS54 w0 w g s0_0 s0_1 s0_2 s0_3 s0_4 s0_5 s0_6 s0_7 s0_8 s0_9) (hB : Below w0.heap.size w0 w) (h : wagtailref14_Dev_end.f s0_0 s0_1 s0_2 s0_3 s0_4 s0_5 s0_6 s0_7 s0_8 s0_9 a1 = some (r1, r2, r3, r4, r5, r6)) :
    Calls Try.prog 77 #[.pointer (some ⟨g, 0, none⟩), .int .i64 a1] w fun e w' => e = .returned (.int .i64 r1) ∧ IsS54 w0 w' g r2 r3 r4 s0_3 s0_4 s0_5 s0_6 s0_7 r5 r6 ∧ Below w0.heap.size w0 w' ∧ KeepBut w w' g none := by
  have HI0 := Aside0.mk hI
  have HK := Aside0.mk (KeepBut.refl w g none)
  have HL := Aside0.mk hB.size
  clear hI
  have HW0 := Aside0.mk hB.size
  have HB := Aside0.mk hB
  clear hB
  have H : (if a1 = 1 then (some (10, s0_0, s0_1, s0_2, s0_8, s0_9)) else (if a1 = 2 then (some (9, s0_0, s0_1, s0_2, s0_8, true)) else (some (0, s0_0, s0_1, s0_2, s0_8, s0_9)))) = some (r1, r2, r3, r4, r5, r6) := h
  clear h
  by_cases c3 : a1 = 1
  · rw [if_pos c3] at H
    have c3b0 : (a1 == 1) = true := beq_iff_eq.mpr c3
    have c3b1 : (a1 != 1) = false := bne_eq_false_iff_eq.mpr c3
    clear c3
    simp only [Option.some.injEq, Prod.mk.injEq] at H
    obtain ⟨rfl, rfl, rfl, rfl, rfl, rfl⟩ := H
    go_enter Try.func77, Try.ntmps77
    go_wp2
    go_ret
    exact ⟨by first | rfl | (simp [errW_none, errW_some] <;> rfl) | (simp [*, errW_none, errW_some] <;> rfl), by repeat (first | (with_reducible first | exact HI0.out | apply IsS54.alloc | apply IsS54.drewN | apply IsS54.drew | apply IsS54.set_0 | apply IsS54.set_1 | apply IsS54.set_2 | apply IsS54.set_8 | apply IsS54.set_9) | exact HI0.out), by repeat (first | (with_reducible first | exact HB.out | apply below_alloc | apply pw_below_drewN | apply below_drew1 | refine below_set ?_ (IsS54.ge HI0.out)) | exact HB.out), by repeat (first | (with_reducible first | exact HK.out | apply KeepBut.set_ | apply keep_drewN | apply keep_drew | apply keep_alloc) | exact HK.out)⟩
  · rw [if_neg c3] at H
    have c3b0 : (a1 == 1) = false := beq_eq_false_iff_ne.mpr c3
    have c3b1 : (a1 != 1) = true := bne_iff_ne.mpr c3
    by_cases c4 : a1 = 2
    · rw [if_pos c4] at H
      have c4b0 : (a1 == 2) = true := beq_iff_eq.mpr c4
      have c4b1 : (a1 != 2) = false := bne_eq_false_iff_eq.mpr c4
      clear c4
      simp only [Option.some.injEq, Prod.mk.injEq] at H
      obtain ⟨rfl, rfl, rfl, rfl, rfl, rfl⟩ := H
      obtain ⟨ASz5_3, cSz5_3, ASz5_4, cSz5_4, ASz5_5, cSz5_5, ASz5_6, cSz5_6, ASz5_7, cSz5_7, HGz5, hgz5, HSz5_3, HSz5_4, HSz5_5, HSz5_6, HSz5_7⟩ := HI0.out
      have hcz5_0 := cellS54_0 HGz5
      have hcz5_1 := cellS54_1 HGz5
      have hcz5_2 := cellS54_2 HGz5
      have hcz5_3 := cellS54_3 HGz5
      have hcz5_4 := cellS54_4 HGz5
      have hcz5_5 := cellS54_5 HGz5
      have hcz5_6 := cellS54_6 HGz5
      have hcz5_7 := cellS54_7 HGz5
      have hcz5_8 := cellS54_8 HGz5
      have hcz5_9 := cellS54_9 HGz5
      have hfz5_0 := blk_frozen HGz5 0
      have hfz5_1 := blk_frozen HGz5 1
      have hfz5_2 := blk_frozen HGz5 2
      have hfz5_8 := blk_frozen HGz5 8
      have hfz5_9 := blk_frozen HGz5 9
      clear HGz5 hgz5
      go_enter Try.func77, Try.ntmps77
      go_wp2
      go_ret
      exact ⟨by first | rfl | (simp [errW_none, errW_some] <;> rfl) | (simp [*, errW_none, errW_some] <;> rfl), by repeat (first | (with_reducible first | exact HI0.out | apply IsS54.alloc | apply IsS54.drewN | apply IsS54.drew | apply IsS54.set_0 | apply IsS54.set_1 | apply IsS54.set_2 | apply IsS54.set_8 | apply IsS54.set_9) | exact HI0.out), by repeat (first | (with_reducible first | exact HB.out | apply below_alloc | apply pw_below_drewN | apply below_drew1 | refine below_set ?_ (IsS54.ge HI0.out)) | exact HB.out), by repeat (first | (with_reducible first | exact HK.out | apply KeepBut.set_ | apply keep_drewN | apply keep_drew | apply keep_alloc) | exact HK.out)⟩
    · rw [if_neg c4] at H
      have c4b0 : (a1 == 2) = false := beq_eq_false_iff_ne.mpr c4
      have c4b1 : (a1 != 2) = true := bne_iff_ne.mpr c4
      simp only [Option.some.injEq, Prod.mk.injEq] at H
      obtain ⟨rfl, rfl, rfl, rfl, rfl, rfl⟩ := H
      go_enter Try.func77, Try.ntmps77
      go_wp2
      go_ret
      exact ⟨by first | rfl | (simp [errW_none, errW_some] <;> rfl) | (simp [*, errW_none, errW_some] <;> rfl), by repeat (first | (with_reducible first | exact HI0.out | apply IsS54.alloc | apply IsS54.drewN | apply IsS54.drew | apply IsS54.set_0 | apply IsS54.set_1 | apply IsS54.set_2 | apply IsS54.set_8 | apply IsS54.set_9) | exact HI0.out), by repeat (first | (with_reducible first | exact HB.out | apply below_alloc | apply pw_below_drewN | apply below_drew1 | refine below_set ?_ (IsS54.ge HI0.out)) | exact HB.out), by repeat (first | (with_reducible first | exact HK.out | apply KeepBut.set_ | apply keep_drewN | apply keep_drew | apply keep_alloc) | exact HK.out)⟩
def wagtailref14_Wipe.l0 : Nat → List Int → List Int → List Int → Int → Option (List Int)
  | 0, _, _, _, _ => none
  | k + 1, x0, x1, x5, x6 => if x6 < (x0.length : Int) then (if (x1.length : Int) > 0 then (if (x1.length : Int) = 0 then (none) else (if 0 ≤ (Int.tmod x6 (x1.length : Int)) then (if (Int.tmod x6 (x1.length : Int)) < (x1.length : Int) then (if 0 ≤ x6 then (if x5.length < 140737488355328 then (wagtailref14_Wipe.l0 k x0 x1 (x5 ++ [Go.bits .or .u8 (rd x0 x6) (rd x1 (Int.tmod x6 (x1.length : Int)))]) (wrap64 (x6 + 1))) else (none)) else (none)) else (none)) else (none))) else (if 0 ≤ x6 then (if x5.length < 140737488355328 then (wagtailref14_Wipe.l0 k x0 x1 (x5 ++ [Go.bits .or .u8 (rd x0 x6) 0]) (wrap64 (x6 + 1))) else (none)) else (none))) else (some x5)
def wagtailref14_Wipe.f (k : Nat) (l0 : List Int) (l1 : List Int) : Option (List Int) := wagtailref14_Wipe.l0 k l0 l1 ([] : List Int) 0
theorem wagtailref14_Wipe.mono_l : ∀ k, (∀ y0 y1 y2 y3, LeO (wagtailref14_Wipe.l0 k y0 y1 y2 y3) (wagtailref14_Wipe.l0 (k + 1) y0 y1 y2 y3))
  | 0 => fun _ _ _ _ r h => by simp [wagtailref14_Wipe.l0] at h
  | k + 1 => by
    have ih0 := wagtailref14_Wipe.mono_l k
    · intro y0 y1 y2 y3
      unfold wagtailref14_Wipe.l0
      repeat' first
      | (with_reducible exact ih0 _ _ _ _)
      | (with_reducible exact LeO.refl _)
      | (with_reducible exact LeO.none _)
      | (with_reducible refine LeO.ite ?_ ?_)
      | (with_reducible refine LeO.bind ?_ (fun _ => ?_))
      | exact ih0 _ _ _ _
      | exact LeO.none _
      | refine LeO.ite ?_ ?_
      | refine LeO.bind ?_ (fun _ => ?_)
theorem wagtailref14_Wipe.mono : ∀ a0 a1 k, LeO (wagtailref14_Wipe.f k a0 a1) (wagtailref14_Wipe.f (k + 1) a0 a1) := by
  intro a0 a1 k
  have ih0 := wagtailref14_Wipe.mono_l k
  unfold wagtailref14_Wipe.f
  repeat' first
      | (with_reducible exact ih0 _ _ _ _)
      | (with_reducible exact LeO.refl _)
      | (with_reducible exact LeO.none _)
      | (with_reducible refine LeO.ite ?_ ?_)
      | (with_reducible refine LeO.bind ?_ (fun _ => ?_))
      | exact ih0 _ _ _ _
      | exact LeO.none _
      | refine LeO.ite ?_ ?_
      | refine LeO.bind ?_ (fun _ => ?_)
set_option maxHeartbeats 8000000 in
set_option maxRecDepth 100000 in
theorem wagtailref14_Wipe.calls (k : Nat) (A0 : Option Addr) (c0 : Nat) (l0 : List Int) (A1 : Option Addr) (c1 : Nat) (l1 : List Int) (r : List Int) (w : World) (hr0 : Kd.C (Kd.int .u8) w A0 l0.length l0) (hc0 : l0.length ≤ c0) (hr1 : Kd.C (Kd.int .u8) w A1 l1.length l1) (hc1 : l1.length ≤ c1) (h : wagtailref14_Wipe.f k l0 l1 = some r) :
    Calls Try.prog 78 #[.slice A0 l0.length c0, .slice A1 l1.length c1] w fun e w' => ∃ v0_ : Value, e = .returned (v0_) ∧ Kd.R (Kd.int .u8) 5 w' w.heap.size (fun _ => True) v0_ r ∧ Below w.heap.size w w' := by
  have HR0 := Aside0.mk hr0
  have HC0 := Aside0.mk hc0
  clear hr0 hc0
  have HR1 := Aside0.mk hr1
  have HC1 := Aside0.mk hc1
  clear hr1 hc1
  have HB := Aside0.mk (Below.refl w.heap.size w)
  have H : (wagtailref14_Wipe.l0 k l0 l1 ([] : List Int) 0) = some r := h
  clear h
  have H' := Aside0.mk H
  clear H
  go_enter Try.func78, Try.ntmps78
  go_wp2
  go_loopg [5, 6] k (fun kq v5 v6 w' => ∃ (x5_1 : List Int) (x6_1 : Int), v6 = .int .i64 x6_1 ∧ Aside0 (wagtailref14_Wipe.l0 kq l0 l1 x5_1 x6_1 = some r) ∧ Aside0 (kq ≤ k) ∧ Aside0 (Kd.R (Kd.int .u8) 5 w' w.heap.size (fun _ => True) v5 x5_1) ∧ Aside0 (Below w.heap.size w w'))
  case atStart => exact ⟨(([] : List Int)), (0), (by first | rfl | (simp; done) | (simp [*]; done)), H', ⟨Nat.le_refl _⟩, ⟨by first | exact Kd.R_nil _ _ _ _ _ | exact Kd.N_nil _ _ _ _ _ | exact Kd.V_nil _ _ _ _ _ | exact Kd.Q_nil _ _ _ _ _ | exact Kd.S_nil _ _ _ _ _⟩, ⟨by repeat (first | (with_reducible first | exact HB.out | apply below_alloc | apply pw_below_drewN | apply below_drew1) | exact HB.out)⟩⟩
  case round =>
    clear H'
    try clear c1
    try clear p2
    obtain ⟨x5_1, x6_1, rfl, HA, HK1, HO_5, HB⟩ := hrel
    cases gk with
    | zero => exact absurd HA.out (by simp [wagtailref14_Wipe.l0])
    | succ k1 =>
      have H := HA.out
      clear HA
      simp only [wagtailref14_Wipe.l0] at H
      by_cases c3 : x6_1 < (l0.length : Int)
      · rw [if_pos c3] at H
        have c3b0 : decide (x6_1 < (l0.length : Int)) = true := decide_eq_true c3
        clear c3
        by_cases c4 : (l1.length : Int) > 0
        · rw [if_pos c4] at H
          have c4b0 : decide (0 < (l1.length : Int)) = true := decide_eq_true c4
          have c4b1 : decide (0 < l1.length) = true := decide_eq_true (by omega)
          clear c4
          by_cases c5 : (l1.length : Int) = 0
          · rw [if_pos c5] at H
            exact absurd H (by simp)
          · rw [if_neg c5] at H
            have c5b0 : ((l1.length : Int) == 0) = false := beq_eq_false_iff_ne.mpr c5
            have c5b1 : ((l1.length : Int) != 0) = true := bne_iff_ne.mpr c5
            have c5b2 : ¬ (l1 = []) := fun h_ => c5 (by rw [h_]; rfl)
            obtain ⟨ji6, hji6⟩ : ∃ j_ : Int, (Int.tmod x6_1 (l1.length : Int)) = j_ := ⟨_, rfl⟩
            replace H : (if 0 ≤ (ji6) then (if (ji6) < (l1.length : Int) then (if 0 ≤ x6_1 then (if x5_1.length < 140737488355328 then (wagtailref14_Wipe.l0 k1 l0 l1 (x5_1 ++ [Go.bits .or .u8 (rd l0 x6_1) (rd l1 (ji6))]) (wrap64 (x6_1 + 1))) else (none)) else (none)) else (none)) else (none)) = some r := by first | (rw [hji6] at H; exact H) | (simp only [hji6] at H ⊢; exact H)
            by_cases c7 : 0 ≤ (ji6)
            · rw [if_pos c7] at H
              have c7b0 : decide (0 ≤ (ji6)) = true := decide_eq_true c7
              clear c7
              by_cases c8 : (ji6) < (l1.length : Int)
              · rw [if_pos c8] at H
                have c8b0 : decide ((ji6) < (l1.length : Int)) = true := decide_eq_true c8
                clear c8
                by_cases c9 : 0 ≤ x6_1
                · rw [if_pos c9] at H
                  have c9b0 : decide (0 ≤ x6_1) = true := decide_eq_true c9
                  clear c9
                  by_cases c10 : x5_1.length < 140737488355328
                  · rw [if_pos c10] at H
                    have LMc10 := Aside0.mk c10
                    clear c10
                    obtain ⟨y189, hy189⟩ : ∃ y_ : List Int, y_ = (x5_1 ++ [Go.bits .or .u8 (rd l0 x6_1) (rd l1 (ji6))]) := ⟨_, rfl⟩
                    replace H : (wagtailref14_Wipe.l0 k1 l0 l1 y189 (wrap64 (x6_1 + 1))) = some r := by first | (rw [hy189]; with_reducible exact H) | (have H2_ := (Option.bind_some _ _).symm.trans H; rw [hy189]; with_reducible exact H2_) | (have H2_ := (Option.bind_some _ _).symm.trans H; with_reducible exact H2_) | with_reducible exact H | (rw [hy189]; exact H) | exact H
                    have Ny189 := Aside0.mk hy189
                    clear hy189
                    have H' := Aside0.mk H
                    clear H
                    have p187 : 0 ≤ ((ji6) : Int) := of_decide_eq_true (by first | (with_reducible assumption) | assumption)
                    have q187 : (ji6) < (l1.length : Int) := of_decide_eq_true (by first | (with_reducible assumption) | assumption)
                    obtain ⟨ad187, e187, hx187_0⟩ := Kd.at_int HR1.out (ji6) p187 q187
                    cases e187
                    replace hx187_0 := (HB.out.cell (World.block_lt_of_cell? w _ hx187_0)).trans hx187_0
                    replace p187 := eq_true p187
                    replace q187 := eq_true q187
                    have p188 : 0 ≤ (x6_1 : Int) := of_decide_eq_true (by first | (with_reducible assumption) | assumption)
                    have q188 : x6_1 < (l0.length : Int) := of_decide_eq_true (by first | (with_reducible assumption) | assumption)
                    obtain ⟨ad188, e188, hx188_0⟩ := Kd.at_int HR0.out x6_1 p188 q188
                    cases e188
                    replace hx188_0 := (HB.out.cell (World.block_lt_of_cell? w _ hx188_0)).trans hx188_0
                    replace p188 := eq_true p188
                    replace q188 := eq_true q188
                    go_wp2_with (first | ((with_reducible refine gate_builtin (b := .append) (xs := #[.tmp 24, .tmp 31]) rfl ?_); at_builtin; refine Kd.R_append (Kd.int .u8) (w0 := w) w.heap.size rfl (.tmp 24) (.tmp 31) 38 5 (.int .u8 0) 1 rfl Try.underlying38 info5 rfl (by decide) (by omega) u5 x5_1 (Go.bits .or .u8 (rd l0 x6_1) (rd l1 (ji6))) [.int .u8 (Go.bits .or .u8 (rd l0 x6_1) (rd l1 (ji6)))] (fun _ => True) (fun _ => False) rfl rfl ?aP (fun _ hk => hk.elim) ?aF ?aO ?aB ?aS ?aL ?_; (case aP => exact rfl); (case aB => exact (by repeat (first | (with_reducible first | exact HB.out | apply below_alloc | apply pw_below_drewN | apply below_drew1) | exact HB.out))); (case aF => exact (fun _ _ => trivial)); (case aO => exact (by (with_reducible repeat (first | apply Kd.R_alloc | apply Kd.R_drewN | apply Kd.R_drew)); exact HO_5.out)); (case aS => exact (below_size (by repeat (first | (with_reducible first | exact HB.out | apply below_alloc | apply pw_below_drewN | apply below_drew1) | exact HB.out)))); (case aL => have := LMc10.out; omega); intro v190 w11 ho hb hg hat; rw [← Ny189.out] at ho; have n0_ := Aside0.mk (hb); have n1_ := Aside0.mk (ho); clear HB; clear HO_5; have HB := n0_; have HO191 := n1_; clear n0_ n1_; clear ho hb hg hat))
                    go_roundg k1
                    case measure => have := HK1.out; omega
                    case rel => exact ⟨(y189), (wrap64 (x6_1 + 1)), (by first | rfl | (simp; done) | (simp [*]; done)), H', ⟨by have := HK1.out; omega⟩, ⟨by (with_reducible repeat (first | apply Kd.R_alloc | apply Kd.R_drewN | apply Kd.R_drew)); exact HO191.out⟩, ⟨by repeat (first | (with_reducible first | exact HB.out | apply below_alloc | apply pw_below_drewN | apply below_drew1) | exact HB.out)⟩⟩
                  · rw [if_neg c10] at H
                    exact absurd H (by simp)
                · rw [if_neg c9] at H
                  exact absurd H (by simp)
              · rw [if_neg c8] at H
                exact absurd H (by simp)
            · rw [if_neg c7] at H
              exact absurd H (by simp)
        · rw [if_neg c4] at H
          have c4b0 : decide (0 < (l1.length : Int)) = false := decide_eq_false c4
          have c4b1 : decide (0 < l1.length) = false := decide_eq_false (by omega)
          clear c4
          by_cases c12 : 0 ≤ x6_1
          · rw [if_pos c12] at H
            have c12b0 : decide (0 ≤ x6_1) = true := decide_eq_true c12
            clear c12
            by_cases c13 : x5_1.length < 140737488355328
            · rw [if_pos c13] at H
              have LMc13 := Aside0.mk c13
              clear c13
              obtain ⟨y193, hy193⟩ : ∃ y_ : List Int, y_ = (x5_1 ++ [Go.bits .or .u8 (rd l0 x6_1) 0]) := ⟨_, rfl⟩
              replace H : (wagtailref14_Wipe.l0 k1 l0 l1 y193 (wrap64 (x6_1 + 1))) = some r := by first | (rw [hy193]; with_reducible exact H) | (have H2_ := (Option.bind_some _ _).symm.trans H; rw [hy193]; with_reducible exact H2_) | (have H2_ := (Option.bind_some _ _).symm.trans H; with_reducible exact H2_) | with_reducible exact H | (rw [hy193]; exact H) | exact H
              have Ny193 := Aside0.mk hy193
              clear hy193
              have H' := Aside0.mk H
              clear H
              have p192 : 0 ≤ (x6_1 : Int) := of_decide_eq_true (by first | (with_reducible assumption) | assumption)
              have q192 : x6_1 < (l0.length : Int) := of_decide_eq_true (by first | (with_reducible assumption) | assumption)
              obtain ⟨ad192, e192, hx192_0⟩ := Kd.at_int HR0.out x6_1 p192 q192
              cases e192
              replace hx192_0 := (HB.out.cell (World.block_lt_of_cell? w _ hx192_0)).trans hx192_0
              replace p192 := eq_true p192
              replace q192 := eq_true q192
              go_wp2_with (first | ((with_reducible refine gate_builtin (b := .append) (xs := #[.tmp 24, .tmp 31]) rfl ?_); at_builtin; refine Kd.R_append (Kd.int .u8) (w0 := w) w.heap.size rfl (.tmp 24) (.tmp 31) 38 5 (.int .u8 0) 1 rfl Try.underlying38 info5 rfl (by decide) (by omega) u5 x5_1 (Go.bits .or .u8 (rd l0 x6_1) 0) [.int .u8 (Go.bits .or .u8 (rd l0 x6_1) 0)] (fun _ => True) (fun _ => False) rfl rfl ?aP (fun _ hk => hk.elim) ?aF ?aO ?aB ?aS ?aL ?_; (case aP => exact rfl); (case aB => exact (by repeat (first | (with_reducible first | exact HB.out | apply below_alloc | apply pw_below_drewN | apply below_drew1) | exact HB.out))); (case aF => exact (fun _ _ => trivial)); (case aO => exact (by (with_reducible repeat (first | apply Kd.R_alloc | apply Kd.R_drewN | apply Kd.R_drew)); exact HO_5.out)); (case aS => exact (below_size (by repeat (first | (with_reducible first | exact HB.out | apply below_alloc | apply pw_below_drewN | apply below_drew1) | exact HB.out)))); (case aL => have := LMc13.out; omega); intro v194 w14 ho hb hg hat; rw [← Ny193.out] at ho; have n0_ := Aside0.mk (hb); have n1_ := Aside0.mk (ho); clear HB; clear HO_5; have HB := n0_; have HO195 := n1_; clear n0_ n1_; clear ho hb hg hat))
              go_roundg k1
              case measure => have := HK1.out; omega
              case rel => exact ⟨(y193), (wrap64 (x6_1 + 1)), (by first | rfl | (simp; done) | (simp [*]; done)), H', ⟨by have := HK1.out; omega⟩, ⟨by (with_reducible repeat (first | apply Kd.R_alloc | apply Kd.R_drewN | apply Kd.R_drew)); exact HO195.out⟩, ⟨by repeat (first | (with_reducible first | exact HB.out | apply below_alloc | apply pw_below_drewN | apply below_drew1) | exact HB.out)⟩⟩
            · rw [if_neg c13] at H
              exact absurd H (by simp)
          · rw [if_neg c12] at H
            exact absurd H (by simp)
      · rw [if_neg c3] at H
        have c3b0 : decide (x6_1 < (l0.length : Int)) = false := decide_eq_false c3
        clear c3
        obtain rfl := Option.some.inj H
        go_wp2
        go_ret
        exact ⟨_, by first | rfl | (simp [errW_none, errW_some] <;> rfl) | (simp [*, errW_none, errW_some] <;> rfl), by (with_reducible repeat (first | apply Kd.R_alloc | apply Kd.R_drewN | apply Kd.R_drew)); exact HO_5.out, by repeat (first | (with_reducible first | exact HB.out | apply below_alloc | apply pw_below_drewN | apply below_drew1) | exact HB.out)⟩
end Go.Proofs.Ytnchdmidaigheaa.Hp
namespace Go.Proofs.Ytnchdmidaigheaa.ND
set_option linter.unusedVariables false
set_option linter.unusedSimpArgs false
open Go.RowKit Go.Proofs.Ytnchdmidaigheaa.Hp Go.Proofs.YtnchdmidaigheaaW.PrintWords Go.Proofs.YtnchdmidaigheaaW.PrintLast Go.Proofs.YtnchdmidaigheaaW.PrintMore
theorem progRow_len (a b m : List Int) : (progRow a b m).length = a.length := by simp [progRow]
theorem progRow_at (a b m : List Int) (i : Nat) (h : i < a.length) : (progRow a b m).getD i 0 = if i < b.length then progByte (a.getD i 0) (b.getD i 0) (maskAt m i) else a.getD i 0 := by
  rw [List.getD_eq_getElem?_getD, List.getElem?_eq_getElem (by rw [progRow_len]; exact h)]
  simp [progRow]
theorem sub_and_nat : ∀ c : Nat, c < 256 → ∀ y : Nat, y < 256 → c - (c &&& y) = c &&& (255 - y) := by decide +kernel
theorem or_not_nat : ∀ x : Nat, x < 256 → ∀ k : Nat, k < 256 → 255 - (k &&& (255 - x)) = x ||| (255 - k) := by decide +kernel
theorem part_byte (c x k : Int) (hc : 0 ≤ c ∧ c ≤ 255) (hx : 0 ≤ x ∧ x ≤ 255) (hk : 0 ≤ k ∧ k ≤ 255) :
    (c - bits BinOp.and .u8 (bits BinOp.and .u8 c k) ((255 - x) % 256)) % 256 = progByte c x k := by
  obtain ⟨c, rfl⟩ := Int.eq_ofNat_of_zero_le hc.1
  obtain ⟨x, rfl⟩ := Int.eq_ofNat_of_zero_le hx.1
  obtain ⟨k, rfl⟩ := Int.eq_ofNat_of_zero_le hk.1
  have e1 : ((255 - (x : Int)) % 256) = ((255 - x : Nat) : Int) := by omega
  have hck : c &&& k < 256 := Nat.and_lt_two_pow c (n := 8) (by omega)
  rw [e1, and8 c k (by omega) (by omega), and8 _ _ hck (by omega), Nat.and_assoc]
  have hy : k &&& (255 - x) < 256 := Nat.and_lt_two_pow k (n := 8) (by omega)
  have h1 := sub_and_nat c (by omega) (k &&& (255 - x)) hy
  rw [or_not_nat x (by omega) k (by omega)] at h1
  have h2 := Nat.and_le_left (n := c) (m := k &&& (255 - x))
  unfold progByte
  simp only [Int.toNat_natCast]
  rw [← h1]
  omega
theorem getD_range (m : List Int) (hm : isBytes m) (i : Nat) : 0 ≤ m.getD i 0 ∧ m.getD i 0 ≤ 255 := rd_range m hm i
theorem w64 {x : Int} (h : -9223372036854775808 ≤ x ∧ x ≤ 9223372036854775807) : wrap64 x = x := by unfold wrap64; omega
theorem row_take (l : List Int) (i : Nat) (h : i < l.length) : l.take (i + 1) = l.take i ++ [l.getD i 0] := by
  rw [List.take_add_one, List.getElem?_eq_getElem h, List.getD_eq_getElem?_getD, List.getElem?_eq_getElem h]
  rfl
theorem mask_mod (m : List Int) (i : Nat) (h : 0 < m.length) : Int.tmod (i : Int) (m.length : Int) = ((i % m.length : Nat) : Int) := by
  rw [Int.tmod_eq_emod_of_nonneg (by omega)]
  rfl
theorem part_loop (o b m : List Int) (ho : isBytes o) (hb : isBytes b) (hm : isBytes m) (hl : o.length ≤ b.length) (hn : o.length ≤ 100000) (d : Nat) : ∀ i : Nat, i + d = o.length →
    Ev (fun k => wagtailref14_Part.l0 k o b m ((progRow o b m).take i) (i : Int)) (progRow o b m) := by
  induction d with
  | zero =>
    intro i hi
    refine Ev.step (f := fun _ => some (progRow o b m)) (fun k => ?_) (Ev.now _)
    simp only [wagtailref14_Part.l0]
    rw [if_neg (by omega), List.take_of_length_le (by rw [progRow_len]; omega)]
  | succ d ih =>
    intro i hi
    have e : (progRow o b m).getD i 0 = progByte (o.getD i 0) (b.getD i 0) (maskAt m i) := by rw [progRow_at o b m i (by omega), if_pos (by omega)]
    have hp := part_byte (o.getD i 0) (b.getD i 0) (maskAt m i) (getD_range o ho i) (getD_range b hb i) (maskAt_range m hm i)
    rw [← e] at hp
    refine Ev.step (fun k => ?_) (ih (i + 1) (by omega))
    have hw : wrap64 ((i : Int) + 1) = ((i + 1 : Nat) : Int) := by rw [w64 (by omega)]; omega
    have hlen : ((progRow o b m).take i).length < 140737488355328 := by rw [List.length_take, progRow_len]; omega
    rw [row_take (progRow o b m) i (by rw [progRow_len]; omega), ← hp]
    simp only [wagtailref14_Part.l0]
    rw [if_pos (by omega), hw]
    by_cases hz : m.length = 0
    · rw [if_neg (by omega), if_pos (by omega), if_pos (by omega), if_pos hlen]
      have : maskAt m i = 0 := by unfold maskAt; rw [if_pos hz]
      rw [this]
      rfl
    · have h0 : i % m.length < m.length := Nat.mod_lt _ (by omega)
      rw [if_pos (by omega), if_neg (by omega), mask_mod m i (by omega), if_pos (by omega), if_pos (by omega), if_pos (by omega), if_pos (by omega), if_pos hlen]
      have : maskAt m i = m.getD (i % m.length) 0 := by unfold maskAt; rw [if_neg hz]
      rw [this]
      rfl
theorem part_ev (o b m : List Int) (ho : isBytes o) (hb : isBytes b) (hm : isBytes m) (hl : o.length ≤ b.length) (hn : o.length ≤ 100000) : Ev (fun k => wagtailref14_Part.f k o b m) (progRow o b m) :=
  part_loop o b m ho hb hm hl hn o.length 0 (by omega)
theorem wipeRow_len (a m : List Int) : (wipeRow a m).length = a.length := by simp [wipeRow]
theorem wipeRow_at (a m : List Int) (i : Nat) (h : i < a.length) : (wipeRow a m).getD i 0 = (((a.getD i 0).toNat ||| (maskAt m i).toNat : Nat) : Int) := by
  rw [List.getD_eq_getElem?_getD, List.getElem?_eq_getElem (by rw [wipeRow_len]; exact h)]
  simp [wipeRow]
theorem rwipe_loop (o m : List Int) (ho : isBytes o) (hm : isBytes m) (hn : o.length ≤ 100000) (d : Nat) : ∀ i : Nat, i + d = o.length →
    Ev (fun k => wagtailref14_Wipe.l0 k o m ((wipeRow o m).take i) (i : Int)) (wipeRow o m) := by
  induction d with
  | zero =>
    intro i hi
    refine Ev.step (f := fun _ => some (wipeRow o m)) (fun k => ?_) (Ev.now _)
    simp only [wagtailref14_Wipe.l0]
    rw [if_neg (by omega), List.take_of_length_le (by rw [wipeRow_len]; omega)]
  | succ d ih =>
    intro i hi
    have e : (wipeRow o m).getD i 0 = _ := wipeRow_at o m i (by omega)
    have hp := wipe_bits (o.getD i 0) (maskAt m i) (getD_range o ho i) (maskAt_range m hm i)
    rw [← e] at hp
    refine Ev.step (fun k => ?_) (ih (i + 1) (by omega))
    have hw : wrap64 ((i : Int) + 1) = ((i + 1 : Nat) : Int) := by rw [w64 (by omega)]; omega
    have hlen : ((wipeRow o m).take i).length < 140737488355328 := by rw [List.length_take, wipeRow_len]; omega
    rw [row_take (wipeRow o m) i (by rw [wipeRow_len]; omega), ← hp]
    simp only [wagtailref14_Wipe.l0]
    rw [if_pos (by omega), hw]
    by_cases hz : m.length = 0
    · rw [if_neg (by omega), if_pos (by omega), if_pos hlen]
      have : maskAt m i = 0 := by unfold maskAt; rw [if_pos hz]
      rw [this]
      rfl
    · have h0 : i % m.length < m.length := Nat.mod_lt _ (by omega)
      rw [if_pos (by omega), if_neg (by omega), mask_mod m i (by omega), if_pos (by omega), if_pos (by omega), if_pos (by omega), if_pos hlen]
      have : maskAt m i = m.getD (i % m.length) 0 := by unfold maskAt; rw [if_neg hz]
      rw [this]
      rfl
theorem rwipe_ev (o m : List Int) (ho : isBytes o) (hm : isBytes m) (hn : o.length ≤ 100000) : Ev (fun k => wagtailref14_Wipe.f k o m) (wipeRow o m) :=
  rwipe_loop o m ho hm hn o.length 0 (by omega)
theorem bytes_str (a : List Int) (h : isBytes a) : bytesOf (strOfNums a) = a := by
  unfold bytesOf strOfNums
  simp only [List.map_map]
  conv => rhs; rw [← List.map_id a]
  refine List.map_congr_left (fun x hx => ?_)
  have := h x hx
  simp only [Function.comp, id, UInt8.toNat_ofNat']
  omega
theorem str_len (a : List Int) : (strOfNums a).size = a.length := by
  simp [strOfNums, ByteArray.size]
theorem text_C {W : World} {e : TypeId} {l : List Int} (hl : isBytes l ∧ l.length = 256) : Kd.C (Kd.int .u8) (Lib.bytesWorld W e (strOfNums l)) (some ⟨W.heap.size, 0, none⟩) 256 l := by
  have h := Kd.C_of_reads (enc := Value.int .u8) (h1 := fun _ => rfl) (bytes_reads W e (strOfNums l) (by rw [str_len]; omega))
  rw [bytes_str l hl.1, str_len, hl.2] at h
  exact h
theorem part_calls {W : World} {A0 A1 A2 : Option Addr} {c0 c1 c2 : Nat} {o l m : List Int} (ho : isBytes o ∧ o.length = 256) (hl : isBytes l ∧ l.length = 256) (hm : isBytes m) (h0 : 256 ≤ c0) (h1 : l.length ≤ c1) (h2 : m.length ≤ c2) (g0 : Kd.C (Kd.int .u8) W A0 256 o) (g1 : Kd.C (Kd.int .u8) W A1 l.length l) (g2 : Kd.C (Kd.int .u8) W A2 m.length m) :
    Calls Try.prog 76 #[.slice A0 256 c0, .slice A1 l.length c1, .slice A2 m.length c2] W fun e w' => ∃ A c, e = .returned (.slice A 256 c) ∧ 256 ≤ c ∧ Kd.C (Kd.int .u8) w' A 256 (progRow o l m) ∧ Below W.heap.size W w' := by
  obtain ⟨K, hK⟩ := part_ev o l m ho.1 hl.1 hm (by rw [ho.2, hl.2]; exact Nat.le_refl _) (by rw [ho.2]; omega)
  have h := wagtailref14_Part.calls K A0 c0 o A1 c1 l A2 c2 m _ W (by rw [ho.2]; exact g0) (by rw [ho.2]; exact h0) g1 h1 g2 h2 (hK K (Nat.le_refl _))
  rw [ho.2] at h
  refine h.mono ?_
  rintro e w' ⟨v, rfl, hR, hb⟩
  obtain ⟨A, c, rfl, hc, hC⟩ := Kd.R_reads hR
  rw [(progRow_ok ho.1 ho.2).2] at hc hC ⊢
  exact ⟨A, c, rfl, hc, hC, hb⟩
theorem wipe_calls {W : World} {A0 A2 : Option Addr} {c0 c2 : Nat} {o m : List Int} (ho : isBytes o ∧ o.length = 256) (hm : isBytes m) (h0 : 256 ≤ c0) (h2 : m.length ≤ c2) (g0 : Kd.C (Kd.int .u8) W A0 256 o) (g2 : Kd.C (Kd.int .u8) W A2 m.length m) :
    Calls Try.prog 78 #[.slice A0 256 c0, .slice A2 m.length c2] W fun e w' => ∃ A c, e = .returned (.slice A 256 c) ∧ 256 ≤ c ∧ Kd.C (Kd.int .u8) w' A 256 (wipeRow o m) ∧ Below W.heap.size W w' := by
  obtain ⟨K, hK⟩ := rwipe_ev o m ho.1 hm (by rw [ho.2]; omega)
  have h := wagtailref14_Wipe.calls K A0 c0 o A2 c2 m _ W (by rw [ho.2]; exact g0) (by rw [ho.2]; exact h0) g2 h2 (hK K (Nat.le_refl _))
  rw [ho.2] at h
  refine h.mono ?_
  rintro e w' ⟨v, rfl, hR, hb⟩
  obtain ⟨A, c, rfl, hc, hC⟩ := Kd.R_reads hR
  rw [(wipeRow_ok ho.1 hm ho.2).2] at hc hC ⊢
  exact ⟨A, c, rfl, hc, hC, hb⟩
end Go.Proofs.Ytnchdmidaigheaa.ND
namespace Go.Proofs.Ytnchdmidaigheaa.ND
set_option linter.unusedVariables false
set_option linter.unusedSimpArgs false
open Go.RowKit Go.Proofs.Ytnchdmidaigheaa.Hp Go.Proofs.YtnchdmidaigheaaW.PrintWords Go.Proofs.YtnchdmidaigheaaW.PrintLast Go.Proofs.YtnchdmidaigheaaW.PrintMore
section
variable {P : Program} {ops : Array Oper} {Q : Exit → Act → World → Prop}
theorem goesv_ {oi : Oper} {N : Option Tmp} {a : Act} {w : World} {K : Act → World → Prop} {f : FuncId} {fn : Func} {as_ : Array Operand} {ts : Array TypeId} {tc : Tmp} {caps : Array Value} (hf : P.funcs[f]? = some fn) (hname : (fn.name == "runtime.NumGoroutine") = false) (hb : fn.body.isSome = true) (args : Array Value)
    (hw : Region.wanted oi (yielded ops a.tmps) = true) (hN : oi.dst = N) (hop : oi.op = .call { callee := .value (.tmp tc), args := as_, argTypes := ts }) (hc : a.tmps[tc]? = some (.func (.func f) #[] caps)) (hargs : as_.map a.eval = args)
    (h : Calls P f (args ++ caps) w fun e w' => ∃ v, e = .returned v ∧ K (a.put N v) w') : if Region.wanted oi (yielded ops a.tmps) = true then Oper.wp P oi a w K Q else K (a.put N undef) w := by
  refine call_ f (args ++ caps) hw hN ?_ h
  have he := enters_ hf hname hb (args ++ caps) w
  have hc' : a.tmps.getD tc undef = .func (.func f) #[] caps := by simp [Array.getD_eq_getD_getElem?, hc]
  unfold execOp
  simp [hop, resolve, Deferred.ofValue, invoke, Act.eval, hargs, he, hc']
end
def change0.T0 : Bool × List (List Nat × List Nat) := (true, [([], []), ([0], [0]), ([1], [1]), ([2], [2]), ([], []), ([], []), ([], []), ([6], [6]), ([7], [7]), ([8], [8]), ([], []), ([9, 10], [9, 10]), ([11], [11]), ([5, 12], [5, 12]), ([3, 4, 0, 1, 2, 3, 4, 5, 6, 7, 8, 9, 10, 11, 12, 13], [3, 4]), ([14, 13, 13, 0, 1, 2, 3, 4, 5, 6, 7, 8, 9, 10, 11, 12, 13], [13, 14])])
def change0.B0 : List Nat := [0, 1, 3, 7, 0, 0, 0, 64, 192, 448, 0, 1984, 4032, 8160, 16383, 32767]
theorem change0.tab0 : rtab .any (opsOf Try.f65 0) = change0.T0 := by kernel_rfl
theorem change0.bits0 : waitsOk change0.T0.2 change0.B0 = true := by kernel_rfl
theorem newer_le {W W' : World} {ok : Nat → Prop} (h : W.heap.size ≤ W'.heap.size) : ∀ k, newer W' ok k → newer W ok k := fun k hk => hk.elim .inl (fun hk => .inr (Nat.le_trans h hk))
theorem DV.newer_ {W W' : World} {ok : Nat → Prop} {L : Lay} {D : Dv} (h : DV W' ok L D) (hl : ∀ k, L.S k → k < W.heap.size) : DV W' (newer W ok) L D :=
  h.mono (fun k hk => .inl hk) (fun k hk hlt hS => by
    rcases hk with hk | hk
    · exact h.no k hk hlt hS
    · have := hl k hS; omega)
set_option maxHeartbeats 2000000 in
set_option maxRecDepth 100000 in
theorem change_calls {W : World} {ok : Nat → Prop} {L : Lay} {D : Dv} (h : DV W ok L D) (i : Nat) (hi : i < D.pages.length) (kf : FuncId) (fn : Func) (caps : Array Value) (hK : Try.prog.funcs[kf]? = some fn) (hname : (fn.name == "runtime.NumGoroutine") = false) (hbody : fn.body.isSome = true) (l' : List Int) (hl : isBytes l' ∧ l'.length = 256)
    (hdo : ∀ W', Below W.heap.size W W' → ∀ A c, 256 ≤ c → Kd.C (Kd.int .u8) W' A 256 (D.pages.getD i []) → Calls Try.prog kf (#[.slice A 256 c] ++ caps) W' fun e w' => ∃ A c, e = .returned (.slice A 256 c) ∧ 256 ≤ c ∧ Kd.F (Kd.int .u8) w' (newer W' ok) A 256 l' ∧ Below W'.heap.size W' w') :
    Calls Try.prog 65 #[.pointer (some ⟨L.g, 0, none⟩), .int .i64 (i : Int),   .func (.func kf) #[] caps] W fun e w' => e = .returned (.tuple #[]) ∧ DV w' (newer W ok) L { D with pages := D.pages.set i l' } ∧ Turn W w' L.S := by
  obtain ⟨vs, hcv, hpg⟩ := h.pg
  have hil : i < vs.length := by rw [hpg.1]; exact hi
  obtain ⟨Ai, ci, hv, hci, hFi⟩ := hpg.2 i vs[i] (D.pages.getD i []) (List.getElem?_eq_getElem hil) (by rw [List.getD_eq_getElem?_getD, List.getElem?_eq_getElem hi]; rfl)
  have HV : Aside0 (vs[i]? = some (.slice Ai 256 ci)) := ⟨by rw [List.getElem?_eq_getElem hil, hv]⟩
  have HC := Aside0.mk hcv
  have HFI := Aside0.mk (And.intro hci hFi)
  have HP := Aside0.mk (And.intro (eq_true (show (0 : Int) ≤ (i : Int) by omega)) (eq_true (show (i : Int) < ((D.pages.length : Nat) : Int) by omega)))
  have H := Aside0.mk h
  have HDO := Aside0.mk hdo
  have HK := Aside0.mk (And.intro hK (And.intro hname hbody))
  have HLL := Aside0.mk hl
  have B0 := Aside0.mk (below_drew1 (Below.refl W.heap.size W))
  clear hcv hpg hil hv hci hFi h hdo hK hname hbody hl hi
  go_enter Try.func65, Try.ntmps65
  go_upto_region 0 with fail
  refine start_ (n := 16) (S := fun w' => True) (ds := []) #[false, false, false, false, false, false, false, false, false, false, false, false, false, false, false, false] (by kernel_rfl) rfl rfl trivial (fun hHeld => ?_)
  refine with_tabW change0.tab0 change0.bits0 (fun HT_ HW_ => ?_)
  generalize W.drew = wq at B0 hHeld ⊢
  refine inv_at [0, 1, 2, 3, 4, 5, 6, 7, 8, 9, 10, 11, 12, 13, 14, 15] (fun a0_ b a w' => ∃ (A13 : Option Addr) (c13 : Nat) (m13_ : Value), a = putSel a0_ b [(0, 6, .pointer (some ⟨L.g, 0, none⟩)), (1, 7, .pointer (some ⟨L.g, 0, none⟩)), (2, 8, .pointer (some ⟨L.g, 4, none⟩)), (3, 9, .slice (some ⟨L.gp, 0, none⟩) D.pages.length L.cp), (4, 10, .int .i64 (i : Int)), (5, 11, .func (.func kf) #[] caps), (6, 12, .pointer (some ⟨L.g, 0, none⟩)), (7, 13, .pointer (some ⟨L.g, 0, none⟩)), (8, 14, .pointer (some ⟨L.g, 4, none⟩)), (9, 15, .slice (some ⟨L.gp, 0, none⟩) D.pages.length L.cp), (10, 16, .int .i64 (i : Int)), (11, 17, .pointer (some ⟨L.gp, i, none⟩)), (12, 18, .slice Ai 256 ci), (13, 19, m13_), (14, 20, .pointer (some ⟨L.gp, i, none⟩))] ∧ (b 15 = false → Below W.heap.size W w') ∧ (b 13 = true → b 15 = false → 256 ≤ c13 ∧ Kd.F (Kd.int .u8) w' (newer W ok) A13 256 l') ∧ (b 15 = true → DV w' (newer W ok) L { D with pages := D.pages.set i l' } ∧ Turn W w' L.S) ∧ (b 13 = true → (m13_ : Value) = .slice A13 256 c13)) HT_.out HW_.out (by kernel_rfl) (by kernel_rfl) ?_ ?_ ?_
  · exact ⟨none, 0, .bool false, by simp only [putSel, Bool.false_eq_true, if_false], fun _ => B0.out, fun h_ => absurd h_ (by decide), fun h_ => absurd h_ (by decide), fun h_ => absurd h_ (by decide)⟩
  · skip
    clear B0
    refine steps_cons ?_ ?_
    · rintro b a w' ⟨A13, c13, m13_, ha, Q_B0, Q_R13, Q_FIN, Q_X13_⟩ hb_ hon hoff
      refine ⟨_, rfl, fun K hK => ?_⟩
      have e0 : a.tmps[0]? = some (.pointer (some ⟨L.g, 0, none⟩)) := by rw [ha]; exact (putSel_off rfl).trans rfl
      replace ha := Aside0.mk ha
      have B0 := Aside0.mk (Q_B0 (hoff 15 (by kernel_rfl)))
      refine value_ (w1 := w') (v := .pointer (some ⟨L.g, 0, none⟩)) (by rfl) rfl ?_ ?_
      · go_simp
        (try simp only [i64_w])
        try rfl
      refine hK.out _ _ ⟨A13, c13, m13_, (by rw [ha.out]; exact putSel_upk 0 hb_ rfl rfl rfl), Q_B0, Q_R13, fun h0_ => absurd ((hoff 15 (by kernel_rfl)).symm.trans h0_) (by decide), Q_X13_⟩
    refine steps_cons ?_ ?_
    · rintro b a w' ⟨A13, c13, m13_, ha, Q_B0, Q_R13, Q_FIN, Q_X13_⟩ hb_ hon hoff
      refine ⟨_, rfl, fun K hK => ?_⟩
      have e6 : a.tmps[6]? = some (.pointer (some ⟨L.g, 0, none⟩)) := by rw [ha]; exact putSel_on (e := (0, 6, .pointer (some ⟨L.g, 0, none⟩))) 0 rfl rfl (hon 0 (by kernel_rfl)) rfl
      replace ha := Aside0.mk ha
      have B0 := Aside0.mk (Q_B0 (hoff 15 (by kernel_rfl)))
      refine value_ (w1 := w') (v := .pointer (some ⟨L.g, 0, none⟩)) (by rfl) rfl ?_ ?_
      · go_simp
        (try simp only [i64_w])
        try rfl
      refine hK.out _ _ ⟨A13, c13, m13_, (by rw [ha.out]; exact putSel_upk 1 hb_ rfl rfl rfl), Q_B0, Q_R13, fun h0_ => absurd ((hoff 15 (by kernel_rfl)).symm.trans h0_) (by decide), Q_X13_⟩
    refine steps_cons ?_ ?_
    · rintro b a w' ⟨A13, c13, m13_, ha, Q_B0, Q_R13, Q_FIN, Q_X13_⟩ hb_ hon hoff
      refine ⟨_, rfl, fun K hK => ?_⟩
      have e7 : a.tmps[7]? = some (.pointer (some ⟨L.g, 0, none⟩)) := by rw [ha]; exact putSel_on (e := (1, 7, .pointer (some ⟨L.g, 0, none⟩))) 1 rfl rfl (hon 1 (by kernel_rfl)) rfl
      replace ha := Aside0.mk ha
      have B0 := Aside0.mk (Q_B0 (hoff 15 (by kernel_rfl)))
      refine value_ (w1 := w') (v := .pointer (some ⟨L.g, 4, none⟩)) (by rfl) rfl ?_ ?_
      · go_simp
        (try simp only [i64_w])
        try rfl
      refine hK.out _ _ ⟨A13, c13, m13_, (by rw [ha.out]; exact putSel_upk 2 hb_ rfl rfl rfl), Q_B0, Q_R13, fun h0_ => absurd ((hoff 15 (by kernel_rfl)).symm.trans h0_) (by decide), Q_X13_⟩
    refine steps_cons ?_ ?_
    · rintro b a w' ⟨A13, c13, m13_, ha, Q_B0, Q_R13, Q_FIN, Q_X13_⟩ hb_ hon hoff
      refine ⟨_, rfl, fun K hK => ?_⟩
      have e8 : a.tmps[8]? = some (.pointer (some ⟨L.g, 4, none⟩)) := by rw [ha]; exact putSel_on (e := (2, 8, .pointer (some ⟨L.g, 4, none⟩))) 2 rfl rfl (hon 2 (by kernel_rfl)) rfl
      replace ha := Aside0.mk ha
      have B0 := Aside0.mk (Q_B0 (hoff 15 (by kernel_rfl)))
      have c_ := (top_cells (H.out.below B0.out)).2.2.2.2.1
      refine value_ (w1 := w') (v := .slice (some ⟨L.gp, 0, none⟩) D.pages.length L.cp) (by rfl) rfl ?_ ?_
      · go_simp
        (try simp only [i64_w])
        try rfl
      refine hK.out _ _ ⟨A13, c13, m13_, (by rw [ha.out]; exact putSel_upk 3 hb_ rfl rfl rfl), Q_B0, Q_R13, fun h0_ => absurd ((hoff 15 (by kernel_rfl)).symm.trans h0_) (by decide), Q_X13_⟩
    refine steps_cons ?_ ?_
    · rintro b a w' ⟨A13, c13, m13_, ha, Q_B0, Q_R13, Q_FIN, Q_X13_⟩ hb_ hon hoff
      refine ⟨_, rfl, fun K hK => ?_⟩
      have e1 : a.tmps[1]? = some (.int .i64 (i : Int)) := by rw [ha]; exact (putSel_off rfl).trans rfl
      replace ha := Aside0.mk ha
      have B0 := Aside0.mk (Q_B0 (hoff 15 (by kernel_rfl)))
      refine value_ (w1 := w') (v := .int .i64 (i : Int)) (by rfl) rfl ?_ ?_
      · go_simp
        (try simp only [i64_w])
        try rfl
      refine hK.out _ _ ⟨A13, c13, m13_, (by rw [ha.out]; exact putSel_upk 4 hb_ rfl rfl rfl), Q_B0, Q_R13, fun h0_ => absurd ((hoff 15 (by kernel_rfl)).symm.trans h0_) (by decide), Q_X13_⟩
    refine steps_cons ?_ ?_
    · rintro b a w' ⟨A13, c13, m13_, ha, Q_B0, Q_R13, Q_FIN, Q_X13_⟩ hb_ hon hoff
      refine ⟨_, rfl, fun K hK => ?_⟩
      have e2 : a.tmps[2]? = some (.func (.func kf) #[] caps) := by rw [ha]; exact (putSel_off rfl).trans rfl
      replace ha := Aside0.mk ha
      have B0 := Aside0.mk (Q_B0 (hoff 15 (by kernel_rfl)))
      refine value_ (w1 := w') (v := .func (.func kf) #[] caps) (by rfl) rfl ?_ ?_
      · go_simp
        (try simp only [i64_w])
        try rfl
      refine hK.out _ _ ⟨A13, c13, m13_, (by rw [ha.out]; exact putSel_upk 5 hb_ rfl rfl rfl), Q_B0, fun h0_ _ => absurd ((hoff 13 (by kernel_rfl)).symm.trans h0_) (by decide), fun h0_ => absurd ((hoff 15 (by kernel_rfl)).symm.trans h0_) (by decide), fun h0_ => absurd ((hoff 13 (by kernel_rfl)).symm.trans h0_) (by decide)⟩
    refine steps_cons ?_ ?_
    · rintro b a w' ⟨A13, c13, m13_, ha, Q_B0, Q_R13, Q_FIN, Q_X13_⟩ hb_ hon hoff
      refine ⟨_, rfl, fun K hK => ?_⟩
      have e0 : a.tmps[0]? = some (.pointer (some ⟨L.g, 0, none⟩)) := by rw [ha]; exact (putSel_off rfl).trans rfl
      replace ha := Aside0.mk ha
      have B0 := Aside0.mk (Q_B0 (hoff 15 (by kernel_rfl)))
      refine value_ (w1 := w') (v := .pointer (some ⟨L.g, 0, none⟩)) (by rfl) rfl ?_ ?_
      · go_simp
        (try simp only [i64_w])
        try rfl
      refine hK.out _ _ ⟨A13, c13, m13_, (by rw [ha.out]; exact putSel_upk 6 hb_ rfl rfl rfl), Q_B0, fun h0_ _ => absurd ((hoff 13 (by kernel_rfl)).symm.trans h0_) (by decide), fun h0_ => absurd ((hoff 15 (by kernel_rfl)).symm.trans h0_) (by decide), fun h0_ => absurd ((hoff 13 (by kernel_rfl)).symm.trans h0_) (by decide)⟩
    refine steps_cons ?_ ?_
    · rintro b a w' ⟨A13, c13, m13_, ha, Q_B0, Q_R13, Q_FIN, Q_X13_⟩ hb_ hon hoff
      refine ⟨_, rfl, fun K hK => ?_⟩
      have e12 : a.tmps[12]? = some (.pointer (some ⟨L.g, 0, none⟩)) := by rw [ha]; exact putSel_on (e := (6, 12, .pointer (some ⟨L.g, 0, none⟩))) 6 rfl rfl (hon 6 (by kernel_rfl)) rfl
      replace ha := Aside0.mk ha
      have B0 := Aside0.mk (Q_B0 (hoff 15 (by kernel_rfl)))
      refine value_ (w1 := w') (v := .pointer (some ⟨L.g, 0, none⟩)) (by rfl) rfl ?_ ?_
      · go_simp
        (try simp only [i64_w])
        try rfl
      refine hK.out _ _ ⟨A13, c13, m13_, (by rw [ha.out]; exact putSel_upk 7 hb_ rfl rfl rfl), Q_B0, fun h0_ _ => absurd ((hoff 13 (by kernel_rfl)).symm.trans h0_) (by decide), fun h0_ => absurd ((hoff 15 (by kernel_rfl)).symm.trans h0_) (by decide), fun h0_ => absurd ((hoff 13 (by kernel_rfl)).symm.trans h0_) (by decide)⟩
    refine steps_cons ?_ ?_
    · rintro b a w' ⟨A13, c13, m13_, ha, Q_B0, Q_R13, Q_FIN, Q_X13_⟩ hb_ hon hoff
      refine ⟨_, rfl, fun K hK => ?_⟩
      have e13 : a.tmps[13]? = some (.pointer (some ⟨L.g, 0, none⟩)) := by rw [ha]; exact putSel_on (e := (7, 13, .pointer (some ⟨L.g, 0, none⟩))) 7 rfl rfl (hon 7 (by kernel_rfl)) rfl
      replace ha := Aside0.mk ha
      have B0 := Aside0.mk (Q_B0 (hoff 15 (by kernel_rfl)))
      refine value_ (w1 := w') (v := .pointer (some ⟨L.g, 4, none⟩)) (by rfl) rfl ?_ ?_
      · go_simp
        (try simp only [i64_w])
        try rfl
      refine hK.out _ _ ⟨A13, c13, m13_, (by rw [ha.out]; exact putSel_upk 8 hb_ rfl rfl rfl), Q_B0, fun h0_ _ => absurd ((hoff 13 (by kernel_rfl)).symm.trans h0_) (by decide), fun h0_ => absurd ((hoff 15 (by kernel_rfl)).symm.trans h0_) (by decide), fun h0_ => absurd ((hoff 13 (by kernel_rfl)).symm.trans h0_) (by decide)⟩
    refine steps_cons ?_ ?_
    · rintro b a w' ⟨A13, c13, m13_, ha, Q_B0, Q_R13, Q_FIN, Q_X13_⟩ hb_ hon hoff
      refine ⟨_, rfl, fun K hK => ?_⟩
      have e14 : a.tmps[14]? = some (.pointer (some ⟨L.g, 4, none⟩)) := by rw [ha]; exact putSel_on (e := (8, 14, .pointer (some ⟨L.g, 4, none⟩))) 8 rfl rfl (hon 8 (by kernel_rfl)) rfl
      replace ha := Aside0.mk ha
      have B0 := Aside0.mk (Q_B0 (hoff 15 (by kernel_rfl)))
      have c_ := (top_cells (H.out.below B0.out)).2.2.2.2.1
      refine value_ (w1 := w') (v := .slice (some ⟨L.gp, 0, none⟩) D.pages.length L.cp) (by rfl) rfl ?_ ?_
      · go_simp
        (try simp only [i64_w])
        try rfl
      refine hK.out _ _ ⟨A13, c13, m13_, (by rw [ha.out]; exact putSel_upk 9 hb_ rfl rfl rfl), Q_B0, fun h0_ _ => absurd ((hoff 13 (by kernel_rfl)).symm.trans h0_) (by decide), fun h0_ => absurd ((hoff 15 (by kernel_rfl)).symm.trans h0_) (by decide), fun h0_ => absurd ((hoff 13 (by kernel_rfl)).symm.trans h0_) (by decide)⟩
    refine steps_cons ?_ ?_
    · rintro b a w' ⟨A13, c13, m13_, ha, Q_B0, Q_R13, Q_FIN, Q_X13_⟩ hb_ hon hoff
      refine ⟨_, rfl, fun K hK => ?_⟩
      have e1 : a.tmps[1]? = some (.int .i64 (i : Int)) := by rw [ha]; exact (putSel_off rfl).trans rfl
      replace ha := Aside0.mk ha
      have B0 := Aside0.mk (Q_B0 (hoff 15 (by kernel_rfl)))
      refine value_ (w1 := w') (v := .int .i64 (i : Int)) (by rfl) rfl ?_ ?_
      · go_simp
        (try simp only [i64_w])
        try rfl
      refine hK.out _ _ ⟨A13, c13, m13_, (by rw [ha.out]; exact putSel_upk 10 hb_ rfl rfl rfl), Q_B0, fun h0_ _ => absurd ((hoff 13 (by kernel_rfl)).symm.trans h0_) (by decide), fun h0_ => absurd ((hoff 15 (by kernel_rfl)).symm.trans h0_) (by decide), fun h0_ => absurd ((hoff 13 (by kernel_rfl)).symm.trans h0_) (by decide)⟩
    refine steps_cons ?_ ?_
    · rintro b a w' ⟨A13, c13, m13_, ha, Q_B0, Q_R13, Q_FIN, Q_X13_⟩ hb_ hon hoff
      refine ⟨_, rfl, fun K hK => ?_⟩
      have e15 : a.tmps[15]? = some (.slice (some ⟨L.gp, 0, none⟩) D.pages.length L.cp) := by rw [ha]; exact putSel_on (e := (9, 15, .slice (some ⟨L.gp, 0, none⟩) D.pages.length L.cp)) 9 rfl rfl (hon 9 (by kernel_rfl)) rfl
      have e16 : a.tmps[16]? = some (.int .i64 (i : Int)) := by rw [ha]; exact putSel_on (e := (10, 16, .int .i64 (i : Int))) 10 rfl rfl (hon 10 (by kernel_rfl)) rfl
      replace ha := Aside0.mk ha
      have B0 := Aside0.mk (Q_B0 (hoff 15 (by kernel_rfl)))
      have p_ := HP.out.1
      have q_ := HP.out.2
      refine value_ (w1 := w') (v := .pointer (some ⟨L.gp, i, none⟩)) (by rfl) rfl ?_ ?_
      · go_simp
        (try simp only [i64_w])
        try rfl
      refine hK.out _ _ ⟨A13, c13, m13_, (by rw [ha.out]; exact putSel_upk 11 hb_ rfl rfl rfl), Q_B0, fun h0_ _ => absurd ((hoff 13 (by kernel_rfl)).symm.trans h0_) (by decide), fun h0_ => absurd ((hoff 15 (by kernel_rfl)).symm.trans h0_) (by decide), fun h0_ => absurd ((hoff 13 (by kernel_rfl)).symm.trans h0_) (by decide)⟩
    refine steps_cons ?_ ?_
    · rintro b a w' ⟨A13, c13, m13_, ha, Q_B0, Q_R13, Q_FIN, Q_X13_⟩ hb_ hon hoff
      refine ⟨_, rfl, fun K hK => ?_⟩
      have e17 : a.tmps[17]? = some (.pointer (some ⟨L.gp, i, none⟩)) := by rw [ha]; exact putSel_on (e := (11, 17, .pointer (some ⟨L.gp, i, none⟩))) 11 rfl rfl (hon 11 (by kernel_rfl)) rfl
      replace ha := Aside0.mk ha
      have B0 := Aside0.mk (Q_B0 (hoff 15 (by kernel_rfl)))
      have c_ := (HC.out.below B0.out).cell HV.out
      refine value_ (w1 := w') (v := .slice Ai 256 ci) (by rfl) rfl ?_ ?_
      · go_simp
        (try simp only [i64_w])
        try rfl
      refine hK.out _ _ ⟨A13, c13, m13_, (by rw [ha.out]; exact putSel_upk 12 hb_ rfl rfl rfl), Q_B0, fun h0_ _ => absurd ((hoff 13 (by kernel_rfl)).symm.trans h0_) (by decide), fun h0_ => absurd ((hoff 15 (by kernel_rfl)).symm.trans h0_) (by decide), fun h0_ => absurd ((hoff 13 (by kernel_rfl)).symm.trans h0_) (by decide)⟩
    refine steps_cons ?_ ?_
    · rintro b a w' ⟨A13, c13, m13_, ha, Q_B0, Q_R13, Q_FIN, Q_X13_⟩ hb_ hon hoff
      refine ⟨_, rfl, fun K hK => ?_⟩
      have e11 : a.tmps[11]? = some (.func (.func kf) #[] caps) := by rw [ha]; exact putSel_on (e := (5, 11, .func (.func kf) #[] caps)) 5 rfl rfl (hon 5 (by kernel_rfl)) rfl
      have e18 : a.tmps[18]? = some (.slice Ai 256 ci) := by rw [ha]; exact putSel_on (e := (12, 18, .slice Ai 256 ci)) 12 rfl rfl (hon 12 (by kernel_rfl)) rfl
      replace ha := Aside0.mk ha
      have B0 := Aside0.mk (Q_B0 (hoff 15 (by kernel_rfl)))
      refine goesv_ HK.out.1 HK.out.2.1 HK.out.2.2 #[.slice Ai 256 ci] (by rfl) rfl rfl e11 (by first | (simp only [List.map_toArray, List.map_cons, List.map_nil, Act.eval, Array.getD_eq_getD_getElem?, Option.getD_some, e11, e18]; done) | (simp only [List.map_toArray, List.map_cons, List.map_nil, Act.eval, Array.getD_eq_getD_getElem?, Option.getD_some, e11, e18]; rfl)) ?_
      with_reducible refine (HDO.out _ B0.out Ai ci HFI.out.1 (Kd.C_below (Kd.F_now HFI.out.2) B0.out)).mono ?_
      rintro e w2 ⟨A_, c_, rfl, hc_, hF_, hb⟩
      refine ⟨_, rfl, ?_⟩
      refine hK.out _ _ ⟨A_, c_, (.slice A_ 256 c_), (by rw [ha.out]; exact putSel_upk 13 hb_ rfl rfl rfl), fun _ => below_then B0.out B0.out.size hb, fun _ _ => ⟨hc_, Kd.F_mono hF_ (newer_le B0.out.size)⟩, fun h0_ => absurd ((hoff 15 (by kernel_rfl)).symm.trans h0_) (by decide), fun _ => rfl⟩
    refine steps_cons ?_ ?_
    · rintro b a w' ⟨A13, c13, m13_, ha, Q_B0, Q_R13, Q_FIN, Q_X13_⟩ hb_ hon hoff
      refine ⟨_, rfl, fun K hK => ?_⟩
      have e9 : a.tmps[9]? = some (.slice (some ⟨L.gp, 0, none⟩) D.pages.length L.cp) := by rw [ha]; exact putSel_on (e := (3, 9, .slice (some ⟨L.gp, 0, none⟩) D.pages.length L.cp)) 3 rfl rfl (hon 3 (by kernel_rfl)) rfl
      have e10 : a.tmps[10]? = some (.int .i64 (i : Int)) := by rw [ha]; exact putSel_on (e := (4, 10, .int .i64 (i : Int))) 4 rfl rfl (hon 4 (by kernel_rfl)) rfl
      replace ha := Aside0.mk ha
      have B0 := Aside0.mk (Q_B0 (hoff 15 (by kernel_rfl)))
      have R13 := Aside0.mk (Q_R13 (hon 13 (by kernel_rfl)) (hoff 15 (by kernel_rfl)))
      have p_ := HP.out.1
      have q_ := HP.out.2
      refine value_ (w1 := w') (v := .pointer (some ⟨L.gp, i, none⟩)) (by rfl) rfl ?_ ?_
      · go_simp
        (try simp only [i64_w])
        try rfl
      refine hK.out _ _ ⟨A13, c13, m13_, (by rw [ha.out]; exact putSel_upk 14 hb_ rfl rfl rfl), Q_B0, Q_R13, fun h0_ => absurd ((hoff 15 (by kernel_rfl)).symm.trans h0_) (by decide), Q_X13_⟩
    refine steps_cons ?_ ?_
    · rintro b a w' ⟨A13, c13, m13_, ha, Q_B0, Q_R13, Q_FIN, Q_X13_⟩ hb_ hon hoff
      refine ⟨_, rfl, fun K hK => ?_⟩
      have e20 : a.tmps[20]? = some (.pointer (some ⟨L.gp, i, none⟩)) := by rw [ha]; exact putSel_on (e := (14, 20, .pointer (some ⟨L.gp, i, none⟩))) 14 rfl rfl (hon 14 (by kernel_rfl)) rfl
      have e19 : a.tmps[19]? = some (m13_) := by rw [ha]; exact putSel_on (e := (13, 19, m13_)) 13 rfl rfl (hon 13 (by kernel_rfl)) rfl
      rw [Q_X13_ (hon 13 (by kernel_rfl))] at e19
      replace ha := Aside0.mk ha
      have B0 := Aside0.mk (Q_B0 hb_)
      have R13 := Aside0.mk (Q_R13 (hon 13 (by kernel_rfl)) hb_)
      have c_ := (HC.out.below B0.out).cell HV.out
      have fr_ := (HC.out.below B0.out).frozen i
      refine skip_ (w1 := ?_) (by rfl) rfl ?_ ?_
      rotate_left
      · go_simp
        rfl
      refine hK.out _ _ ⟨A13, c13, m13_, (by rw [ha.out]; exact putSel_none (v := undef) rfl), fun h0_ => absurd ((up_self b 15).symm.trans h0_) (by decide), fun _ h1_ => absurd ((up_self b 15).symm.trans h1_) (by decide), fun _ => ⟨((H.out.below B0.out).newer_ H.out.lt).set_page i R13.out.1 R13.out.2 HLL.out, (Turn.of_below B0.out L.S).setCell (p := ⟨L.gp, i, none⟩) (.inl (.inr (.inl rfl))) _⟩, Q_X13_⟩
    exact steps_nil
  rintro b a wl hall ⟨A13, c13, m13_, ha, Q_B0, Q_R13, Q_FIN, Q_X13_⟩
  clear B0
  have hb0_ := hall 0 (by kernel_rfl)
  have hb1_ := hall 1 (by kernel_rfl)
  have hb2_ := hall 2 (by kernel_rfl)
  have hb3_ := hall 3 (by kernel_rfl)
  have hb4_ := hall 4 (by kernel_rfl)
  have hb5_ := hall 5 (by kernel_rfl)
  have hb6_ := hall 6 (by kernel_rfl)
  have hb7_ := hall 7 (by kernel_rfl)
  have hb8_ := hall 8 (by kernel_rfl)
  have hb9_ := hall 9 (by kernel_rfl)
  have hb10_ := hall 10 (by kernel_rfl)
  have hb11_ := hall 11 (by kernel_rfl)
  have hb12_ := hall 12 (by kernel_rfl)
  have hb13_ := hall 13 (by kernel_rfl)
  have hb14_ := hall 14 (by kernel_rfl)
  have hb15_ := hall 15 (by kernel_rfl)
  subst ha
  obtain rfl := Q_X13_ hb13_
  simp only [putSel, hb0_, hb1_, hb2_, hb3_, hb4_, hb5_, hb6_, hb7_, hb8_, hb9_, hb10_, hb11_, hb12_, hb13_, hb14_, hb15_, if_true, Act.put, List.setIfInBounds_toArray, List.set_cons_zero, List.set_cons_succ]
  clear Q_B0
  clear Q_R13
  have FIN := Aside0.mk (Q_FIN hb15_)
  clear Q_FIN
  clear hall hb0_ hb1_ hb2_ hb3_ hb4_ hb5_ hb6_ hb7_ hb8_ hb9_ hb10_ hb11_ hb12_ hb13_ hb14_ hb15_
  go_wp2_with fail
  go_end0
  exact ⟨rfl, FIN.out.1, FIN.out.2⟩
end Go.Proofs.Ytnchdmidaigheaa.ND
namespace Go.Proofs.Ytnchdmidaigheaa.Hp
open Go.RowKit Go.Proofs.YtnchdmidaigheaaW.PrintWords Go.Proofs.YtnchdmidaigheaaW.PrintLast Go.Proofs.YtnchdmidaigheaaW.PrintMore
attribute [local go_sem] max2_int min2_int max_two min_two max_three min_three max_four min_four   -- for this text's walks alone
set_option linter.unusedVariables false
set_option linter.unusedSimpArgs false
def zeros_Program.f (old b m : List Int) : Option (List Int) := if isBytes old ∧ isBytes b ∧ isBytes m ∧ old.length ≤ 1000000 then some (progRow old b m) else none
set_option maxHeartbeats 1000000 in
theorem each_calls (cap : Array Value) (g : Nat → Int) (A0 : Option Addr) (c0 : Nat) (l0 : List Int) (w : World) (hr0 : Kd.C (Kd.int .u8) w A0 l0.length l0) (hlen : l0.length ≤ 1000000)
    (hf : ∀ (i : Nat) (W : World), i < l0.length → Below w.heap.size w W → Calls Try.prog 105 (#[.int .i64 (i : Int), .int .u8 (rd l0 (i : Int))] ++ cap) W fun e w' => e = .returned (.int .u8 (g i)) ∧ Drawn0 W w') :
    Calls Try.prog 102 #[.slice A0 l0.length c0, .func (.func 105) #[] cap] w fun e w' => ∃ v0_ : Value, e = .returned (v0_) ∧ Kd.R (Kd.int .u8) 5 w' w.heap.size (fun _ => True) v0_ ((List.range l0.length).map g) ∧ Below w.heap.size w w' := by
  have HR0 := Aside0.mk hr0
  have HL := Aside0.mk hlen
  have HF := Aside0.mk hf
  clear hr0 hlen hf
  have HB := Aside0.mk (Below.refl w.heap.size w)
  go_enter Try.func102, Try.ntmps102
  go_wp2
  go_loopg [5, 10] (l0.length + 1) (fun kq v5 v10 w' => ∃ (j : Nat), v10 = .int .i64 j ∧ Aside0 (j ≤ l0.length) ∧ Aside0 (kq + j = l0.length + 1) ∧ Aside0 (Kd.R (Kd.int .u8) 5 w' w.heap.size (fun _ => True) v5 ((List.range j).map g)) ∧ Aside0 (Below w.heap.size w w'))
  case atStart => exact ⟨0, rfl, ⟨by omega⟩, ⟨by omega⟩, ⟨Kd.R_nil _ _ _ _ _⟩, ⟨by repeat (first | (with_reducible first | exact HB.out | apply below_alloc | apply pw_below_drewN | apply below_drew1) | exact HB.out)⟩⟩
  case round =>
    obtain ⟨j, rfl, HJ, HQ, HO_5, HB⟩ := hrel
    by_cases hj : j < l0.length
    · have c3b0 : decide ((j : Int) < (l0.length : Int)) = true := decide_eq_true (by omega)
      have c3b1 : decide (j < l0.length) = true := decide_eq_true (by omega)
      have p395 : 0 ≤ (j : Int) := by omega
      have q395 : (j : Int) < (l0.length : Int) := by omega
      obtain ⟨ad395, e395, hx395_0⟩ := Kd.at_int HR0.out j p395 q395
      cases e395
      replace hx395_0 := (HB.out.cell (World.block_lt_of_cell? w _ hx395_0)).trans hx395_0
      rw [Int.toNat_natCast] at hx395_0
      replace p395 := eq_true p395
      replace q395 := eq_true q395
      go_wp2_with (first | ((go_at_call 105); (with_reducible refine (HF.out j _ hj ?side1).mono ?_); (case side1 => exact (by repeat (first | (with_reducible first | exact HB.out | apply below_alloc | apply pw_below_drewN | apply below_drew1) | exact HB.out))); rintro e w' ⟨rfl, ⟨nd, rfl⟩⟩) | ((with_reducible refine gate_builtin (b := .append) (xs := #[.tmp 15, .tmp 20]) rfl ?_); at_builtin; refine Kd.R_append (Kd.int .u8) (w0 := w) w.heap.size rfl (.tmp 15) (.tmp 20) 38 5 (.int .u8 0) 1 rfl Try.underlying38 info5 rfl (by decide) (by omega) u5 ((List.range j).map g) (g j) [.int .u8 (g j)] (fun _ => True) (fun _ => False) rfl rfl ?aP (fun _ hk => hk.elim) ?aF ?aO ?aB ?aS ?aL ?_; (case aP => exact rfl); (case aB => exact (by repeat (first | (with_reducible first | exact HB.out | apply below_alloc | apply pw_below_drewN | apply below_drew1) | exact HB.out))); (case aF => exact (fun _ _ => trivial)); (case aO => exact (by (with_reducible repeat (first | apply Kd.R_alloc | apply Kd.R_drewN | apply Kd.R_drew)); exact HO_5.out)); (case aS => exact (below_size (by repeat (first | (with_reducible first | exact HB.out | apply below_alloc | apply pw_below_drewN | apply below_drew1) | exact HB.out)))); (case aL => have := HL.out; simp only [List.length_map, List.length_range]; omega); intro v397 w11 ho hb hg hat; rw [← range_map_snoc] at ho; have n0_ := Aside0.mk (hb); have n1_ := Aside0.mk (ho); clear HB; clear HO_5; have HB := n0_; have HO398 := n1_; clear n0_ n1_; clear ho hb hg hat))
      go_roundg (l0.length - j)
      case measure => have := HQ.out; omega
      case rel => exact ⟨j + 1, by congr 1; have := HL.out; unfold wrap64; omega, ⟨by omega⟩, ⟨by omega⟩, ⟨by (with_reducible repeat (first | apply Kd.R_alloc | apply Kd.R_drewN | apply Kd.R_drew)); exact HO398.out⟩, ⟨by repeat (first | (with_reducible first | exact HB.out | apply below_alloc | apply pw_below_drewN | apply below_drew1) | exact HB.out)⟩⟩
    · have hje : j = l0.length := by have := HJ.out; omega
      subst hje
      go_wp2
      go_ret
      exact ⟨_, rfl, by (with_reducible repeat (first | apply Kd.R_alloc | apply Kd.R_drewN | apply Kd.R_drew)); exact HO_5.out, by repeat (first | (with_reducible first | exact HB.out | apply below_alloc | apply pw_below_drewN | apply below_drew1) | exact HB.out)⟩
theorem mask_at (m : List Int) (i : Nat) (hm : isBytes m) : zeros_Mask.f m (i : Int) = some (maskAt m i) := by
  unfold zeros_Mask.f maskAt
  rw [if_neg (by omega)]
  by_cases h0 : m.length = 0
  · rw [if_pos (by omega), if_pos h0]
  · rw [if_neg (by omega), if_neg h0]
    have e : Int.tmod (i : Int) (m.length : Int) = ((i % m.length : Nat) : Int) := by
      rw [Int.tmod_eq_emod_of_nonneg (by omega)]; rfl
    have hlt := Nat.mod_lt i (show m.length > 0 by omega)
    rw [e, if_pos (by omega), if_pos (by omega)]
    show some (m.getD (((i % m.length : Nat) : Int)).toNat 0) = _
    rw [Int.toNat_natCast]
set_option maxHeartbeats 1000000 in
theorem prog_clo (i : Nat) (c : Int) (A1 A2 : Option Addr) (c1 c2 : Nat) (l1 l2 : List Int) (p q : Addr) (w : World) (hcr : 0 ≤ c ∧ c ≤ 255)
    (hp : w.cell? p = some (.slice A1 l1.length c1)) (hq : w.cell? q = some (.slice A2 l2.length c2))
    (hr1 : Kd.C (Kd.int .u8) w A1 l1.length l1) (hb1 : isBytes l1) (hr2 : Kd.C (Kd.int .u8) w A2 l2.length l2) (hc2 : l2.length ≤ c2) (hb2 : isBytes l2) :
    Calls Try.prog 105 #[.int .i64 (i : Int), .int .u8 c, .pointer (some p), .pointer (some q)] w fun e w' => e = .returned (.int .u8 (if i < l1.length then progByte c (rd l1 i) (maskAt l2 i) else c)) ∧ Drawn0 w w' := by
  have HE := Aside0.mk (prog_bits c (rd l1 i) (maskAt l2 i) hcr (rd_range l1 hb1 i) (maskAt_range l2 hb2 i))
  have HR1 := Aside0.mk hr1
  have HR2 := Aside0.mk hr2
  have HC2 := Aside0.mk hc2
  have HM := Aside0.mk (mask_at l2 i hb2)
  clear hr1 hr2 hc2 hb2 hb1 hcr
  by_cases hj : i < l1.length
  · rw [if_pos hj]
    have c3b0 : decide ((l1.length : Int) ≤ (i : Int)) = false := decide_eq_false (by omega)
    have c3b1 : decide (l1.length ≤ i) = false := decide_eq_false (by omega)
    have p395 : 0 ≤ (i : Int) := by omega
    have q395 : (i : Int) < (l1.length : Int) := by omega
    obtain ⟨ad395, e395, hx395_0⟩ := Kd.at_int HR1.out i p395 q395
    cases e395
    rw [Int.toNat_natCast] at hx395_0
    go_enter Try.func105, Try.ntmps105
    go_wp2
    go_quiet ((go_at_call 104; exact (Calls.quiet_of ((zeros_Mask.calls _ _ l2 i (maskAt l2 i) _ (Kd.C_drewN HR2.out _) HC2.out HM.out).mono fun _ _ h => ⟨h.1, h.2.out⟩))))
    rw [HE.out]
    go_wp2
    go_ret
    exact ⟨rfl, ⟨⟨_, rfl⟩⟩⟩
  · rw [if_neg hj]
    have c3b0 : decide ((l1.length : Int) ≤ (i : Int)) = true := decide_eq_true (by omega)
    have c3b1 : decide (l1.length ≤ i) = true := decide_eq_true (by omega)
    go_enter Try.func105, Try.ntmps105
    go_wp2
    go_ret
    exact ⟨rfl, Drawn0.refl _⟩
set_option maxHeartbeats 8000000 in
set_option maxRecDepth 100000 in
theorem zeros_Program.calls (A0 : Option Addr) (c0 : Nat) (l0 : List Int) (A1 : Option Addr) (c1 : Nat) (l1 : List Int) (A2 : Option Addr) (c2 : Nat) (l2 : List Int) (r : List Int) (w : World) (hr0 : Kd.C (Kd.int .u8) w A0 l0.length l0) (hc0 : l0.length ≤ c0) (hr1 : Kd.C (Kd.int .u8) w A1 l1.length l1) (hc1 : l1.length ≤ c1) (hr2 : Kd.C (Kd.int .u8) w A2 l2.length l2) (hc2 : l2.length ≤ c2) (h : zeros_Program.f l0 l1 l2 = some r) :
    Calls Try.prog 71 #[.slice A0 l0.length c0, .slice A1 l1.length c1, .slice A2 l2.length c2] w fun e w' => ∃ v0_ : Value, e = .returned (v0_) ∧ Kd.R (Kd.int .u8) 5 w' w.heap.size (fun _ => True) v0_ r ∧ Below w.heap.size w w' := by
  unfold zeros_Program.f at h
  by_cases hb : isBytes l0 ∧ isBytes l1 ∧ isBytes l2 ∧ l0.length ≤ 1000000
  · rw [if_pos hb] at h
    obtain rfl := Option.some.inj h
    clear h
    obtain ⟨hb0, hb1, hb2, hl⟩ := hb
    have HF := fun (W : World) (hB : Below w.heap.size w W) (p q : Addr) (hp : W.cell? p = some (.slice A1 l1.length c1)) (hq : W.cell? q = some (.slice A2 l2.length c2)) =>
      each_calls #[.pointer (some p), .pointer (some q)] (fun i => if i < l1.length then progByte (rd l0 i) (rd l1 i) (maskAt l2 i) else rd l0 i) A0 c0 l0 W (Kd.C_below hr0 hB) hl
        (fun i W' hi hB' => prog_clo i (rd l0 i) A1 A2 c1 c2 l1 l2 p q W' (rd_range l0 hb0 i) (pw_cell_below hB' hp) (pw_cell_below hB' hq) (Kd.C_below (Kd.C_below hr1 hB) hB') hb1 (Kd.C_below (Kd.C_below hr2 hB) hB') hc2 hb2)
    have HF := Aside0.mk HF
    clear hr0 hr1 hr2 hc0 hc1 hc2 hb0 hb1 hb2 hl
    have hmf : ∀ (fn : Fn) (first cap : Array Value) (w : World), (Instr.makeFunc fn first cap).run Try.prog w = .ok (.func fn first cap) w := fun _ _ _ _ => rfl
    go_enter Try.func71, Try.ntmps71
    go_wp2_with fail
    have HBw : Below w.heap.size w ((w.alloc (Obj.cells #[Value.slice A1 l1.length c1] 38)).alloc (Obj.cells #[Value.slice A2 l2.length c2] 38)) := (by repeat (first | exact Below.refl _ _ | apply below_alloc | apply pw_below_drewN | apply below_drew1))
    refine (HF.out _ HBw ⟨w.heap.size, 0, none⟩ ⟨w.heap.size + 1, 0, none⟩ (by simp) (by simp)).mono ?_
    rintro e w' ⟨v, rfl, hR, hB⟩
    have HR := Aside0.mk (Kd.R_lower hR (show w.heap.size ≤ _ by simp; omega))
    have HB := Aside0.mk (below_step HBw hB)
    clear hR hB HBw HF
    go_wp2
    go_ret
    exact ⟨_, rfl, HR.out, HB.out⟩
  · rw [if_neg hb] at h
    cases h
end Go.Proofs.Ytnchdmidaigheaa.Hp
namespace Go.Proofs.Ytnchdmidaigheaa.Hp
open Go.RowKit Go.Proofs.YtnchdmidaigheaaW.PrintWords Go.Proofs.YtnchdmidaigheaaW.PrintLast Go.Proofs.YtnchdmidaigheaaW.PrintMore
attribute [local go_sem] max2_int min2_int max_two min_two max_three min_three max_four min_four   -- for this text's walks alone
set_option linter.unusedVariables false
set_option linter.unusedSimpArgs false
def zeros_Erase.f (old m : List Int) : Option (List Int) := if isBytes old ∧ isBytes m ∧ old.length ≤ 1000000 then some (wipeRow old m) else none
set_option maxHeartbeats 1000000 in
theorem each_calls2 (cap : Array Value) (g : Nat → Int) (A0 : Option Addr) (c0 : Nat) (l0 : List Int) (w : World) (hr0 : Kd.C (Kd.int .u8) w A0 l0.length l0) (hlen : l0.length ≤ 1000000)
    (hf : ∀ (i : Nat) (W : World), i < l0.length → Below w.heap.size w W → Calls Try.prog 103 (#[.int .i64 (i : Int), .int .u8 (rd l0 (i : Int))] ++ cap) W fun e w' => e = .returned (.int .u8 (g i)) ∧ Drawn0 W w') :
    Calls Try.prog 102 #[.slice A0 l0.length c0, .func (.func 103) #[] cap] w fun e w' => ∃ v0_ : Value, e = .returned (v0_) ∧ Kd.R (Kd.int .u8) 5 w' w.heap.size (fun _ => True) v0_ ((List.range l0.length).map g) ∧ Below w.heap.size w w' := by
  have HR0 := Aside0.mk hr0
  have HL := Aside0.mk hlen
  have HF := Aside0.mk hf
  clear hr0 hlen hf
  have HB := Aside0.mk (Below.refl w.heap.size w)
  go_enter Try.func102, Try.ntmps102
  go_wp2
  go_loopg [5, 10] (l0.length + 1) (fun kq v5 v10 w' => ∃ (j : Nat), v10 = .int .i64 j ∧ Aside0 (j ≤ l0.length) ∧ Aside0 (kq + j = l0.length + 1) ∧ Aside0 (Kd.R (Kd.int .u8) 5 w' w.heap.size (fun _ => True) v5 ((List.range j).map g)) ∧ Aside0 (Below w.heap.size w w'))
  case atStart => exact ⟨0, rfl, ⟨by omega⟩, ⟨by omega⟩, ⟨Kd.R_nil _ _ _ _ _⟩, ⟨by repeat (first | (with_reducible first | exact HB.out | apply below_alloc | apply pw_below_drewN | apply below_drew1) | exact HB.out)⟩⟩
  case round =>
    obtain ⟨j, rfl, HJ, HQ, HO_5, HB⟩ := hrel
    by_cases hj : j < l0.length
    · have c3b0 : decide ((j : Int) < (l0.length : Int)) = true := decide_eq_true (by omega)
      have c3b1 : decide (j < l0.length) = true := decide_eq_true (by omega)
      have p395 : 0 ≤ (j : Int) := by omega
      have q395 : (j : Int) < (l0.length : Int) := by omega
      obtain ⟨ad395, e395, hx395_0⟩ := Kd.at_int HR0.out j p395 q395
      cases e395
      replace hx395_0 := (HB.out.cell (World.block_lt_of_cell? w _ hx395_0)).trans hx395_0
      rw [Int.toNat_natCast] at hx395_0
      replace p395 := eq_true p395
      replace q395 := eq_true q395
      go_wp2_with (first | ((go_at_call 103); (with_reducible refine (HF.out j _ hj ?side1).mono ?_); (case side1 => exact (by repeat (first | (with_reducible first | exact HB.out | apply below_alloc | apply pw_below_drewN | apply below_drew1) | exact HB.out))); rintro e w' ⟨rfl, ⟨nd, rfl⟩⟩) | ((with_reducible refine gate_builtin (b := .append) (xs := #[.tmp 15, .tmp 20]) rfl ?_); at_builtin; refine Kd.R_append (Kd.int .u8) (w0 := w) w.heap.size rfl (.tmp 15) (.tmp 20) 38 5 (.int .u8 0) 1 rfl Try.underlying38 info5 rfl (by decide) (by omega) u5 ((List.range j).map g) (g j) [.int .u8 (g j)] (fun _ => True) (fun _ => False) rfl rfl ?aP (fun _ hk => hk.elim) ?aF ?aO ?aB ?aS ?aL ?_; (case aP => exact rfl); (case aB => exact (by repeat (first | (with_reducible first | exact HB.out | apply below_alloc | apply pw_below_drewN | apply below_drew1) | exact HB.out))); (case aF => exact (fun _ _ => trivial)); (case aO => exact (by (with_reducible repeat (first | apply Kd.R_alloc | apply Kd.R_drewN | apply Kd.R_drew)); exact HO_5.out)); (case aS => exact (below_size (by repeat (first | (with_reducible first | exact HB.out | apply below_alloc | apply pw_below_drewN | apply below_drew1) | exact HB.out)))); (case aL => have := HL.out; simp only [List.length_map, List.length_range]; omega); intro v397 w11 ho hb hg hat; rw [← range_map_snoc] at ho; have n0_ := Aside0.mk (hb); have n1_ := Aside0.mk (ho); clear HB; clear HO_5; have HB := n0_; have HO398 := n1_; clear n0_ n1_; clear ho hb hg hat))
      go_roundg (l0.length - j)
      case measure => have := HQ.out; omega
      case rel => exact ⟨j + 1, by congr 1; have := HL.out; unfold wrap64; omega, ⟨by omega⟩, ⟨by omega⟩, ⟨by (with_reducible repeat (first | apply Kd.R_alloc | apply Kd.R_drewN | apply Kd.R_drew)); exact HO398.out⟩, ⟨by repeat (first | (with_reducible first | exact HB.out | apply below_alloc | apply pw_below_drewN | apply below_drew1) | exact HB.out)⟩⟩
    · have hje : j = l0.length := by have := HJ.out; omega
      subst hje
      go_wp2
      go_ret
      exact ⟨_, rfl, by (with_reducible repeat (first | apply Kd.R_alloc | apply Kd.R_drewN | apply Kd.R_drew)); exact HO_5.out, by repeat (first | (with_reducible first | exact HB.out | apply below_alloc | apply pw_below_drewN | apply below_drew1) | exact HB.out)⟩
set_option maxHeartbeats 1000000 in
theorem erase_clo (i : Nat) (c : Int) (A2 : Option Addr) (c2 : Nat) (l2 : List Int) (q : Addr) (w : World) (hcr : 0 ≤ c ∧ c ≤ 255)
    (hq : w.cell? q = some (.slice A2 l2.length c2)) (hr2 : Kd.C (Kd.int .u8) w A2 l2.length l2) (hc2 : l2.length ≤ c2) (hb2 : isBytes l2) :
    Calls Try.prog 103 #[.int .i64 (i : Int), .int .u8 c, .pointer (some q)] w fun e w' => e = .returned (.int .u8 ((c.toNat ||| (maskAt l2 i).toNat : Nat) : Int)) ∧ Drawn0 w w' := by
  have HE := Aside0.mk (wipe_bits c (maskAt l2 i) hcr (maskAt_range l2 hb2 i))
  have HR2 := Aside0.mk hr2
  have HC2 := Aside0.mk hc2
  have HM := Aside0.mk (mask_at l2 i hb2)
  clear hr2 hc2 hb2 hcr
  go_enter Try.func103, Try.ntmps103
  go_wp2_with ((go_at_call 104); (with_reducible refine (zeros_Mask.calls _ _ l2 i (maskAt l2 i) _ HR2.out HC2.out HM.out).mono ?_); rintro e w' ⟨rfl, ⟨nd, rfl⟩⟩)
  rw [HE.out]
  go_ret
  exact ⟨rfl, ⟨⟨_, rfl⟩⟩⟩
set_option maxHeartbeats 8000000 in
set_option maxRecDepth 100000 in
theorem zeros_Erase.calls (A0 : Option Addr) (c0 : Nat) (l0 : List Int) (A1 : Option Addr) (c1 : Nat) (l1 : List Int) (r : List Int) (w : World) (hr0 : Kd.C (Kd.int .u8) w A0 l0.length l0) (hc0 : l0.length ≤ c0) (hr1 : Kd.C (Kd.int .u8) w A1 l1.length l1) (hc1 : l1.length ≤ c1) (h : zeros_Erase.f l0 l1 = some r) :
    Calls Try.prog 67 #[.slice A0 l0.length c0, .slice A1 l1.length c1] w fun e w' => ∃ v0_ : Value, e = .returned (v0_) ∧ Kd.R (Kd.int .u8) 5 w' w.heap.size (fun _ => True) v0_ r ∧ Below w.heap.size w w' := by
  unfold zeros_Erase.f at h
  by_cases hb : isBytes l0 ∧ isBytes l1 ∧ l0.length ≤ 1000000
  · rw [if_pos hb] at h
    obtain rfl := Option.some.inj h
    clear h
    obtain ⟨hb0, hb1, hl⟩ := hb
    have HF := fun (W : World) (hB : Below w.heap.size w W) (q : Addr) (hq : W.cell? q = some (.slice A1 l1.length c1)) =>
      each_calls2 #[.pointer (some q)] (fun i => (((rd l0 i).toNat ||| (maskAt l1 i).toNat : Nat) : Int)) A0 c0 l0 W (Kd.C_below hr0 hB) hl
        (fun i W' hi hB' => erase_clo i (rd l0 i) A1 c1 l1 q W' (rd_range l0 hb0 i) (pw_cell_below hB' hq) (Kd.C_below (Kd.C_below hr1 hB) hB') hc1 hb1)
    have HF := Aside0.mk HF
    clear hr0 hr1 hc0 hc1 hb0 hb1 hl
    have hmf : ∀ (fn : Fn) (first cap : Array Value) (w : World), (Instr.makeFunc fn first cap).run Try.prog w = .ok (.func fn first cap) w := fun _ _ _ _ => rfl
    go_enter Try.func67, Try.ntmps67
    go_wp2_with fail
    have HBw : Below w.heap.size w (w.alloc (Obj.cells #[Value.slice A1 l1.length c1] 38)) := (by repeat (first | exact Below.refl _ _ | apply below_alloc | apply pw_below_drewN | apply below_drew1))
    refine (HF.out _ HBw ⟨w.heap.size, 0, none⟩ (by simp)).mono ?_
    rintro e w' ⟨v, rfl, hR, hB⟩
    have HR := Aside0.mk (Kd.R_lower hR (show w.heap.size ≤ _ by simp))
    have HB := Aside0.mk (below_step HBw hB)
    clear hR hB HBw HF
    go_wp2
    go_ret
    exact ⟨_, rfl, HR.out, HB.out⟩
  · rw [if_neg hb] at h
    cases h
end Go.Proofs.Ytnchdmidaigheaa.Hp
namespace Go.Proofs.Ytnchdmidaigheaa.ND
set_option linter.unusedVariables false
set_option linter.unusedSimpArgs false
open Go.RowKit Go.Proofs.Ytnchdmidaigheaa.Hp Go.Proofs.YtnchdmidaigheaaW.PrintWords Go.Proofs.YtnchdmidaigheaaW.PrintLast Go.Proofs.YtnchdmidaigheaaW.PrintMore
set_option maxHeartbeats 1000000 in
set_option maxRecDepth 100000 in
theorem prog1_calls {W : World} {hb hm : Nat} {tb tm : Nat} {Ab Am A0 : Option Addr} {cb cm c0 : Nat} {l m o : List Int} (hzb : W.heap[hb]? = some (.cells #[.slice Ab l.length cb] tb (0, 0))) (hzm : W.heap[hm]? = some (.cells #[.slice Am m.length cm] tm (0, 0)))
    (hl : isBytes l ∧ l.length ≤ cb) (hm' : isBytes m ∧ m.length ≤ cm) (ho : isBytes o ∧ o.length = 256) (hc0 : 256 ≤ c0) (gl : Kd.C (Kd.int .u8) W Ab l.length l) (gm : Kd.C (Kd.int .u8) W Am m.length m) (go : Kd.C (Kd.int .u8) W A0 256 o) (ok : Nat → Prop) :
    Calls Try.prog 70 (#[.slice A0 256 c0] ++ #[.pointer (some ⟨hb, 0, none⟩), .pointer (some ⟨hm, 0, none⟩)]) W fun e w' => ∃ A c, e = .returned (.slice A 256 c) ∧ 256 ≤ c ∧ Kd.F (Kd.int .u8) w' (newer W ok) A 256 (progRow o l m) ∧ Below W.heap.size W w' := by
  have x0 := blk_cell hzb 0
  have x1 := blk_cell hzm 0
  have hP := zeros_Program.calls A0 c0 o Ab cb l Am cm m (progRow o l m) W (by rw [ho.2]; exact go) (by rw [ho.2]; exact hc0) gl hl.2 gm hm'.2 (by unfold zeros_Program.f; rw [if_pos ⟨ho.1, hl.1, hm'.1, by rw [ho.2]; omega⟩])
  have hlen : (progRow o l m).length = 256 := (progRow_ok ho.1 ho.2).2
  rw [ho.2] at hP
  have HP := Aside0.mk hP
  clear hP hzb hzm hl hm' gl gm go ho hc0
  show Calls Try.prog 70 #[.slice A0 256 c0, .pointer (some ⟨hb, 0, none⟩), .pointer (some ⟨hm, 0, none⟩)] W _
  go_enter Try.func70, Try.ntmps70
  go_wp2_with (go_at_call 71; refine HP.out.mono ?_; rintro e w2 ⟨v, rfl, hR, hb⟩; have HR := Aside0.mk (And.intro hR hb); clear hR hb)
  go_ret
  obtain ⟨A, c, rfl, hc, hF⟩ := fresh_F HR.out.1 ok
  rw [hlen] at hc hF ⊢
  exact ⟨A, c, rfl, hc, hF, HR.out.2⟩
set_option maxHeartbeats 1000000 in
set_option maxRecDepth 100000 in
theorem erase1_calls {W : World} {hm : Nat} {tm : Nat} {Am A0 : Option Addr} {cm c0 : Nat} {m o : List Int} (hzm : W.heap[hm]? = some (.cells #[.slice Am m.length cm] tm (0, 0)))
    (hm' : isBytes m ∧ m.length ≤ cm) (ho : isBytes o ∧ o.length = 256) (hc0 : 256 ≤ c0) (gm : Kd.C (Kd.int .u8) W Am m.length m) (go : Kd.C (Kd.int .u8) W A0 256 o) (ok : Nat → Prop) :
    Calls Try.prog 66 (#[.slice A0 256 c0] ++ #[.pointer (some ⟨hm, 0, none⟩)]) W fun e w' => ∃ A c, e = .returned (.slice A 256 c) ∧ 256 ≤ c ∧ Kd.F (Kd.int .u8) w' (newer W ok) A 256 (wipeRow o m) ∧ Below W.heap.size W w' := by
  have x1 := blk_cell hzm 0
  have hP := zeros_Erase.calls A0 c0 o Am cm m (wipeRow o m) W (by rw [ho.2]; exact go) (by rw [ho.2]; exact hc0) gm hm'.2 (by unfold zeros_Erase.f; rw [if_pos ⟨ho.1, hm'.1, by rw [ho.2]; omega⟩])
  have hlen : (wipeRow o m).length = 256 := (wipeRow_ok ho.1 hm'.1 ho.2).2
  rw [ho.2] at hP
  have HP := Aside0.mk hP
  clear hP hzm hm' gm go ho hc0
  show Calls Try.prog 66 #[.slice A0 256 c0, .pointer (some ⟨hm, 0, none⟩)] W _
  go_enter Try.func66, Try.ntmps66
  go_wp2_with (go_at_call 67; refine HP.out.mono ?_; rintro e w2 ⟨v, rfl, hR, hb⟩; have HR := Aside0.mk (And.intro hR hb); clear hR hb)
  go_ret
  obtain ⟨A, c, rfl, hc, hF⟩ := fresh_F HR.out.1 ok
  rw [hlen] at hc hF ⊢
  exact ⟨A, c, rfl, hc, hF, HR.out.2⟩
end Go.Proofs.Ytnchdmidaigheaa.ND
namespace Go.Proofs.Ytnchdmidaigheaa.Hp
open Go.RowKit Go.Proofs.YtnchdmidaigheaaW.PrintWords Go.Proofs.YtnchdmidaigheaaW.PrintLast Go.Proofs.YtnchdmidaigheaaW.PrintMore
attribute [local go_sem] max2_int min2_int max_two min_two max_three min_three max_four min_four   -- for this text's walks alone
set_option linter.unusedVariables false
set_option linter.unusedSimpArgs false
def geom_Check.f (a b c : Int) : Option Int := some (if within a 8 34 && (within b 4 32 && within c 0 8) then 0 else 3)
theorem geom_Check.within_calls (n a b : Int) (r : Bool) (w : World) (h : within n a b = r) : Calls Try.prog 101 #[.int .i64 n, .int .i64 a, .int .i64 b] w fun e w' => e = .returned (.bool r) ∧ Drawn0 w w' := by
  unfold within at h
  subst h
  by_cases h1 : a ≤ n <;> by_cases h2 : n ≤ b
  all_goals
    go_enter Try.func101, Try.ntmps101
    go_wp2
    go_ret
    exact ⟨by simp [h1, h2], Drawn0.refl _⟩
set_option maxHeartbeats 8000000 in
set_option maxRecDepth 100000 in
theorem geom_Check.calls (a0_0 : Int) (a0_1 : Int) (a0_2 : Int) (r : Int) (w : World) (h : geom_Check.f a0_0 a0_1 a0_2 = some r) :
    Calls Try.prog 60 #[.agg #[.int .i64 a0_0, .int .i64 a0_1, .int .i64 a0_2]] w fun e w' => e = .returned (.int .i64 r) ∧ Below w.heap.size w w' := by
  have h := Option.some.inj h
  obtain ⟨b1, h1⟩ : ∃ b, within a0_0 8 34 = b := ⟨_, rfl⟩
  obtain ⟨b2, h2⟩ : ∃ b, within a0_1 4 32 = b := ⟨_, rfl⟩
  obtain ⟨b3, h3⟩ : ∃ b, within a0_2 0 8 = b := ⟨_, rfl⟩
  rw [h1, h2, h3] at h
  have H1 := Aside0.mk h1
  have H2 := Aside0.mk h2
  have H3 := Aside0.mk h3
  clear h1 h2 h3
  cases b1 <;> cases b2 <;> cases b3 <;> simp only [Bool.false_and, Bool.true_and, Bool.and_false, Bool.and_true, if_true, Bool.false_eq_true, if_false] at h <;> subst h
  all_goals
    go_enter Try.func60, Try.ntmps60
    go_wp2_with ((go_at_call 101); (first | (with_reducible refine (geom_Check.within_calls a0_0 8 34 _ _ H1.out).mono ?_) | (with_reducible refine (geom_Check.within_calls a0_1 4 32 _ _ H2.out).mono ?_) | (with_reducible refine (geom_Check.within_calls a0_2 0 8 _ _ H3.out).mono ?_)); rintro e w' ⟨rfl, ⟨n, rfl⟩⟩)
    go_ret
    exact ⟨rfl, by repeat (first | exact Below.refl _ _ | apply below_alloc | apply pw_below_drewN | apply below_drew1)⟩
end Go.Proofs.Ytnchdmidaigheaa.Hp
