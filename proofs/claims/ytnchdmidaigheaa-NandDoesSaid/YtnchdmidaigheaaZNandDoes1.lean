/- Parts of the proof of the statement NandDoes, laid together (2 of 7). -/
import Derived.Test.YtnchdmidaigheaaZNandDoes0
namespace Go.Proofs.Ytnchdmidaigheaa.ND
set_option linter.unusedVariables false
set_option linter.unusedSimpArgs false
open Go.RowKit Go.Proofs.Ytnchdmidaigheaa.Hp Go.Proofs.YtnchdmidaigheaaW.PrintWords Go.Proofs.YtnchdmidaigheaaW.PrintLast Go.Proofs.YtnchdmidaigheaaW.PrintMore
def begin7.T7 : Bool × List (List Nat × List Nat) := (true, [([], []), ([0], [0]), ([], []), ([2], [2]), ([1, 0, 1], [1]), ([3, 4, 0, 1, 2, 3, 4], [3])])
def begin7.B7 : List Nat := [0, 1, 0, 4, 3, 31]
theorem begin7.tab7 : rtab .any (opsOf Try.f64 7) = begin7.T7 := by kernel_rfl
theorem begin7.bits7 : waitsOk begin7.T7.2 begin7.B7 = true := by kernel_rfl
theorem fresh_F {d : Kd Int} {e : Nat} {w w' : World} {v : Value} {xs : List Int} (h : d.R e w' w.heap.size (fun _ => True) v xs) (ok : Nat → Prop) : ∃ A c, v = .slice A xs.length c ∧ xs.length ≤ c ∧ Kd.F d w' (newer w ok) A xs.length xs := by
  obtain ⟨A, c, rfl, hc, _⟩ := Kd.R_reads h
  exact ⟨A, c, rfl, hc, Kd.R_F (Kd.R_mono (Kd.R_bound h) (fun k hk => .inr hk.2.1))⟩
theorem fault_none {D : Dv} (h : ∀ f ∈ D.faults, onF f D.ops = false) : D.fault = (0, [255]) := by
  unfold Dv.fault
  rw [List.find?_eq_none.2 (fun f hf => by rw [h f hf]; decide)]
theorem fault_at {D : Dv} {i : Nat} (hi : i < D.faults.length) (h : ∀ f ∈ D.faults.take i, onF f D.ops = false) (ho : onF (rd_T65 D.faults (i : Int)) D.ops = true) : D.fault = ((rd_T65 D.faults (i : Int)).f1, (rd_T65 D.faults (i : Int)).f2) := by
  have hr : rd_T65 D.faults (i : Int) = D.faults[i] := by
    unfold rd_T65
    rw [Int.toNat_natCast, List.getD_eq_getElem?_getD, List.getElem?_eq_getElem hi]
    rfl
  rw [hr] at ho ⊢
  have hs : D.faults.find? (fun f => onF f D.ops) = some D.faults[i] := by
    rw [List.find?_eq_some_iff_getElem]
    exact ⟨ho, i, hi, rfl, fun j hj => by rw [h _ (by rw [List.mem_take_iff_getElem]; exact ⟨j, by omega, rfl⟩)]; rfl⟩
  unfold Dv.fault
  rw [hs]
theorem take_on {D : Dv} {i : Nat} (hi : i < D.faults.length) (h : ∀ f ∈ D.faults.take i, onF f D.ops = false) (ho : onF (rd_T65 D.faults (i : Int)) D.ops = false) : ∀ f ∈ D.faults.take (i + 1), onF f D.ops = false := by
  have hr : rd_T65 D.faults (i : Int) = D.faults[i] := by
    unfold rd_T65
    rw [Int.toNat_natCast, List.getD_eq_getElem?_getD, List.getElem?_eq_getElem hi]
    rfl
  rw [hr] at ho
  intro f hf
  rw [List.take_add_one, List.getElem?_eq_getElem hi, List.mem_append] at hf
  rcases hf with hf | hf
  · exact h f hf
  · simp at hf; rw [hf]; exact ho
def Dv.bump (D : Dv) : Dv := { D with ops := wrap64 (D.ops + 1) }
set_option maxHeartbeats 2000000 in
set_option maxRecDepth 100000 in
theorem begin_calls {W : World} {ok : Nat → Prop} {L : Lay} {D : Dv} (h : DV W ok L D) :
    Calls Try.prog 64 #[.pointer (some ⟨L.g, 0, none⟩)] W fun e w' => ∃ A c, e = .returned (.tuple #[.int .i64 D.fault.1, .slice A D.fault.2.length c]) ∧ D.fault.2.length ≤ c ∧ Kd.F (Kd.int .u8) w' (newer W ok) A D.fault.2.length D.fault.2 ∧ DV w' ok L D.bump ∧ Turn W w' L.S := by
  have H1 := Aside0.mk (h.set_ops (wrap64 (D.ops + 1)))
  have T1 := Aside0.mk ((Turn.refl W L.S).setCell (p := ⟨L.g, 8, none⟩) (.inl (.inl rfl)) (.int .i64 (wrap64 (D.ops + 1))))
  have c7 := (top_cells h).2.2.2.2.2.2.2.1
  have c8 := (top_cells h).2.2.2.2.2.2.2.2.1
  have f8 := blk_frozen h.top 8
  have HLT := Aside0.mk (Nat.le_trans h.ok.fl (by omega) : D.faults.length ≤ 9223372036854775807)
  clear h
  go_enter Try.func64, Try.ntmps64
  go_upto_region 3 with fail
  generalize W.setCell ⟨L.g, 8, none⟩ (.int .i64 (wrap64 (D.ops + 1))) = W1 at H1 T1 ⊢
  have c7' := (top_cells H1.out).2.2.2.2.2.2.2.1
  clear c7 c8 f8
  go_wp2_with fail
  clear c7'
  go_loopg [23] (D.faults.length + 1) (fun kq v23 w' => ∃ i : Nat, v23 = .int .i64 (i : Int) ∧ Aside0 (i ≤ D.faults.length ∧ kq + i = D.faults.length + 1 ∧ ∀ f ∈ D.faults.take i, onF f D.ops = false) ∧ Aside0 (Below W1.heap.size W1 w'))
  case atStart => exact ⟨0, rfl, ⟨Nat.zero_le _, rfl, by simp⟩, ⟨Below.refl _ _⟩⟩
  case round =>
    obtain ⟨i, rfl, HI, BB⟩ := hrel
    by_cases hi : i < D.faults.length
    case neg =>
      have hie : i = D.faults.length := by have := HI.out.1; omega
      have t1 : decide ((i : Int) < (D.faults.length : Int)) = false := decide_eq_false (by omega)
      have t2 : decide (i < D.faults.length) = false := decide_eq_false (by omega)
      have HF : Aside0 (D.fault = (0, [255])) := ⟨fault_none (by have := HI.out.2.2; rwa [hie, List.take_length] at this)⟩
      have HN := Aside0.mk (fun W => zeros_Ones.calls 5 1 [255] W (by decide +kernel))
      clear hi hie
      go_wp2_with (go_at_call 61; refine (HN.out _).mono ?_; rintro e w5 ⟨v, rfl, hR, hb⟩; obtain ⟨A, c, rfl, hc, hF⟩ := fresh_F hR ok; have H5 := Aside0.mk (And.intro hc (And.intro hF hb)); clear hR hc hF hb)
      go_ret2
      have hT := T1.out.below BB.out
      have hsz := hT.size
      rw [HF.out]
      exact ⟨A, c, rfl, H5.out.1, Kd.F_mono H5.out.2.1 (fun k hk => hk.elim .inl (fun hk => .inr (Nat.le_trans hsz hk))), (H1.out.below BB.out).below H5.out.2.2, hT.below H5.out.2.2⟩
    case pos =>
      have t1 : decide ((i : Int) < (D.faults.length : Int)) = true := decide_eq_true (by omega)
      have t2 : decide (i < D.faults.length) = true := decide_eq_true (by omega)
      have p1 := eq_true (show (0 : Int) ≤ (i : Int) by omega)
      have q1 := eq_true (show (i : Int) < (D.faults.length : Int) by omega)
      obtain ⟨ad, cs, hA, hcl, hFK, hcc, _⟩ := Kd.F_get (H1.out.below BB.out).fl.1 z65 (i : Int) (by omega) (show (i : Int) < ((D.faults.length : Nat) : Int) by omega)
      obtain ⟨A2, c2, rfl, l2, g2⟩ := k65_openF hFK
      obtain ⟨x, hx⟩ : ∃ x, x = rd_T65 D.faults (i : Int) := ⟨_, rfl⟩
      have hx' : D.faults.getD (i : Int).toNat z65 = x := hx.symm
      rw [hx'] at hcc l2 g2
      have hx0 : wr.cell? (ad.add (i * 3)) = some (.int .i64 x.f0) := by have := hcc 0 _ rfl; rwa [Int.toNat_natCast] at this
      have hx1 : wr.cell? ⟨(ad.add (i * 3)).block, (ad.add (i * 3)).off + 1, none⟩ = some (.int .i64 x.f1) := by have := hcc 1 _ rfl; rw [Int.toNat_natCast] at this; rw [← add_field _ _ 1 (by omega)]; exact this
      have hx2 : wr.cell? ⟨(ad.add (i * 3)).block, (ad.add (i * 3)).off + 2, none⟩ = some (.slice A2 x.f2.length c2) := by have := hcc 2 _ rfl; rw [Int.toNat_natCast] at this; rw [← add_field _ _ 2 (by omega)]; exact this
      have HA := Aside0.mk hA
      have HX := Aside0.mk (And.intro hx (And.intro l2 g2))
      have hA' : L.Af = some ad := hA
      rw [hA']
      clear hA hA' hcl hFK hcc hx hx' l2 g2
      have hz6 := heap_alloc_new wr (.cells #[.int .i64 x.f0, .int .i64 x.f1, .slice A2 x.f2.length c2] 65)
      have hb6 := below_alloc BB.out (.cells #[.int .i64 x.f0, .int .i64 x.f1, .slice A2 x.f2.length c2] 65)
      have hg6 := Kd.F_alloc HX.out.2.2 (.cells #[.int .i64 x.f0, .int .i64 x.f1, .slice A2 x.f2.length c2] 65)
      go_upto_region 6 with fail
      generalize wr.alloc (.cells #[.int .i64 x.f0, .int .i64 x.f1, .slice A2 x.f2.length c2] 65) = W6 at hz6 hb6 hg6 ⊢
      generalize wr.heap.size = h6 at hz6 ⊢
      have HB6 := Aside0.mk hb6
      have HG6 := Aside0.mk hg6
      have HZ6 := Aside0.mk hz6
      have x0 := blk_cell hz6 0
      have x1 := blk_cell hz6 1
      have HI2 := Aside0.mk hi
      have HWI : IntKind.i64.wrap ((i : Int) + 1) = ((i + 1 : Nat) : Int) := by rw [i64_w]; unfold wrap64; have := HLT.out; omega
      clear hx0 hx1 hx2 p1 q1 t1 t2 hb6 hg6 hz6 hi
      rw [show (some ad : Option Addr) = L.Af from HA.out.symm]
      cases e1 : (x.f0 == D.ops) with
      | false =>
        have HO : Aside0 (onF x D.ops = false) := ⟨by unfold onF; rw [e1]; rfl⟩
        go_wp2_with fail
        go_roundg (D.faults.length - i)
        case measure => have := HI.out.2.1; have := HI2.out; omega
        case rel => exact ⟨i + 1, by first | rfl | (rw [← i64_w, HWI]) | (simp; unfold wrap64; have := HI2.out; have := HLT.out; omega), ⟨HI2.out, by have := HI.out.2.1; have := HI2.out; omega, take_on HI2.out HI.out.2.2 (HX.out.1 ▸ HO.out)⟩, HB6⟩
      | true =>
        cases e2 : (x.f1 == 1) with
        | true =>
          have HO : Aside0 (onF x D.ops = true) := ⟨by unfold onF; rw [e1, e2]; rfl⟩
          go_upto_region 7 with fail
          have B0 := Aside0.mk (below_drew1 (Below.refl W6.heap.size W6))
          have Z6 := Aside0.mk (blk_drew HZ6.out)
          clear x0 x1
          refine start_ (n := 6) (S := fun w' => True) (ds := []) #[false, false, false, false, false, false] (by kernel_rfl) rfl rfl trivial (fun hHeld => ?_)
          refine with_tabW begin7.tab7 begin7.bits7 (fun HT_ HW_ => ?_)
          generalize W6.drew = wq at B0 Z6 hHeld ⊢
          refine inv_at [0, 1, 2, 3, 4, 5] (fun a0_ b a w' => a = putSel a0_ b [(0, 41, .pointer (some ⟨h6, 1, none⟩)), (1, 42, .int .i64 x.f1), (2, 43, .pointer (some ⟨h6, 2, none⟩)), (3, 44, .slice A2 x.f2.length c2), (4, 2, .int .i64 x.f1), (5, 3, .slice A2 x.f2.length c2)] ∧ (Below W6.heap.size W6 w') ∧ (w'.heap[h6]? = some (.cells #[.int .i64 x.f0, .int .i64 x.f1, .slice A2 x.f2.length c2] 65 (0, 0)))) HT_.out HW_.out (by kernel_rfl) (by kernel_rfl) ?_ ?_ ?_
          · exact ⟨by simp only [putSel, Bool.false_eq_true, if_false], B0.out, Z6.out⟩
          · skip
            clear B0 Z6
            refine steps_cons ?_ ?_
            · rintro b a w' ⟨ha, Q_B0, Q_Z6⟩ hb_ hon hoff
              refine ⟨_, rfl, fun K hK => ?_⟩
              have e6 : a.tmps[6]? = some (.pointer (some ⟨h6, 0, none⟩)) := by rw [ha]; exact (putSel_off rfl).trans rfl
              replace ha := Aside0.mk ha
              have B0 := Aside0.mk Q_B0
              have Z6 := Aside0.mk Q_Z6
              refine value_ (w1 := w') (v := .pointer (some ⟨h6, 1, none⟩)) (by rfl) rfl ?_ ?_
              · go_simp
                (try simp only [i64_w])
                try rfl
              refine hK.out _ _ ⟨(by rw [ha.out]; exact putSel_upk 0 hb_ rfl rfl rfl), Q_B0, Q_Z6⟩
            refine steps_cons ?_ ?_
            · rintro b a w' ⟨ha, Q_B0, Q_Z6⟩ hb_ hon hoff
              refine ⟨_, rfl, fun K hK => ?_⟩
              have e41 : a.tmps[41]? = some (.pointer (some ⟨h6, 1, none⟩)) := by rw [ha]; exact putSel_on (e := (0, 41, .pointer (some ⟨h6, 1, none⟩))) 0 rfl rfl (hon 0 (by kernel_rfl)) rfl
              replace ha := Aside0.mk ha
              have B0 := Aside0.mk Q_B0
              have Z6 := Aside0.mk Q_Z6
              have c_ := blk_cell Z6.out 1
              refine value_ (w1 := w') (v := .int .i64 x.f1) (by rfl) rfl ?_ ?_
              · go_simp
                (try simp only [i64_w])
                try rfl
              refine hK.out _ _ ⟨(by rw [ha.out]; exact putSel_upk 1 hb_ rfl rfl rfl), Q_B0, Q_Z6⟩
            refine steps_cons ?_ ?_
            · rintro b a w' ⟨ha, Q_B0, Q_Z6⟩ hb_ hon hoff
              refine ⟨_, rfl, fun K hK => ?_⟩
              have e6 : a.tmps[6]? = some (.pointer (some ⟨h6, 0, none⟩)) := by rw [ha]; exact (putSel_off rfl).trans rfl
              replace ha := Aside0.mk ha
              have B0 := Aside0.mk Q_B0
              have Z6 := Aside0.mk Q_Z6
              refine value_ (w1 := w') (v := .pointer (some ⟨h6, 2, none⟩)) (by rfl) rfl ?_ ?_
              · go_simp
                (try simp only [i64_w])
                try rfl
              refine hK.out _ _ ⟨(by rw [ha.out]; exact putSel_upk 2 hb_ rfl rfl rfl), Q_B0, Q_Z6⟩
            refine steps_cons ?_ ?_
            · rintro b a w' ⟨ha, Q_B0, Q_Z6⟩ hb_ hon hoff
              refine ⟨_, rfl, fun K hK => ?_⟩
              have e43 : a.tmps[43]? = some (.pointer (some ⟨h6, 2, none⟩)) := by rw [ha]; exact putSel_on (e := (2, 43, .pointer (some ⟨h6, 2, none⟩))) 2 rfl rfl (hon 2 (by kernel_rfl)) rfl
              replace ha := Aside0.mk ha
              have B0 := Aside0.mk Q_B0
              have Z6 := Aside0.mk Q_Z6
              have c_ := blk_cell Z6.out 2
              refine value_ (w1 := w') (v := .slice A2 x.f2.length c2) (by rfl) rfl ?_ ?_
              · go_simp
                (try simp only [i64_w])
                try rfl
              refine hK.out _ _ ⟨(by rw [ha.out]; exact putSel_upk 3 hb_ rfl rfl rfl), Q_B0, Q_Z6⟩
            refine steps_cons ?_ ?_
            · rintro b a w' ⟨ha, Q_B0, Q_Z6⟩ hb_ hon hoff
              refine ⟨_, rfl, fun K hK => ?_⟩
              have e42 : a.tmps[42]? = some (.int .i64 x.f1) := by rw [ha]; exact putSel_on (e := (1, 42, .int .i64 x.f1)) 1 rfl rfl (hon 1 (by kernel_rfl)) rfl
              replace ha := Aside0.mk ha
              have B0 := Aside0.mk Q_B0
              have Z6 := Aside0.mk Q_Z6
              refine value_ (w1 := w') (v := .int .i64 x.f1) (by rfl) rfl ?_ ?_
              · go_simp
                (try simp only [i64_w])
                try rfl
              refine hK.out _ _ ⟨(by rw [ha.out]; exact putSel_upk 4 hb_ rfl rfl rfl), Q_B0, Q_Z6⟩
            refine steps_cons ?_ ?_
            · rintro b a w' ⟨ha, Q_B0, Q_Z6⟩ hb_ hon hoff
              refine ⟨_, rfl, fun K hK => ?_⟩
              have e44 : a.tmps[44]? = some (.slice A2 x.f2.length c2) := by rw [ha]; exact putSel_on (e := (3, 44, .slice A2 x.f2.length c2)) 3 rfl rfl (hon 3 (by kernel_rfl)) rfl
              replace ha := Aside0.mk ha
              have B0 := Aside0.mk Q_B0
              have Z6 := Aside0.mk Q_Z6
              refine value_ (w1 := w') (v := .slice A2 x.f2.length c2) (by rfl) rfl ?_ ?_
              · go_simp
                (try simp only [i64_w])
                try rfl
              refine hK.out _ _ ⟨(by rw [ha.out]; exact putSel_upk 5 hb_ rfl rfl rfl), Q_B0, Q_Z6⟩
            exact steps_nil
          rintro b a wl hall ⟨ha, Q_B0, Q_Z6⟩
          clear B0 Z6
          have hb0_ := hall 0 (by kernel_rfl)
          have hb1_ := hall 1 (by kernel_rfl)
          have hb2_ := hall 2 (by kernel_rfl)
          have hb3_ := hall 3 (by kernel_rfl)
          have hb4_ := hall 4 (by kernel_rfl)
          have hb5_ := hall 5 (by kernel_rfl)
          subst ha
          simp only [putSel, hb0_, hb1_, hb2_, hb3_, hb4_, hb5_, if_true, Act.put, List.setIfInBounds_toArray, List.set_cons_zero, List.set_cons_succ]
          have B0 := Aside0.mk Q_B0
          clear Q_B0
          have Z6 := Aside0.mk Q_Z6
          clear Q_Z6
          clear hall hb0_ hb1_ hb2_ hb3_ hb4_ hb5_
          go_wp2_with fail
          go_ret2
          have hT := (T1.out.below HB6.out).below B0.out
          have hsz := T1.out.size
          have hf := fault_at HI2.out HI.out.2.2 (HX.out.1 ▸ HO.out)
          rw [← HX.out.1] at hf
          rw [hf]
          exact ⟨A2, c2, rfl, HX.out.2.1, Kd.F_mono (Kd.F_below HG6.out B0.out) (fun k hk => .inl hk), (H1.out.below HB6.out).below B0.out, hT⟩
        | false =>
          cases e3 : (x.f1 == 2) with
          | true =>
            have HO : Aside0 (onF x D.ops = true) := ⟨by unfold onF; rw [e1, e2, e3]; rfl⟩
            go_upto_region 7 with fail
            have B0 := Aside0.mk (below_drew1 (Below.refl W6.heap.size W6))
            have Z6 := Aside0.mk (blk_drew HZ6.out)
            clear x0 x1
            refine start_ (n := 6) (S := fun w' => True) (ds := []) #[false, false, false, false, false, false] (by kernel_rfl) rfl rfl trivial (fun hHeld => ?_)
            refine with_tabW begin7.tab7 begin7.bits7 (fun HT_ HW_ => ?_)
            generalize W6.drew = wq at B0 Z6 hHeld ⊢
            refine inv_at [0, 1, 2, 3, 4, 5] (fun a0_ b a w' => a = putSel a0_ b [(0, 41, .pointer (some ⟨h6, 1, none⟩)), (1, 42, .int .i64 x.f1), (2, 43, .pointer (some ⟨h6, 2, none⟩)), (3, 44, .slice A2 x.f2.length c2), (4, 2, .int .i64 x.f1), (5, 3, .slice A2 x.f2.length c2)] ∧ (Below W6.heap.size W6 w') ∧ (w'.heap[h6]? = some (.cells #[.int .i64 x.f0, .int .i64 x.f1, .slice A2 x.f2.length c2] 65 (0, 0)))) HT_.out HW_.out (by kernel_rfl) (by kernel_rfl) ?_ ?_ ?_
            · exact ⟨by simp only [putSel, Bool.false_eq_true, if_false], B0.out, Z6.out⟩
            · skip
              clear B0 Z6
              refine steps_cons ?_ ?_
              · rintro b a w' ⟨ha, Q_B0, Q_Z6⟩ hb_ hon hoff
                refine ⟨_, rfl, fun K hK => ?_⟩
                have e6 : a.tmps[6]? = some (.pointer (some ⟨h6, 0, none⟩)) := by rw [ha]; exact (putSel_off rfl).trans rfl
                replace ha := Aside0.mk ha
                have B0 := Aside0.mk Q_B0
                have Z6 := Aside0.mk Q_Z6
                refine value_ (w1 := w') (v := .pointer (some ⟨h6, 1, none⟩)) (by rfl) rfl ?_ ?_
                · go_simp
                  (try simp only [i64_w])
                  try rfl
                refine hK.out _ _ ⟨(by rw [ha.out]; exact putSel_upk 0 hb_ rfl rfl rfl), Q_B0, Q_Z6⟩
              refine steps_cons ?_ ?_
              · rintro b a w' ⟨ha, Q_B0, Q_Z6⟩ hb_ hon hoff
                refine ⟨_, rfl, fun K hK => ?_⟩
                have e41 : a.tmps[41]? = some (.pointer (some ⟨h6, 1, none⟩)) := by rw [ha]; exact putSel_on (e := (0, 41, .pointer (some ⟨h6, 1, none⟩))) 0 rfl rfl (hon 0 (by kernel_rfl)) rfl
                replace ha := Aside0.mk ha
                have B0 := Aside0.mk Q_B0
                have Z6 := Aside0.mk Q_Z6
                have c_ := blk_cell Z6.out 1
                refine value_ (w1 := w') (v := .int .i64 x.f1) (by rfl) rfl ?_ ?_
                · go_simp
                  (try simp only [i64_w])
                  try rfl
                refine hK.out _ _ ⟨(by rw [ha.out]; exact putSel_upk 1 hb_ rfl rfl rfl), Q_B0, Q_Z6⟩
              refine steps_cons ?_ ?_
              · rintro b a w' ⟨ha, Q_B0, Q_Z6⟩ hb_ hon hoff
                refine ⟨_, rfl, fun K hK => ?_⟩
                have e6 : a.tmps[6]? = some (.pointer (some ⟨h6, 0, none⟩)) := by rw [ha]; exact (putSel_off rfl).trans rfl
                replace ha := Aside0.mk ha
                have B0 := Aside0.mk Q_B0
                have Z6 := Aside0.mk Q_Z6
                refine value_ (w1 := w') (v := .pointer (some ⟨h6, 2, none⟩)) (by rfl) rfl ?_ ?_
                · go_simp
                  (try simp only [i64_w])
                  try rfl
                refine hK.out _ _ ⟨(by rw [ha.out]; exact putSel_upk 2 hb_ rfl rfl rfl), Q_B0, Q_Z6⟩
              refine steps_cons ?_ ?_
              · rintro b a w' ⟨ha, Q_B0, Q_Z6⟩ hb_ hon hoff
                refine ⟨_, rfl, fun K hK => ?_⟩
                have e43 : a.tmps[43]? = some (.pointer (some ⟨h6, 2, none⟩)) := by rw [ha]; exact putSel_on (e := (2, 43, .pointer (some ⟨h6, 2, none⟩))) 2 rfl rfl (hon 2 (by kernel_rfl)) rfl
                replace ha := Aside0.mk ha
                have B0 := Aside0.mk Q_B0
                have Z6 := Aside0.mk Q_Z6
                have c_ := blk_cell Z6.out 2
                refine value_ (w1 := w') (v := .slice A2 x.f2.length c2) (by rfl) rfl ?_ ?_
                · go_simp
                  (try simp only [i64_w])
                  try rfl
                refine hK.out _ _ ⟨(by rw [ha.out]; exact putSel_upk 3 hb_ rfl rfl rfl), Q_B0, Q_Z6⟩
              refine steps_cons ?_ ?_
              · rintro b a w' ⟨ha, Q_B0, Q_Z6⟩ hb_ hon hoff
                refine ⟨_, rfl, fun K hK => ?_⟩
                have e42 : a.tmps[42]? = some (.int .i64 x.f1) := by rw [ha]; exact putSel_on (e := (1, 42, .int .i64 x.f1)) 1 rfl rfl (hon 1 (by kernel_rfl)) rfl
                replace ha := Aside0.mk ha
                have B0 := Aside0.mk Q_B0
                have Z6 := Aside0.mk Q_Z6
                refine value_ (w1 := w') (v := .int .i64 x.f1) (by rfl) rfl ?_ ?_
                · go_simp
                  (try simp only [i64_w])
                  try rfl
                refine hK.out _ _ ⟨(by rw [ha.out]; exact putSel_upk 4 hb_ rfl rfl rfl), Q_B0, Q_Z6⟩
              refine steps_cons ?_ ?_
              · rintro b a w' ⟨ha, Q_B0, Q_Z6⟩ hb_ hon hoff
                refine ⟨_, rfl, fun K hK => ?_⟩
                have e44 : a.tmps[44]? = some (.slice A2 x.f2.length c2) := by rw [ha]; exact putSel_on (e := (3, 44, .slice A2 x.f2.length c2)) 3 rfl rfl (hon 3 (by kernel_rfl)) rfl
                replace ha := Aside0.mk ha
                have B0 := Aside0.mk Q_B0
                have Z6 := Aside0.mk Q_Z6
                refine value_ (w1 := w') (v := .slice A2 x.f2.length c2) (by rfl) rfl ?_ ?_
                · go_simp
                  (try simp only [i64_w])
                  try rfl
                refine hK.out _ _ ⟨(by rw [ha.out]; exact putSel_upk 5 hb_ rfl rfl rfl), Q_B0, Q_Z6⟩
              exact steps_nil
            rintro b a wl hall ⟨ha, Q_B0, Q_Z6⟩
            clear B0 Z6
            have hb0_ := hall 0 (by kernel_rfl)
            have hb1_ := hall 1 (by kernel_rfl)
            have hb2_ := hall 2 (by kernel_rfl)
            have hb3_ := hall 3 (by kernel_rfl)
            have hb4_ := hall 4 (by kernel_rfl)
            have hb5_ := hall 5 (by kernel_rfl)
            subst ha
            simp only [putSel, hb0_, hb1_, hb2_, hb3_, hb4_, hb5_, if_true, Act.put, List.setIfInBounds_toArray, List.set_cons_zero, List.set_cons_succ]
            have B0 := Aside0.mk Q_B0
            clear Q_B0
            have Z6 := Aside0.mk Q_Z6
            clear Q_Z6
            clear hall hb0_ hb1_ hb2_ hb3_ hb4_ hb5_
            go_wp2_with fail
            go_ret2
            have hT := (T1.out.below HB6.out).below B0.out
            have hsz := T1.out.size
            have hf := fault_at HI2.out HI.out.2.2 (HX.out.1 ▸ HO.out)
            rw [← HX.out.1] at hf
            rw [hf]
            exact ⟨A2, c2, rfl, HX.out.2.1, Kd.F_mono (Kd.F_below HG6.out B0.out) (fun k hk => .inl hk), (H1.out.below HB6.out).below B0.out, hT⟩
          | false =>
            have HO : Aside0 (onF x D.ops = false) := ⟨by unfold onF; rw [e1, e2, e3]; rfl⟩
            go_wp2_with fail
            go_roundg (D.faults.length - i)
            case measure => have := HI.out.2.1; have := HI2.out; omega
            case rel => exact ⟨i + 1, by first | rfl | (rw [← i64_w, HWI]) | (simp; unfold wrap64; have := HI2.out; have := HLT.out; omega), ⟨HI2.out, by have := HI.out.2.1; have := HI2.out; omega, take_on HI2.out HI.out.2.2 (HX.out.1 ▸ HO.out)⟩, HB6⟩
end Go.Proofs.Ytnchdmidaigheaa.ND
namespace Go.Proofs.Ytnchdmidaigheaa.ND
set_option linter.unusedVariables false
set_option linter.unusedSimpArgs false
open Go.RowKit Go.Proofs.Ytnchdmidaigheaa.Hp Go.Proofs.YtnchdmidaigheaaW.PrintWords Go.Proofs.YtnchdmidaigheaaW.PrintLast Go.Proofs.YtnchdmidaigheaaW.PrintMore
structure XLay where
  g : Nat
  gp : Nat
  gn : Nat
  gw : Nat
  cp : Nat
  cn : Nat
  cw : Nat
  Am : Option Addr
  cm : Nat
  Af : Option Addr
  cf : Nat
def XLay.S (L : XLay) (k : Nat) : Prop := k = L.g ∨ k = L.gp ∨ k = L.gn ∨ k = L.gw
def XLay.top (L : XLay) (D : Dv) : Array Value := #[.int .i64 D.B, .int .i64 D.P, .int .i64 D.C, .slice L.Am D.bad.length L.cm, .slice (some ⟨L.gp, 0, none⟩) D.pages.length L.cp, .slice (some ⟨L.gn, 0, none⟩) D.next.length L.cn, .slice (some ⟨L.gw, 0, none⟩) D.wear.length L.cw, .slice L.Af D.faults.length L.cf, .int .i64 D.ops, .bool D.down]
def texts (l : List (List Int)) : List Value := l.map fun x => .string (strOfNums x)
structure XV (W : World) (ok : Nat → Prop) (L : XLay) (D : Dv) : Prop where
  top : W.heap[L.g]? = some (.cells (L.top D) 54 (0, 0))
  nx : Cells W L.gn 3 (D.next.map (Value.int .i64))
  we : Cells W L.gw 3 (D.wear.map (Value.int .i64))
  pg : Cells W L.gp 9 (texts D.pages)
  mb : Kd.F (Kd.int .i64) W ok L.Am D.bad.length D.bad ∧ D.bad.length ≤ L.cm
  fl : Kd.F k65 W ok L.Af D.faults.length D.faults ∧ D.faults.length ≤ L.cf
  ne : L.gp ≠ L.g ∧ L.gn ≠ L.g ∧ L.gw ≠ L.g ∧ L.gp ≠ L.gn ∧ L.gp ≠ L.gw ∧ L.gn ≠ L.gw
  no : ∀ k, ok k → k < W.heap.size → ¬ L.S k
  ok : D.Ok
section
variable {W W' : World} {ok : Nat → Prop} {L : XLay} {D : Dv}
theorem XV.lt (h : XV W ok L D) : ∀ k, L.S k → k < W.heap.size := by
  rintro k (rfl | rfl | rfl | rfl)
  · exact blk_lt h.top
  · exact h.pg.lt
  · exact h.nx.lt
  · exact h.we.lt
theorem XV.step (h : XV W ok L D) (hm : ∀ k, ok k ∨ L.S k → k < W.heap.size → W'.heap[k]? = W.heap[k]?) (hn : ∀ k, ok k → k < W'.heap.size → ¬ L.S k) : XV W' ok L D where
  top := (hm _ (.inr (.inl rfl)) (blk_lt h.top)).trans h.top
  nx := h.nx.same (hm _ (.inr (.inr (.inr (.inl rfl)))) h.nx.lt)
  we := h.we.same (hm _ (.inr (.inr (.inr (.inr rfl)))) h.we.lt)
  pg := h.pg.same (hm _ (.inr (.inr (.inl rfl))) h.pg.lt)
  mb := ⟨Kd.F_step h.mb.1 (fun k hk hl => hm k (.inl hk) hl), h.mb.2⟩
  fl := ⟨Kd.F_step h.fl.1 (fun k hk hl => hm k (.inl hk) hl), h.fl.2⟩
  ne := h.ne
  no := hn
  ok := h.ok
theorem XV.turn {S : Nat → Prop} (h : XV W ok L D) (ht : Turn W W' S) (hS : ∀ k, ok k ∨ L.S k → k < W.heap.size → ¬ S k) : XV W' ok L D :=
  h.step (fun k hk hl => ht.block k hl (hS k hk hl)) (fun k hk _ hS' => h.no k hk (h.lt k hS') hS')
theorem XV.below (h : XV W ok L D) (hb : Below W.heap.size W W') : XV W' ok L D := h.turn (Turn.of_below hb (fun _ => False)) (fun _ _ _ hf => hf)
theorem XV.bound (h : XV W ok L D) : XV W (fun k => ok k ∧ k < W.heap.size) L D where
  top := h.top
  nx := h.nx
  we := h.we
  pg := h.pg
  mb := ⟨Kd.F_bound h.mb.1, h.mb.2⟩
  fl := ⟨Kd.F_bound h.fl.1, h.fl.2⟩
  ne := h.ne
  no := fun k hk hl => h.no k hk.1 hl
  ok := h.ok
theorem xtop_cells (h : XV W ok L D) :
    W.cell? ⟨L.g, 0, none⟩ = some (.int .i64 D.B) ∧ W.cell? ⟨L.g, 1, none⟩ = some (.int .i64 D.P) ∧ W.cell? ⟨L.g, 2, none⟩ = some (.int .i64 D.C) ∧ W.cell? ⟨L.g, 3, none⟩ = some (.slice L.Am D.bad.length L.cm) ∧
    W.cell? ⟨L.g, 4, none⟩ = some (.slice (some ⟨L.gp, 0, none⟩) D.pages.length L.cp) ∧ W.cell? ⟨L.g, 5, none⟩ = some (.slice (some ⟨L.gn, 0, none⟩) D.next.length L.cn) ∧ W.cell? ⟨L.g, 6, none⟩ = some (.slice (some ⟨L.gw, 0, none⟩) D.wear.length L.cw) ∧
    W.cell? ⟨L.g, 7, none⟩ = some (.slice L.Af D.faults.length L.cf) ∧ W.cell? ⟨L.g, 8, none⟩ = some (.int .i64 D.ops) ∧ W.cell? ⟨L.g, 9, none⟩ = some (.bool D.down) :=
  ⟨blk_cell h.top 0, blk_cell h.top 1, blk_cell h.top 2, blk_cell h.top 3, blk_cell h.top 4, blk_cell h.top 5, blk_cell h.top 6, blk_cell h.top 7, blk_cell h.top 8, blk_cell h.top 9⟩
theorem XV.ro (h : XV W ok L D) {p : Addr} (hp : L.S p.block) (u : Value) : ∀ k, ok k → k < W.heap.size → (W.setCell p u).heap[k]? = W.heap[k]? := fun k hk hl => Below.heap_setCell W p u k (fun e => h.no k hk hl (e ▸ hp))
theorem XV.set_down (h : XV W ok L D) (x : Bool) : XV (W.setCell ⟨L.g, 9, none⟩ (.bool x)) ok L { D with down := x } where
  top := blk_put h.top 9 (.bool x) rfl
  nx := h.nx.far h.ne.2.1 _
  we := h.we.far h.ne.2.2.1 _
  pg := h.pg.far h.ne.1 _
  mb := ⟨Kd.F_step h.mb.1 (h.ro (.inl rfl) _), h.mb.2⟩
  fl := ⟨Kd.F_step h.fl.1 (h.ro (.inl rfl) _), h.fl.2⟩
  ne := h.ne
  no := fun k hk hl => h.no k hk (by simpa using hl)
  ok := { h.ok with }
theorem XV.set_ops (h : XV W ok L D) (x : Int) : XV (W.setCell ⟨L.g, 8, none⟩ (.int .i64 x)) ok L { D with ops := x } where
  top := blk_put h.top 8 (.int .i64 x) rfl
  nx := h.nx.far h.ne.2.1 _
  we := h.we.far h.ne.2.2.1 _
  pg := h.pg.far h.ne.1 _
  mb := ⟨Kd.F_step h.mb.1 (h.ro (.inl rfl) _), h.mb.2⟩
  fl := ⟨Kd.F_step h.fl.1 (h.ro (.inl rfl) _), h.fl.2⟩
  ne := h.ne
  no := fun k hk hl => h.no k hk (by simpa using hl)
  ok := { h.ok with }
theorem XV.set_next (h : XV W ok L D) (n : Nat) (x : Int) (hx : 0 ≤ x ∧ x ≤ D.P) : XV (W.setCell ⟨L.gn, n, none⟩ (.int .i64 x)) ok L { D with next := D.next.set n x } where
  top := by
    have := blk_far h.top (p := ⟨L.gn, n, none⟩) h.ne.2.1.symm (.int .i64 x)
    rw [this]
    unfold XLay.top
    simp only [List.length_set]
  nx := by
    have := h.nx.set n (.int .i64 x)
    rwa [← List.map_set] at this
  we := h.we.far (p := ⟨L.gn, n, none⟩) h.ne.2.2.2.2.2.symm _
  pg := h.pg.far (p := ⟨L.gn, n, none⟩) h.ne.2.2.2.1 _
  mb := ⟨Kd.F_step h.mb.1 (h.ro (.inr (.inr (.inl rfl))) _), h.mb.2⟩
  fl := ⟨Kd.F_step h.fl.1 (h.ro (.inr (.inr (.inl rfl))) _), h.fl.2⟩
  ne := h.ne
  no := fun k hk hl => h.no k hk (by simpa using hl)
  ok := { h.ok with
    nl := by show ((D.next.set _ _).length : Int) = _; rw [List.length_set]; exact h.ok.nl
    nr := fun y hy => by
      rcases List.mem_or_eq_of_mem_set hy with h' | h'
      · exact h.ok.nr y h'
      · rw [h']; exact hx }
theorem XV.set_wear (h : XV W ok L D) (n : Nat) (x : Int) (hx : -9223372036854775808 ≤ x ∧ x ≤ 9223372036854775807) : XV (W.setCell ⟨L.gw, n, none⟩ (.int .i64 x)) ok L { D with wear := D.wear.set n x } where
  top := by
    have := blk_far h.top (p := ⟨L.gw, n, none⟩) h.ne.2.2.1.symm (.int .i64 x)
    rw [this]
    unfold XLay.top
    simp only [List.length_set]
  nx := h.nx.far (p := ⟨L.gw, n, none⟩) h.ne.2.2.2.2.2 _
  we := by
    have := h.we.set n (.int .i64 x)
    rwa [← List.map_set] at this
  pg := h.pg.far (p := ⟨L.gw, n, none⟩) h.ne.2.2.2.2.1 _
  mb := ⟨Kd.F_step h.mb.1 (h.ro (.inr (.inr (.inr rfl))) _), h.mb.2⟩
  fl := ⟨Kd.F_step h.fl.1 (h.ro (.inr (.inr (.inr rfl))) _), h.fl.2⟩
  ne := h.ne
  no := fun k hk hl => h.no k hk (by simpa using hl)
  ok := { h.ok with
    wl := by show ((D.wear.set _ _).length : Int) = _; rw [List.length_set]; exact h.ok.wl
    wr := fun y hy => by
      rcases List.mem_or_eq_of_mem_set hy with h' | h'
      · exact h.ok.wr y h'
      · rw [h']; exact hx }
theorem XV.set_page (h : XV W ok L D) (n : Nat) {l : List Int} (hl : isBytes l ∧ l.length = 256) : XV (W.setCell ⟨L.gp, n, none⟩ (.string (strOfNums l))) ok L { D with pages := D.pages.set n l } where
  top := by
    have := blk_far h.top (p := ⟨L.gp, n, none⟩) h.ne.1.symm (.string (strOfNums l))
    rw [this]
    unfold XLay.top
    simp only [List.length_set]
  nx := h.nx.far (p := ⟨L.gp, n, none⟩) h.ne.2.2.2.1.symm _
  we := h.we.far (p := ⟨L.gp, n, none⟩) h.ne.2.2.2.2.1.symm _
  pg := by
    have := h.pg.set n (.string (strOfNums l))
    unfold texts at this ⊢
    rwa [← List.map_set] at this
  mb := ⟨Kd.F_step h.mb.1 (h.ro (.inr (.inl rfl)) _), h.mb.2⟩
  fl := ⟨Kd.F_step h.fl.1 (h.ro (.inr (.inl rfl)) _), h.fl.2⟩
  ne := h.ne
  no := fun k hk hl => h.no k hk (by simpa using hl)
  ok := { h.ok with
    pl := by show ((D.pages.set _ _).length : Int) = _; rw [List.length_set]; exact h.ok.pl
    pw := fun y hy => by
      rcases List.mem_or_eq_of_mem_set hy with h' | h'
      · exact h.ok.pw y h'
      · rw [h']; exact hl }
end
theorem texts_at {l : List (List Int)} {n : Nat} (h : n < l.length) : (texts l)[n]? = some (.string (strOfNums (l.getD n []))) := by
  unfold texts
  rw [List.getElem?_map, List.getD_eq_getElem?_getD, List.getElem?_eq_getElem h]
  rfl
end Go.Proofs.Ytnchdmidaigheaa.ND
namespace Go.Proofs.Ytnchdmidaigheaa.Hp
open Go.RowKit Go.Proofs.YtnchdmidaigheaaW.PrintWords Go.Proofs.YtnchdmidaigheaaW.PrintLast Go.Proofs.YtnchdmidaigheaaW.PrintMore
attribute [local go_sem] max2_int min2_int max_two min_two max_three min_three max_four min_four   -- for this text's walks alone
set_option linter.unusedVariables false
set_option linter.unusedSimpArgs false
def wagtaillaw14_full.l0 : Nat → List Int → List Int → Int → Option (List Int)
  | 0, _, _, _ => none
  | k + 1, x0, x3, x4 => if x4 < 256 then (if (x0.length : Int) > 0 then (if (x0.length : Int) = 0 then (none) else (if 0 ≤ (Int.tmod x4 (x0.length : Int)) then (if (Int.tmod x4 (x0.length : Int)) < (x0.length : Int) then (if x3.length < 140737488355328 then (wagtaillaw14_full.l0 k x0 (x3 ++ [rd x0 (Int.tmod x4 (x0.length : Int))]) (wrap64 (x4 + 1))) else (none)) else (none)) else (none))) else (if x3.length < 140737488355328 then (wagtaillaw14_full.l0 k x0 (x3 ++ [(x4) % 256]) (wrap64 (x4 + 1))) else (none))) else (some x3)
def wagtaillaw14_full.f (k : Nat) (l0 : List Int) : Option (List Int) := wagtaillaw14_full.l0 k l0 ([] : List Int) 0
theorem wagtaillaw14_full.mono_l : ∀ k, (∀ y0 y1 y2, LeO (wagtaillaw14_full.l0 k y0 y1 y2) (wagtaillaw14_full.l0 (k + 1) y0 y1 y2))
  | 0 => fun _ _ _ r h => by simp [wagtaillaw14_full.l0] at h
  | k + 1 => by
    have ih0 := wagtaillaw14_full.mono_l k
    · intro y0 y1 y2
      unfold wagtaillaw14_full.l0
      repeat' first
      | (with_reducible exact ih0 _ _ _)
      | (with_reducible exact LeO.refl _)
      | (with_reducible exact LeO.none _)
      | (with_reducible refine LeO.ite ?_ ?_)
      | (with_reducible refine LeO.bind ?_ (fun _ => ?_))
      | exact ih0 _ _ _
      | exact LeO.none _
      | refine LeO.ite ?_ ?_
      | refine LeO.bind ?_ (fun _ => ?_)
theorem wagtaillaw14_full.mono : ∀ a0 k, LeO (wagtaillaw14_full.f k a0) (wagtaillaw14_full.f (k + 1) a0) := by
  intro a0 k
  have ih0 := wagtaillaw14_full.mono_l k
  unfold wagtaillaw14_full.f
  repeat' first
      | (with_reducible exact ih0 _ _ _)
      | (with_reducible exact LeO.refl _)
      | (with_reducible exact LeO.none _)
      | (with_reducible refine LeO.ite ?_ ?_)
      | (with_reducible refine LeO.bind ?_ (fun _ => ?_))
      | exact ih0 _ _ _
      | exact LeO.none _
      | refine LeO.ite ?_ ?_
      | refine LeO.bind ?_ (fun _ => ?_)
set_option maxHeartbeats 8000000 in
set_option maxRecDepth 100000 in
theorem wagtaillaw14_full.calls (k : Nat) (A0 : Option Addr) (c0 : Nat) (l0 : List Int) (r : List Int) (w : World) (hr0 : Kd.C (Kd.int .u8) w A0 l0.length l0) (hc0 : l0.length ≤ c0) (h : wagtaillaw14_full.f k l0 = some r) :
    Calls Try.prog 18 #[.slice A0 l0.length c0] w fun e w' => ∃ v0_ : Value, e = .returned (v0_) ∧ Kd.R (Kd.int .u8) 5 w' w.heap.size (fun _ => True) v0_ r ∧ Below w.heap.size w w' := by
  have HR0 := Aside0.mk hr0
  have HC0 := Aside0.mk hc0
  clear hr0 hc0
  have HB := Aside0.mk (Below.refl w.heap.size w)
  have H : (wagtaillaw14_full.l0 k l0 ([] : List Int) 0) = some r := h
  clear h
  have H' := Aside0.mk H
  clear H
  go_enter Try.func18, Try.ntmps18
  go_wp2
  go_loopg [3, 4] k (fun kq v3 v4 w' => ∃ (x3_1 : List Int) (x4_1 : Int), v4 = .int .i64 x4_1 ∧ Aside0 (wagtaillaw14_full.l0 kq l0 x3_1 x4_1 = some r) ∧ Aside0 (kq ≤ k) ∧ Aside0 (Kd.R (Kd.int .u8) 5 w' w.heap.size (fun _ => True) v3 x3_1) ∧ Aside0 (Below w.heap.size w w'))
  case atStart => exact ⟨(([] : List Int)), (0), (by first | rfl | (simp; done) | (simp [*]; done)), H', ⟨Nat.le_refl _⟩, ⟨by first | exact Kd.R_nil _ _ _ _ _ | exact Kd.N_nil _ _ _ _ _ | exact Kd.V_nil _ _ _ _ _ | exact Kd.Q_nil _ _ _ _ _ | exact Kd.S_nil _ _ _ _ _⟩, ⟨by repeat (first | (with_reducible first | exact HB.out | apply below_alloc | apply pw_below_drewN | apply below_drew1) | exact HB.out)⟩⟩
  case round =>
    clear H'
    try clear c1
    obtain ⟨x3_1, x4_1, rfl, HA, HK1, HO_3, HB⟩ := hrel
    cases gk with
    | zero => exact absurd HA.out (by simp [wagtaillaw14_full.l0])
    | succ k1 =>
      have H := HA.out
      clear HA
      simp only [wagtaillaw14_full.l0] at H
      by_cases c2 : x4_1 < 256
      · rw [if_pos c2] at H
        have c2b0 : decide (x4_1 < 256) = true := decide_eq_true c2
        clear c2
        by_cases c3 : (l0.length : Int) > 0
        · rw [if_pos c3] at H
          have c3b0 : decide (0 < (l0.length : Int)) = true := decide_eq_true c3
          have c3b1 : decide (0 < l0.length) = true := decide_eq_true (by omega)
          clear c3
          by_cases c4 : (l0.length : Int) = 0
          · rw [if_pos c4] at H
            exact absurd H (by simp)
          · rw [if_neg c4] at H
            have c4b0 : ((l0.length : Int) == 0) = false := beq_eq_false_iff_ne.mpr c4
            have c4b1 : ((l0.length : Int) != 0) = true := bne_iff_ne.mpr c4
            have c4b2 : ¬ (l0 = []) := fun h_ => c4 (by rw [h_]; rfl)
            obtain ⟨ji5, hji5⟩ : ∃ j_ : Int, (Int.tmod x4_1 (l0.length : Int)) = j_ := ⟨_, rfl⟩
            replace H : (if 0 ≤ (ji5) then (if (ji5) < (l0.length : Int) then (if x3_1.length < 140737488355328 then (wagtaillaw14_full.l0 k1 l0 (x3_1 ++ [rd l0 (ji5)]) (wrap64 (x4_1 + 1))) else (none)) else (none)) else (none)) = some r := by first | (rw [hji5] at H; exact H) | (simp only [hji5] at H ⊢; exact H)
            by_cases c6 : 0 ≤ (ji5)
            · rw [if_pos c6] at H
              have c6b0 : decide (0 ≤ (ji5)) = true := decide_eq_true c6
              clear c6
              by_cases c7 : (ji5) < (l0.length : Int)
              · rw [if_pos c7] at H
                have c7b0 : decide ((ji5) < (l0.length : Int)) = true := decide_eq_true c7
                clear c7
                by_cases c8 : x3_1.length < 140737488355328
                · rw [if_pos c8] at H
                  have LMc8 := Aside0.mk c8
                  clear c8
                  obtain ⟨y128, hy128⟩ : ∃ y_ : List Int, y_ = (x3_1 ++ [rd l0 (ji5)]) := ⟨_, rfl⟩
                  replace H : (wagtaillaw14_full.l0 k1 l0 y128 (wrap64 (x4_1 + 1))) = some r := by first | (rw [hy128]; with_reducible exact H) | (have H2_ := (Option.bind_some _ _).symm.trans H; rw [hy128]; with_reducible exact H2_) | (have H2_ := (Option.bind_some _ _).symm.trans H; with_reducible exact H2_) | with_reducible exact H | (rw [hy128]; exact H) | exact H
                  have Ny128 := Aside0.mk hy128
                  clear hy128
                  have H' := Aside0.mk H
                  clear H
                  have p127 : 0 ≤ ((ji5) : Int) := of_decide_eq_true (by first | (with_reducible assumption) | assumption)
                  have q127 : (ji5) < (l0.length : Int) := of_decide_eq_true (by first | (with_reducible assumption) | assumption)
                  obtain ⟨ad127, e127, hx127_0⟩ := Kd.at_int HR0.out (ji5) p127 q127
                  cases e127
                  replace hx127_0 := (HB.out.cell (World.block_lt_of_cell? w _ hx127_0)).trans hx127_0
                  replace p127 := eq_true p127
                  replace q127 := eq_true q127
                  go_wp2_with (first | ((with_reducible refine gate_builtin (b := .append) (xs := #[.tmp 22, .tmp 24]) rfl ?_); at_builtin; refine Kd.R_append (Kd.int .u8) (w0 := w) w.heap.size rfl (.tmp 22) (.tmp 24) 38 5 (.int .u8 0) 1 rfl Try.underlying38 info5 rfl (by decide) (by omega) u3 x3_1 (rd l0 (ji5)) [.int .u8 (rd l0 (ji5))] (fun _ => True) (fun _ => False) rfl rfl ?aP (fun _ hk => hk.elim) ?aF ?aO ?aB ?aS ?aL ?_; (case aP => exact rfl); (case aB => exact (by repeat (first | (with_reducible first | exact HB.out | apply below_alloc | apply pw_below_drewN | apply below_drew1) | exact HB.out))); (case aF => exact (fun _ _ => trivial)); (case aO => exact (by (with_reducible repeat (first | apply Kd.R_alloc | apply Kd.R_drewN | apply Kd.R_drew)); exact HO_3.out)); (case aS => exact (below_size (by repeat (first | (with_reducible first | exact HB.out | apply below_alloc | apply pw_below_drewN | apply below_drew1) | exact HB.out)))); (case aL => have := LMc8.out; omega); intro v129 w9 ho hb hg hat; rw [← Ny128.out] at ho; have n0_ := Aside0.mk (hb); have n1_ := Aside0.mk (ho); clear HB; clear HO_3; have HB := n0_; have HO130 := n1_; clear n0_ n1_; clear ho hb hg hat))
                  go_roundg k1
                  case measure => have := HK1.out; omega
                  case rel => exact ⟨(y128), (wrap64 (x4_1 + 1)), (by first | rfl | (simp; done) | (simp [*]; done)), H', ⟨by have := HK1.out; omega⟩, ⟨by (with_reducible repeat (first | apply Kd.R_alloc | apply Kd.R_drewN | apply Kd.R_drew)); exact HO130.out⟩, ⟨by repeat (first | (with_reducible first | exact HB.out | apply below_alloc | apply pw_below_drewN | apply below_drew1) | exact HB.out)⟩⟩
                · rw [if_neg c8] at H
                  exact absurd H (by simp)
              · rw [if_neg c7] at H
                exact absurd H (by simp)
            · rw [if_neg c6] at H
              exact absurd H (by simp)
        · rw [if_neg c3] at H
          have c3b0 : decide (0 < (l0.length : Int)) = false := decide_eq_false c3
          have c3b1 : decide (0 < l0.length) = false := decide_eq_false (by omega)
          clear c3
          by_cases c10 : x3_1.length < 140737488355328
          · rw [if_pos c10] at H
            have LMc10 := Aside0.mk c10
            clear c10
            obtain ⟨y131, hy131⟩ : ∃ y_ : List Int, y_ = (x3_1 ++ [(x4_1) % 256]) := ⟨_, rfl⟩
            replace H : (wagtaillaw14_full.l0 k1 l0 y131 (wrap64 (x4_1 + 1))) = some r := by first | (rw [hy131]; with_reducible exact H) | (have H2_ := (Option.bind_some _ _).symm.trans H; rw [hy131]; with_reducible exact H2_) | (have H2_ := (Option.bind_some _ _).symm.trans H; with_reducible exact H2_) | with_reducible exact H | (rw [hy131]; exact H) | exact H
            have Ny131 := Aside0.mk hy131
            clear hy131
            have H' := Aside0.mk H
            clear H
            go_wp2_with (first | ((with_reducible refine gate_builtin (b := .append) (xs := #[.tmp 22, .tmp 24]) rfl ?_); at_builtin; refine Kd.R_append (Kd.int .u8) (w0 := w) w.heap.size rfl (.tmp 22) (.tmp 24) 38 5 (.int .u8 0) 1 rfl Try.underlying38 info5 rfl (by decide) (by omega) u3 x3_1 ((x4_1) % 256) [.int .u8 ((x4_1) % 256)] (fun _ => True) (fun _ => False) rfl rfl ?aP (fun _ hk => hk.elim) ?aF ?aO ?aB ?aS ?aL ?_; (case aP => exact rfl); (case aB => exact (by repeat (first | (with_reducible first | exact HB.out | apply below_alloc | apply pw_below_drewN | apply below_drew1) | exact HB.out))); (case aF => exact (fun _ _ => trivial)); (case aO => exact (by (with_reducible repeat (first | apply Kd.R_alloc | apply Kd.R_drewN | apply Kd.R_drew)); exact HO_3.out)); (case aS => exact (below_size (by repeat (first | (with_reducible first | exact HB.out | apply below_alloc | apply pw_below_drewN | apply below_drew1) | exact HB.out)))); (case aL => have := LMc10.out; omega); intro v132 w11 ho hb hg hat; rw [← Ny131.out] at ho; have n0_ := Aside0.mk (hb); have n1_ := Aside0.mk (ho); clear HB; clear HO_3; have HB := n0_; have HO133 := n1_; clear n0_ n1_; clear ho hb hg hat))
            go_roundg k1
            case measure => have := HK1.out; omega
            case rel => exact ⟨(y131), (wrap64 (x4_1 + 1)), (by first | rfl | (simp; done) | (simp [*]; done)), H', ⟨by have := HK1.out; omega⟩, ⟨by (with_reducible repeat (first | apply Kd.R_alloc | apply Kd.R_drewN | apply Kd.R_drew)); exact HO133.out⟩, ⟨by repeat (first | (with_reducible first | exact HB.out | apply below_alloc | apply pw_below_drewN | apply below_drew1) | exact HB.out)⟩⟩
          · rw [if_neg c10] at H
            exact absurd H (by simp)
      · rw [if_neg c2] at H
        have c2b0 : decide (x4_1 < 256) = false := decide_eq_false c2
        clear c2
        obtain rfl := Option.some.inj H
        go_wp2
        go_ret
        exact ⟨_, by first | rfl | (simp [errW_none, errW_some] <;> rfl) | (simp [*, errW_none, errW_some] <;> rfl), by (with_reducible repeat (first | apply Kd.R_alloc | apply Kd.R_drewN | apply Kd.R_drew)); exact HO_3.out, by repeat (first | (with_reducible first | exact HB.out | apply below_alloc | apply pw_below_drewN | apply below_drew1) | exact HB.out)⟩
def wagtailref01_Low.f (a0 : Int) (a1 : Int) : Option (Int) := if a0 < a1 then (some a0) else (some a1)
set_option maxHeartbeats 8000000 in
set_option maxRecDepth 100000 in
theorem wagtailref01_Low.calls (a0 : Int) (a1 : Int) (r : Int) (w : World) (h : wagtailref01_Low.f a0 a1 = some r) :
    Calls Try.prog 20 #[.int .i64 a0, .int .i64 a1] w fun e w' => e = .returned (.int .i64 r) ∧ Drawn0 w w' := by
  have H : (if a0 < a1 then (some a0) else (some a1)) = some r := h
  clear h
  by_cases c3 : a0 < a1
  · rw [if_pos c3] at H
    have c3b0 : decide (a0 < a1) = true := decide_eq_true c3
    clear c3
    obtain rfl := Option.some.inj H
    go_enter Try.func20, Try.ntmps20
    go_wp2
    go_ret
    exact ⟨by first | rfl | (simp; done) | (simp [*]; done), by repeat (first | exact Drawn0.refl _ | apply Drawn0.step)⟩
  · rw [if_neg c3] at H
    have c3b0 : decide (a0 < a1) = false := decide_eq_false c3
    clear c3
    obtain rfl := Option.some.inj H
    go_enter Try.func20, Try.ntmps20
    go_wp2
    go_ret
    exact ⟨by first | rfl | (simp; done) | (simp [*]; done), by repeat (first | exact Drawn0.refl _ | apply Drawn0.step)⟩
def wagtailref02_Bit.l0 : Nat → Int → Int → Int → Option (Int)
  | 0, _, _, _ => none
  | k + 1, x1, x5, x6 => if x6 < (Int.tmod x1 8) then (wagtailref02_Bit.l0 k x1 (wrap64 (Int.tdiv x5 2)) (wrap64 (x6 + 1))) else (some (Int.tmod x5 2))
def wagtailref02_Bit.f (k : Nat) (l0 : List Int) (a1 : Int) : Option (Int) := if 0 ≤ (wrap64 (Int.tdiv a1 8)) then (if (wrap64 (Int.tdiv a1 8)) < (l0.length : Int) then (wagtailref02_Bit.l0 k a1 (wrap64 (rd l0 (wrap64 (Int.tdiv a1 8)))) 0) else (none)) else (none)
theorem wagtailref02_Bit.mono_l : ∀ k, (∀ y0 y1 y2, LeO (wagtailref02_Bit.l0 k y0 y1 y2) (wagtailref02_Bit.l0 (k + 1) y0 y1 y2))
  | 0 => fun _ _ _ r h => by simp [wagtailref02_Bit.l0] at h
  | k + 1 => by
    have ih0 := wagtailref02_Bit.mono_l k
    · intro y0 y1 y2
      unfold wagtailref02_Bit.l0
      repeat' first
      | (with_reducible exact ih0 _ _ _)
      | (with_reducible exact LeO.refl _)
      | (with_reducible exact LeO.none _)
      | (with_reducible refine LeO.ite ?_ ?_)
      | (with_reducible refine LeO.bind ?_ (fun _ => ?_))
      | exact ih0 _ _ _
      | exact LeO.none _
      | refine LeO.ite ?_ ?_
      | refine LeO.bind ?_ (fun _ => ?_)
theorem wagtailref02_Bit.mono : ∀ a0 a1 k, LeO (wagtailref02_Bit.f k a0 a1) (wagtailref02_Bit.f (k + 1) a0 a1) := by
  intro a0 a1 k
  have ih0 := wagtailref02_Bit.mono_l k
  unfold wagtailref02_Bit.f
  repeat' first
      | (with_reducible exact ih0 _ _ _)
      | (with_reducible exact LeO.refl _)
      | (with_reducible exact LeO.none _)
      | (with_reducible refine LeO.ite ?_ ?_)
      | (with_reducible refine LeO.bind ?_ (fun _ => ?_))
      | exact ih0 _ _ _
      | exact LeO.none _
      | refine LeO.ite ?_ ?_
      | refine LeO.bind ?_ (fun _ => ?_)
set_option maxHeartbeats 8000000 in
set_option maxRecDepth 100000 in
theorem wagtailref02_Bit.calls (k : Nat) (A0 : Option Addr) (c0 : Nat) (l0 : List Int) (a1 : Int) (r : Int) (w : World) (hr0 : Kd.C (Kd.int .u8) w A0 l0.length l0) (hc0 : l0.length ≤ c0) (h : wagtailref02_Bit.f k l0 a1 = some r) :
    Calls Try.prog 72 #[.slice A0 l0.length c0, .int .i64 a1] w fun e w' => e = .returned (.int .i64 r) ∧ Drawn0 w w' := by
  have HR0 := Aside0.mk hr0
  have HC0 := Aside0.mk hc0
  clear hr0 hc0
  have H : (if 0 ≤ (wrap64 (Int.tdiv a1 8)) then (if (wrap64 (Int.tdiv a1 8)) < (l0.length : Int) then (wagtailref02_Bit.l0 k a1 (wrap64 (rd l0 (wrap64 (Int.tdiv a1 8)))) 0) else (none)) else (none)) = some r := h
  clear h
  obtain ⟨ji3, hji3⟩ : ∃ j_ : Int, (wrap64 (Int.tdiv a1 8)) = j_ := ⟨_, rfl⟩
  replace H : (if 0 ≤ (ji3) then (if (ji3) < (l0.length : Int) then (wagtailref02_Bit.l0 k a1 (wrap64 (rd l0 (ji3))) 0) else (none)) else (none)) = some r := by first | (rw [hji3] at H; exact H) | (simp only [hji3] at H ⊢; exact H)
  have hji3w : (IntKind.i64.wrap (Int.tdiv a1 8)) = ji3 := (i64_w _).trans hji3
  by_cases c4 : 0 ≤ (ji3)
  · rw [if_pos c4] at H
    have c4b0 : decide (0 ≤ (ji3)) = true := decide_eq_true c4
    clear c4
    by_cases c5 : (ji3) < (l0.length : Int)
    · rw [if_pos c5] at H
      have c5b0 : decide ((ji3) < (l0.length : Int)) = true := decide_eq_true c5
      clear c5
      have H' := Aside0.mk H
      clear H
      have p134 : 0 ≤ ((ji3) : Int) := of_decide_eq_true (by first | (with_reducible assumption) | assumption)
      have q134 : (ji3) < (l0.length : Int) := of_decide_eq_true (by first | (with_reducible assumption) | assumption)
      obtain ⟨ad134, e134, hx134_0⟩ := Kd.at_int HR0.out (ji3) p134 q134
      cases e134
      replace p134 := eq_true p134
      replace q134 := eq_true q134
      go_enter Try.func72, Try.ntmps72
      go_wp2
      go_loopg [5, 6] k (fun kq v5 v6 w' => ∃ (x5_1 : Int) (x6_1 : Int), v5 = .int .i64 x5_1 ∧ v6 = .int .i64 x6_1 ∧ Aside0 (wagtailref02_Bit.l0 kq a1 x5_1 x6_1 = some r) ∧ Aside0 (kq ≤ k) ∧ Drawn0 w w')
      case atStart => exact ⟨(wrap64 (rd l0 (ji3))), (0), (by first | rfl | (simp; done) | (simp only [← hji3] <;> (first | rfl | simp)) | (simp [*]; done)), (by first | rfl | (simp; done) | (simp [*]; done)), H', ⟨Nat.le_refl _⟩, by repeat (first | exact Drawn0.refl _ | apply Drawn0.step)⟩
      case round =>
        clear H'
        try clear p1
        try clear q1
        try clear hx1
        try clear p2
        try clear c4
        try clear c4b0
        try clear c5
        try clear c5b0
        try clear hx134_0
        try clear p134
        try clear q134
        obtain ⟨x5_1, x6_1, rfl, rfl, HA, HK1, ⟨m1, rfl⟩⟩ := hrel
        cases gk with
        | zero => exact absurd HA.out (by simp [wagtailref02_Bit.l0])
        | succ k1 =>
          have H := HA.out
          clear HA
          simp only [wagtailref02_Bit.l0] at H
          by_cases c6 : x6_1 < (Int.tmod a1 8)
          · rw [if_pos c6] at H
            have c6b0 : decide (x6_1 < (Int.tmod a1 8)) = true := decide_eq_true c6
            clear c6
            have H' := Aside0.mk H
            clear H
            go_wp2
            go_roundg k1
            case measure => have := HK1.out; omega
            case rel => exact ⟨(wrap64 (Int.tdiv x5_1 2)), (wrap64 (x6_1 + 1)), (by first | rfl | (simp; done) | (simp [*]; done)), (by first | rfl | (simp; done) | (simp [*]; done)), H', ⟨by have := HK1.out; omega⟩, by repeat (first | exact Drawn0.refl _ | apply Drawn0.step)⟩
          · rw [if_neg c6] at H
            have c6b0 : decide (x6_1 < (Int.tmod a1 8)) = false := decide_eq_false c6
            clear c6
            obtain rfl := Option.some.inj H
            go_wp2
            go_ret
            exact ⟨by first | rfl | (simp; done) | (simp only [← hji3] <;> (first | rfl | simp)) | (simp [*]; done), by repeat (first | exact Drawn0.refl _ | apply Drawn0.step)⟩
    · rw [if_neg c5] at H
      exact absurd H (by simp)
  · rw [if_neg c4] at H
    exact absurd H (by simp)
def wagtailref02_Covers.l0 : Nat → List Int → List Int → Int → Option (Bool)
  | 0, _, _, _ => none
  | k + 1, x0, x1, x5 => if x5 < (wrap64 (8 * (x0.length : Int))) then ((wagtailref02_Bit.f k x0 x5).bind fun t135 => ((wagtailref02_Bit.f k x1 x5).bind fun t136 => (if t135 < t136 then (some false) else (wagtailref02_Covers.l0 k x0 x1 (wrap64 (x5 + 1)))))) else (some true)
def wagtailref02_Covers.f (k : Nat) (l0 : List Int) (l1 : List Int) : Option (Bool) := if (l0.length : Int) = (l1.length : Int) then (wagtailref02_Covers.l0 k l0 l1 0) else (some false)
theorem wagtailref02_Covers.mono_l : ∀ k, (∀ y0 y1 y2, LeO (wagtailref02_Covers.l0 k y0 y1 y2) (wagtailref02_Covers.l0 (k + 1) y0 y1 y2))
  | 0 => fun _ _ _ r h => by simp [wagtailref02_Covers.l0] at h
  | k + 1 => by
    have ih0 := wagtailref02_Covers.mono_l k
    · intro y0 y1 y2
      unfold wagtailref02_Covers.l0
      repeat' first
      | (with_reducible exact ih0 _ _ _)
      | (with_reducible exact wagtailref02_Bit.mono _ _ _)
      | (with_reducible exact LeO.refl _)
      | (with_reducible exact LeO.none _)
      | (with_reducible refine LeO.ite ?_ ?_)
      | (with_reducible refine LeO.bind ?_ (fun _ => ?_))
      | exact ih0 _ _ _
      | exact wagtailref02_Bit.mono _ _ _
      | exact LeO.none _
      | refine LeO.ite ?_ ?_
      | refine LeO.bind ?_ (fun _ => ?_)
theorem wagtailref02_Covers.mono : ∀ a0 a1 k, LeO (wagtailref02_Covers.f k a0 a1) (wagtailref02_Covers.f (k + 1) a0 a1) := by
  intro a0 a1 k
  have ih0 := wagtailref02_Covers.mono_l k
  unfold wagtailref02_Covers.f
  repeat' first
      | (with_reducible exact ih0 _ _ _)
      | (with_reducible exact wagtailref02_Bit.mono _ _ _)
      | (with_reducible exact LeO.refl _)
      | (with_reducible exact LeO.none _)
      | (with_reducible refine LeO.ite ?_ ?_)
      | (with_reducible refine LeO.bind ?_ (fun _ => ?_))
      | exact ih0 _ _ _
      | exact wagtailref02_Bit.mono _ _ _
      | exact LeO.none _
      | refine LeO.ite ?_ ?_
      | refine LeO.bind ?_ (fun _ => ?_)
set_option maxHeartbeats 8000000 in
set_option maxRecDepth 100000 in
theorem wagtailref02_Covers.calls (k : Nat) (A0 : Option Addr) (c0 : Nat) (l0 : List Int) (A1 : Option Addr) (c1 : Nat) (l1 : List Int) (r : Bool) (w : World) (hr0 : Kd.C (Kd.int .u8) w A0 l0.length l0) (hc0 : l0.length ≤ c0) (hr1 : Kd.C (Kd.int .u8) w A1 l1.length l1) (hc1 : l1.length ≤ c1) (h : wagtailref02_Covers.f k l0 l1 = some r) :
    Calls Try.prog 22 #[.slice A0 l0.length c0, .slice A1 l1.length c1] w fun e w' => e = .returned (.bool r) ∧ Drawn0 w w' := by
  have HR0 := Aside0.mk hr0
  have HC0 := Aside0.mk hc0
  clear hr0 hc0
  have HR1 := Aside0.mk hr1
  have HC1 := Aside0.mk hc1
  clear hr1 hc1
  have H : (if (l0.length : Int) = (l1.length : Int) then (wagtailref02_Covers.l0 k l0 l1 0) else (some false)) = some r := h
  clear h
  by_cases c3 : (l0.length : Int) = (l1.length : Int)
  · rw [if_pos c3] at H
    have c3b0 : ((l0.length : Int) == (l1.length : Int)) = true := beq_iff_eq.mpr c3
    have c3b1 : ((l0.length : Int) != (l1.length : Int)) = false := bne_eq_false_iff_eq.mpr c3
    have c3b2 : (l0.length == l1.length) = true := by first | simpa using c3 | (simp at c3 ⊢; omega)
    clear c3
    have H' := Aside0.mk H
    clear H
    go_enter Try.func22, Try.ntmps22
    go_wp2
    go_loopg [5] k (fun kq v5 w' => ∃ (x5_1 : Int), v5 = .int .i64 x5_1 ∧ Aside0 (wagtailref02_Covers.l0 kq l0 l1 x5_1 = some r) ∧ Aside0 (kq ≤ k) ∧ Drawn0 w w')
    case atStart => exact ⟨(0), (by first | rfl | (simp; done) | (simp [*]; done)), H', ⟨Nat.le_refl _⟩, by repeat (first | exact Drawn0.refl _ | apply Drawn0.step)⟩
    case round =>
      clear H'
      try clear c1
      try clear c2
      try clear p2
      try clear c3
      try clear c3b0
      try clear c3b1
      try clear c3b2
      obtain ⟨x5_1, rfl, HA, HK1, ⟨m1, rfl⟩⟩ := hrel
      cases gk with
      | zero => exact absurd HA.out (by simp [wagtailref02_Covers.l0])
      | succ k1 =>
        have H := HA.out
        clear HA
        simp only [wagtailref02_Covers.l0] at H
        by_cases c4 : x5_1 < (wrap64 (8 * (l0.length : Int)))
        · rw [if_pos c4] at H
          have c4b0 : decide (x5_1 < (wrap64 (8 * (l0.length : Int)))) = true := decide_eq_true c4
          clear c4
          replace H := Option.bind_eq_some_iff.mp H
          obtain ⟨t135, A50, H⟩ := H
          replace H : ((wagtailref02_Bit.f k1 l1 x5_1).bind fun t136 => (if t135 < t136 then (some false) else (wagtailref02_Covers.l0 k1 l0 l1 (wrap64 (x5_1 + 1))))) = some r := H
          have A5 := Aside0.mk A50
          clear A50
          replace H := Option.bind_eq_some_iff.mp H
          obtain ⟨t136, A60, H⟩ := H
          replace H : (if t135 < t136 then (some false) else (wagtailref02_Covers.l0 k1 l0 l1 (wrap64 (x5_1 + 1)))) = some r := H
          have A6 := Aside0.mk A60
          clear A60
          by_cases c7 : t135 < t136
          · rw [if_pos c7] at H
            have c7b0 : decide (t135 < t136) = true := decide_eq_true c7
            clear c7
            obtain rfl := Option.some.inj H
            go_wp2_with (first | ((with_reducible refine gate_callee (f := 72) rfl ?_); refine goesL_ (some 20) rfl rfl Try.func72 (by kernel_rfl) rfl #[.slice A0 l0.length c0, .int .i64 x5_1] rfl (by (try simp only [List.map_toArray, List.map_cons, List.map_nil]); first | done | rfl | (simp only [List.length_drop, List.length_take]; rfl)) ?_; (with_reducible refine (wagtailref02_Bit.calls k1 _ _ l0 x5_1 t135 _ ?side1 ?side2 A5.out).mono ?_); (case side1 => repeat (first | exact HR0.out | (with_reducible refine Kd.C_alloc ?_ _) | (with_reducible refine Kd.C_drewN ?_ _) | (with_reducible refine Kd.C_drew ?_))); (case side2 => exact HC0.out); rintro e w' ⟨rfl, ⟨nd, rfl⟩⟩; refine ⟨_, rfl, ?_⟩) | ((with_reducible refine gate_callee (f := 72) rfl ?_); refine goesL_ (some 23) rfl rfl Try.func72 (by kernel_rfl) rfl #[.slice A1 l1.length c1, .int .i64 x5_1] rfl (by (try simp only [List.map_toArray, List.map_cons, List.map_nil]); first | done | rfl | (simp only [List.length_drop, List.length_take]; rfl)) ?_; (with_reducible refine (wagtailref02_Bit.calls k1 _ _ l1 x5_1 t136 _ ?side1 ?side2 A6.out).mono ?_); (case side1 => repeat (first | exact HR1.out | (with_reducible refine Kd.C_alloc ?_ _) | (with_reducible refine Kd.C_drewN ?_ _) | (with_reducible refine Kd.C_drew ?_))); (case side2 => exact HC1.out); rintro e w' ⟨rfl, ⟨nd, rfl⟩⟩; refine ⟨_, rfl, ?_⟩))
            go_ret
            exact ⟨by first | rfl | (simp; done) | (simp [*]; done), by repeat (first | exact Drawn0.refl _ | apply Drawn0.step)⟩
          · rw [if_neg c7] at H
            have c7b0 : decide (t135 < t136) = false := decide_eq_false c7
            clear c7
            have H' := Aside0.mk H
            clear H
            go_wp2_with (first | ((with_reducible refine gate_callee (f := 72) rfl ?_); refine goesL_ (some 20) rfl rfl Try.func72 (by kernel_rfl) rfl #[.slice A0 l0.length c0, .int .i64 x5_1] rfl (by (try simp only [List.map_toArray, List.map_cons, List.map_nil]); first | done | rfl | (simp only [List.length_drop, List.length_take]; rfl)) ?_; (with_reducible refine (wagtailref02_Bit.calls k1 _ _ l0 x5_1 t135 _ ?side1 ?side2 A5.out).mono ?_); (case side1 => repeat (first | exact HR0.out | (with_reducible refine Kd.C_alloc ?_ _) | (with_reducible refine Kd.C_drewN ?_ _) | (with_reducible refine Kd.C_drew ?_))); (case side2 => exact HC0.out); rintro e w' ⟨rfl, ⟨nd, rfl⟩⟩; refine ⟨_, rfl, ?_⟩) | ((with_reducible refine gate_callee (f := 72) rfl ?_); refine goesL_ (some 23) rfl rfl Try.func72 (by kernel_rfl) rfl #[.slice A1 l1.length c1, .int .i64 x5_1] rfl (by (try simp only [List.map_toArray, List.map_cons, List.map_nil]); first | done | rfl | (simp only [List.length_drop, List.length_take]; rfl)) ?_; (with_reducible refine (wagtailref02_Bit.calls k1 _ _ l1 x5_1 t136 _ ?side1 ?side2 A6.out).mono ?_); (case side1 => repeat (first | exact HR1.out | (with_reducible refine Kd.C_alloc ?_ _) | (with_reducible refine Kd.C_drewN ?_ _) | (with_reducible refine Kd.C_drew ?_))); (case side2 => exact HC1.out); rintro e w' ⟨rfl, ⟨nd, rfl⟩⟩; refine ⟨_, rfl, ?_⟩))
            go_roundg k1
            case measure => have := HK1.out; omega
            case rel => exact ⟨(wrap64 (x5_1 + 1)), (by first | rfl | (simp; done) | (simp [*]; done)), H', ⟨by have := HK1.out; omega⟩, by repeat (first | exact Drawn0.refl _ | apply Drawn0.step)⟩
        · rw [if_neg c4] at H
          have c4b0 : decide (x5_1 < (wrap64 (8 * (l0.length : Int)))) = false := decide_eq_false c4
          clear c4
          obtain rfl := Option.some.inj H
          go_wp2
          go_ret
          exact ⟨by first | rfl | (simp; done) | (simp [*]; done), by repeat (first | exact Drawn0.refl _ | apply Drawn0.step)⟩
  · rw [if_neg c3] at H
    have c3b0 : ((l0.length : Int) == (l1.length : Int)) = false := beq_eq_false_iff_ne.mpr c3
    have c3b1 : ((l0.length : Int) != (l1.length : Int)) = true := bne_iff_ne.mpr c3
    have c3b2 : (l0.length == l1.length) = false := by first | simpa using c3 | (simp at c3 ⊢; omega)
    obtain rfl := Option.some.inj H
    go_enter Try.func22, Try.ntmps22
    go_wp2
    go_ret
    exact ⟨by first | rfl | (simp; done) | (simp [*]; done), by repeat (first | exact Drawn0.refl _ | apply Drawn0.step)⟩
def wagtailref02_Ones.l0 : Nat → Int → List Int → Int → Option (List Int)
  | 0, _, _, _ => none
  | k + 1, x0, x3, x4 => if x4 < x0 then (if x3.length < 140737488355328 then (wagtailref02_Ones.l0 k x0 (x3 ++ [255]) (wrap64 (x4 + 1))) else (none)) else (some x3)
def wagtailref02_Ones.f (k : Nat) (a0 : Int) : Option (List Int) := wagtailref02_Ones.l0 k a0 ([] : List Int) 0
theorem wagtailref02_Ones.mono_l : ∀ k, (∀ y0 y1 y2, LeO (wagtailref02_Ones.l0 k y0 y1 y2) (wagtailref02_Ones.l0 (k + 1) y0 y1 y2))
  | 0 => fun _ _ _ r h => by simp [wagtailref02_Ones.l0] at h
  | k + 1 => by
    have ih0 := wagtailref02_Ones.mono_l k
    · intro y0 y1 y2
      unfold wagtailref02_Ones.l0
      repeat' first
      | (with_reducible exact ih0 _ _ _)
      | (with_reducible exact LeO.refl _)
      | (with_reducible exact LeO.none _)
      | (with_reducible refine LeO.ite ?_ ?_)
      | (with_reducible refine LeO.bind ?_ (fun _ => ?_))
      | exact ih0 _ _ _
      | exact LeO.none _
      | refine LeO.ite ?_ ?_
      | refine LeO.bind ?_ (fun _ => ?_)
theorem wagtailref02_Ones.mono : ∀ a0 k, LeO (wagtailref02_Ones.f k a0) (wagtailref02_Ones.f (k + 1) a0) := by
  intro a0 k
  have ih0 := wagtailref02_Ones.mono_l k
  unfold wagtailref02_Ones.f
  repeat' first
      | (with_reducible exact ih0 _ _ _)
      | (with_reducible exact LeO.refl _)
      | (with_reducible exact LeO.none _)
      | (with_reducible refine LeO.ite ?_ ?_)
      | (with_reducible refine LeO.bind ?_ (fun _ => ?_))
      | exact ih0 _ _ _
      | exact LeO.none _
      | refine LeO.ite ?_ ?_
      | refine LeO.bind ?_ (fun _ => ?_)
set_option maxHeartbeats 8000000 in
set_option maxRecDepth 100000 in
theorem wagtailref02_Ones.calls (k : Nat) (a0 : Int) (r : List Int) (w : World) (h : wagtailref02_Ones.f k a0 = some r) :
    Calls Try.prog 73 #[.int .i64 a0] w fun e w' => ∃ v0_ : Value, e = .returned (v0_) ∧ Kd.R (Kd.int .u8) 5 w' w.heap.size (fun _ => True) v0_ r ∧ Below w.heap.size w w' := by
  have HB := Aside0.mk (Below.refl w.heap.size w)
  have H : (wagtailref02_Ones.l0 k a0 ([] : List Int) 0) = some r := h
  clear h
  have H' := Aside0.mk H
  clear H
  go_enter Try.func73, Try.ntmps73
  go_wp2
  go_loopg [3, 4] k (fun kq v3 v4 w' => ∃ (x3_1 : List Int) (x4_1 : Int), v4 = .int .i64 x4_1 ∧ Aside0 (wagtailref02_Ones.l0 kq a0 x3_1 x4_1 = some r) ∧ Aside0 (kq ≤ k) ∧ Aside0 (Kd.R (Kd.int .u8) 5 w' w.heap.size (fun _ => True) v3 x3_1) ∧ Aside0 (Below w.heap.size w w'))
  case atStart => exact ⟨(([] : List Int)), (0), (by first | rfl | (simp; done) | (simp [*]; done)), H', ⟨Nat.le_refl _⟩, ⟨by first | exact Kd.R_nil _ _ _ _ _ | exact Kd.N_nil _ _ _ _ _ | exact Kd.V_nil _ _ _ _ _ | exact Kd.Q_nil _ _ _ _ _ | exact Kd.S_nil _ _ _ _ _⟩, ⟨by repeat (first | (with_reducible first | exact HB.out | apply below_alloc | apply pw_below_drewN | apply below_drew1) | exact HB.out)⟩⟩
  case round =>
    clear H'
    obtain ⟨x3_1, x4_1, rfl, HA, HK1, HO_3, HB⟩ := hrel
    cases gk with
    | zero => exact absurd HA.out (by simp [wagtailref02_Ones.l0])
    | succ k1 =>
      have H := HA.out
      clear HA
      simp only [wagtailref02_Ones.l0] at H
      by_cases c2 : x4_1 < a0
      · rw [if_pos c2] at H
        have c2b0 : decide (x4_1 < a0) = true := decide_eq_true c2
        clear c2
        by_cases c3 : x3_1.length < 140737488355328
        · rw [if_pos c3] at H
          have LMc3 := Aside0.mk c3
          clear c3
          obtain ⟨y141, hy141⟩ : ∃ y_ : List Int, y_ = (x3_1 ++ [255]) := ⟨_, rfl⟩
          replace H : (wagtailref02_Ones.l0 k1 a0 y141 (wrap64 (x4_1 + 1))) = some r := by first | (rw [hy141]; with_reducible exact H) | (have H2_ := (Option.bind_some _ _).symm.trans H; rw [hy141]; with_reducible exact H2_) | (have H2_ := (Option.bind_some _ _).symm.trans H; with_reducible exact H2_) | with_reducible exact H | (rw [hy141]; exact H) | exact H
          have Ny141 := Aside0.mk hy141
          clear hy141
          have H' := Aside0.mk H
          clear H
          go_wp2_with (first | ((with_reducible refine gate_builtin (b := .append) (xs := #[.tmp 10, .tmp 11]) rfl ?_); at_builtin; refine Kd.R_append (Kd.int .u8) (w0 := w) w.heap.size rfl (.tmp 10) (.tmp 11) 38 5 (.int .u8 0) 1 rfl Try.underlying38 info5 rfl (by decide) (by omega) u3 x3_1 255 [.int .u8 255] (fun _ => True) (fun _ => False) rfl rfl ?aP (fun _ hk => hk.elim) ?aF ?aO ?aB ?aS ?aL ?_; (case aP => exact rfl); (case aB => exact (by repeat (first | (with_reducible first | exact HB.out | apply below_alloc | apply pw_below_drewN | apply below_drew1) | exact HB.out))); (case aF => exact (fun _ _ => trivial)); (case aO => exact (by (with_reducible repeat (first | apply Kd.R_alloc | apply Kd.R_drewN | apply Kd.R_drew)); exact HO_3.out)); (case aS => exact (below_size (by repeat (first | (with_reducible first | exact HB.out | apply below_alloc | apply pw_below_drewN | apply below_drew1) | exact HB.out)))); (case aL => have := LMc3.out; omega); intro v142 w4 ho hb hg hat; rw [← Ny141.out] at ho; have n0_ := Aside0.mk (hb); have n1_ := Aside0.mk (ho); clear HB; clear HO_3; have HB := n0_; have HO143 := n1_; clear n0_ n1_; clear ho hb hg hat))
          go_roundg k1
          case measure => have := HK1.out; omega
          case rel => exact ⟨(y141), (wrap64 (x4_1 + 1)), (by first | rfl | (simp; done) | (simp [*]; done)), H', ⟨by have := HK1.out; omega⟩, ⟨by (with_reducible repeat (first | apply Kd.R_alloc | apply Kd.R_drewN | apply Kd.R_drew)); exact HO143.out⟩, ⟨by repeat (first | (with_reducible first | exact HB.out | apply below_alloc | apply pw_below_drewN | apply below_drew1) | exact HB.out)⟩⟩
        · rw [if_neg c3] at H
          exact absurd H (by simp)
      · rw [if_neg c2] at H
        have c2b0 : decide (x4_1 < a0) = false := decide_eq_false c2
        clear c2
        obtain rfl := Option.some.inj H
        go_wp2
        go_ret
        exact ⟨_, by first | rfl | (simp [errW_none, errW_some] <;> rfl) | (simp [*, errW_none, errW_some] <;> rfl), by (with_reducible repeat (first | apply Kd.R_alloc | apply Kd.R_drewN | apply Kd.R_drew)); exact HO_3.out, by repeat (first | (with_reducible first | exact HB.out | apply below_alloc | apply pw_below_drewN | apply below_drew1) | exact HB.out)⟩
def wagtailref13_Has.l0 : Nat → List Int → Int → Int → Option (Bool)
  | 0, _, _, _ => none
  | k + 1, x0, x1, x5 => if x5 < (x0.length : Int) then (if 0 ≤ x5 then (if (rd x0 x5) = x1 then (some true) else (wagtailref13_Has.l0 k x0 x1 (wrap64 (x5 + 1)))) else (none)) else (some false)
def wagtailref13_Has.f (k : Nat) (l0 : List Int) (a1 : Int) : Option (Bool) := wagtailref13_Has.l0 k l0 a1 0
theorem wagtailref13_Has.mono_l : ∀ k, (∀ y0 y1 y2, LeO (wagtailref13_Has.l0 k y0 y1 y2) (wagtailref13_Has.l0 (k + 1) y0 y1 y2))
  | 0 => fun _ _ _ r h => by simp [wagtailref13_Has.l0] at h
  | k + 1 => by
    have ih0 := wagtailref13_Has.mono_l k
    · intro y0 y1 y2
      unfold wagtailref13_Has.l0
      repeat' first
      | (with_reducible exact ih0 _ _ _)
      | (with_reducible exact LeO.refl _)
      | (with_reducible exact LeO.none _)
      | (with_reducible refine LeO.ite ?_ ?_)
      | (with_reducible refine LeO.bind ?_ (fun _ => ?_))
      | exact ih0 _ _ _
      | exact LeO.none _
      | refine LeO.ite ?_ ?_
      | refine LeO.bind ?_ (fun _ => ?_)
theorem wagtailref13_Has.mono : ∀ a0 a1 k, LeO (wagtailref13_Has.f k a0 a1) (wagtailref13_Has.f (k + 1) a0 a1) := by
  intro a0 a1 k
  have ih0 := wagtailref13_Has.mono_l k
  unfold wagtailref13_Has.f
  repeat' first
      | (with_reducible exact ih0 _ _ _)
      | (with_reducible exact LeO.refl _)
      | (with_reducible exact LeO.none _)
      | (with_reducible refine LeO.ite ?_ ?_)
      | (with_reducible refine LeO.bind ?_ (fun _ => ?_))
      | exact ih0 _ _ _
      | exact LeO.none _
      | refine LeO.ite ?_ ?_
      | refine LeO.bind ?_ (fun _ => ?_)
set_option maxHeartbeats 8000000 in
set_option maxRecDepth 100000 in
theorem wagtailref13_Has.calls (k : Nat) (A0 : Option Addr) (c0 : Nat) (l0 : List Int) (a1 : Int) (r : Bool) (w : World) (hr0 : Kd.C (Kd.int .i64) w A0 l0.length l0) (hc0 : l0.length ≤ c0) (h : wagtailref13_Has.f k l0 a1 = some r) :
    Calls Try.prog 44 #[.slice A0 l0.length c0, .int .i64 a1] w fun e w' => e = .returned (.bool r) ∧ Drawn0 w w' := by
  have HR0 := Aside0.mk hr0
  have HC0 := Aside0.mk hc0
  clear hr0 hc0
  have H : (wagtailref13_Has.l0 k l0 a1 0) = some r := h
  clear h
  have H' := Aside0.mk H
  clear H
  go_enter Try.func44, Try.ntmps44
  go_wp2
  go_loopg [5] k (fun kq v5 w' => ∃ (x5_1 : Int), v5 = .int .i64 x5_1 ∧ Aside0 (wagtailref13_Has.l0 kq l0 a1 x5_1 = some r) ∧ Aside0 (kq ≤ k) ∧ Drawn0 w w')
  case atStart => exact ⟨(0), (by first | rfl | (simp; done) | (simp [*]; done)), H', ⟨Nat.le_refl _⟩, by repeat (first | exact Drawn0.refl _ | apply Drawn0.step)⟩
  case round =>
    clear H'
    try clear p2
    obtain ⟨x5_1, rfl, HA, HK1, ⟨m1, rfl⟩⟩ := hrel
    cases gk with
    | zero => exact absurd HA.out (by simp [wagtailref13_Has.l0])
    | succ k1 =>
      have H := HA.out
      clear HA
      simp only [wagtailref13_Has.l0] at H
      by_cases c3 : x5_1 < (l0.length : Int)
      · rw [if_pos c3] at H
        have c3b0 : decide (x5_1 < (l0.length : Int)) = true := decide_eq_true c3
        clear c3
        by_cases c4 : 0 ≤ x5_1
        · rw [if_pos c4] at H
          have c4b0 : decide (0 ≤ x5_1) = true := decide_eq_true c4
          clear c4
          by_cases c5 : (rd l0 x5_1) = a1
          · rw [if_pos c5] at H
            have c5b0 : ((rd l0 x5_1) == a1) = true := beq_iff_eq.mpr c5
            have c5b1 : ((rd l0 x5_1) != a1) = false := bne_eq_false_iff_eq.mpr c5
            clear c5
            obtain rfl := Option.some.inj H
            have p158 : 0 ≤ (x5_1 : Int) := of_decide_eq_true (by first | (with_reducible assumption) | assumption)
            have q158 : x5_1 < (l0.length : Int) := of_decide_eq_true (by first | (with_reducible assumption) | assumption)
            obtain ⟨ad158, e158, hx158_0⟩ := Kd.at_int HR0.out x5_1 p158 q158
            cases e158
            replace p158 := eq_true p158
            replace q158 := eq_true q158
            go_wp2
            go_ret
            exact ⟨by first | rfl | (simp; done) | (simp [*]; done), by repeat (first | exact Drawn0.refl _ | apply Drawn0.step)⟩
          · rw [if_neg c5] at H
            have c5b0 : ((rd l0 x5_1) == a1) = false := beq_eq_false_iff_ne.mpr c5
            have c5b1 : ((rd l0 x5_1) != a1) = true := bne_iff_ne.mpr c5
            have H' := Aside0.mk H
            clear H
            have p158 : 0 ≤ (x5_1 : Int) := of_decide_eq_true (by first | (with_reducible assumption) | assumption)
            have q158 : x5_1 < (l0.length : Int) := of_decide_eq_true (by first | (with_reducible assumption) | assumption)
            obtain ⟨ad158, e158, hx158_0⟩ := Kd.at_int HR0.out x5_1 p158 q158
            cases e158
            replace p158 := eq_true p158
            replace q158 := eq_true q158
            go_wp2
            go_roundg k1
            case measure => have := HK1.out; omega
            case rel => exact ⟨(wrap64 (x5_1 + 1)), (by first | rfl | (simp; done) | (simp [*]; done)), H', ⟨by have := HK1.out; omega⟩, by repeat (first | exact Drawn0.refl _ | apply Drawn0.step)⟩
        · rw [if_neg c4] at H
          exact absurd H (by simp)
      · rw [if_neg c3] at H
        have c3b0 : decide (x5_1 < (l0.length : Int)) = false := decide_eq_false c3
        clear c3
        obtain rfl := Option.some.inj H
        go_wp2
        go_ret
        exact ⟨by first | rfl | (simp; done) | (simp [*]; done), by repeat (first | exact Drawn0.refl _ | apply Drawn0.step)⟩
end Go.Proofs.Ytnchdmidaigheaa.Hp
namespace Go.Proofs.Ytnchdmidaigheaa.ND
set_option linter.unusedVariables false
set_option linter.unusedSimpArgs false
open Go.RowKit Go.Proofs.Ytnchdmidaigheaa.Hp Go.Proofs.YtnchdmidaigheaaW.PrintWords Go.Proofs.YtnchdmidaigheaaW.PrintLast Go.Proofs.YtnchdmidaigheaaW.PrintMore
theorem has_ev (l : List Int) (x : Int) (hl : l.length ≤ 100000) : ∀ (d i : Nat), i + d = l.length → Ev (fun k => wagtailref13_Has.l0 k l x (i : Int)) ((l.drop i).any fun y => y == x)
  | 0, i, hd => by
    refine Ev.step (f := fun k => some false) (fun k => ?_) ?_
    · simp only [wagtailref13_Has.l0]
      rw [if_neg (by omega)]
    · rw [List.drop_of_length_le (by omega)]
      exact Ev.now _
  | d + 1, i, hd => by
    have hi : i < l.length := by omega
    have e2 : wrap64 ((i : Int) + 1) = ((i + 1 : Nat) : Int) := by unfold wrap64; omega
    have hr : rd l (i : Int) = l[i] := by unfold rd; rw [Int.toNat_natCast, List.getD_eq_getElem?_getD, List.getElem?_eq_getElem hi]; rfl
    refine Ev.step (f := fun k => if l[i] = x then some true else wagtailref13_Has.l0 k l x ((i + 1 : Nat) : Int)) (fun k => ?_) ?_
    · simp only [wagtailref13_Has.l0]
      rw [if_pos (by omega), if_pos (by omega), hr, e2]
    · rw [List.drop_eq_getElem_cons hi, List.any_cons]
      by_cases h : l[i] = x
      · refine Ev.congr (fun k => if_pos h) ?_
        rw [show (l[i] == x) = true by simpa using h, Bool.true_or]
        exact Ev.now _
      · refine Ev.congr (fun k => if_neg h) ?_
        rw [show (l[i] == x) = false by simpa using h, Bool.false_or]
        exact has_ev l x hl d (i + 1) (by omega)
theorem has_calls {W : World} {A : Option Addr} {c : Nat} {l : List Int} (x : Int) (hC : Kd.C (Kd.int .i64) W A l.length l) (hc : l.length ≤ c) (hl : l.length ≤ 100000) :
    Calls Try.prog 44 #[.slice A l.length c, .int .i64 x] W fun e w' => e = .returned (.bool (l.any fun y => y == x)) ∧ Below W.heap.size W w' := by
  obtain ⟨K, hK⟩ := has_ev l x hl l.length 0 (by omega)
  refine (wagtailref13_Has.calls K A c l x _ W hC hc (hK K (Nat.le_refl _))).mono ?_
  rintro e w' ⟨rfl, ⟨n, rfl⟩⟩
  exact ⟨rfl, pw_below_drewN (Below.refl _ _) n⟩
def here1.T1 : Bool × List (List Nat × List Nat) := (true, [([], []), ([0], [0]), ([1], [1]), ([2], [2]), ([3], [3]), ([4, 3], [3, 4]), ([3], [3]), ([6, 3], [3, 6]), ([7, 3], [3, 7]), ([8, 3], [3, 8]), ([9, 3], [3, 9]), ([5, 10, 3], [3, 5, 10]), ([3, 11], [3, 11]), ([12, 3], [12]), ([13], [13]), ([14, 13], [13, 14]), ([15, 13], [13, 15]), ([13, 16], [13, 16]), ([17, 13], [17]), ([18], [18]), ([19, 18], [18, 19]), ([18], [18]), ([21, 18], [18, 21]), ([22, 18], [18, 22]), ([23, 18], [18, 23]), ([24, 18], [18, 24]), ([20, 25, 18], [18, 20, 25]), ([18, 26], [18, 26]), ([27, 18, 0, 1, 2, 3, 4, 5, 6, 7, 8, 9, 10, 11, 12, 13, 14, 15, 16, 17, 18, 19, 20, 21, 22, 23, 24, 25, 26, 27], [27])])
def here1.B1 : List Nat := [0, 1, 3, 7, 15, 31, 15, 79, 207, 463, 975, 2047, 4095, 8191, 16383, 32767, 65535, 131071, 262143, 524287, 1048575, 524287, 2621439, 6815743, 15204351, 31981567, 67108863, 134217727, 268435455]
theorem here1.tab1 : rtab .any (opsOf Try.f74 1) = here1.T1 := by kernel_rfl
theorem here1.bits1 : waitsOk here1.T1.2 here1.B1 = true := by kernel_rfl
set_option maxHeartbeats 1000000 in
set_option maxRecDepth 100000 in
theorem xend_calls {W : World} {ok : Nat → Prop} {L : XLay} {D : Dv} (h : XV W ok L D) (hd : D.down = false) (k : Int) (hk : k = 0 ∨ k = 1 ∨ k = 2) :
    Calls Try.prog 77 #[.pointer (some ⟨L.g, 0, none⟩), .int .i64 k] W fun e w' => e = .returned (.int .i64 (ended k)) ∧ XV w' ok L { D with down := k == 2 } ∧ Turn W w' L.S := by
  have HS : Aside0 (D = { D with down := false }) := ⟨by rw [← hd]⟩
  rcases hk with rfl | rfl | rfl
  · have H := Aside0.mk h
    have HT := Aside0.mk (Turn.refl W L.S)
    clear h hd
    go_enter Try.func77, Try.ntmps77
    go_wp2_with fail
    go_ret
    exact ⟨rfl, HS.out ▸ H.out, HT.out⟩
  · have H := Aside0.mk h
    have HT := Aside0.mk (Turn.refl W L.S)
    clear h hd
    go_enter Try.func77, Try.ntmps77
    go_wp2_with fail
    go_ret
    exact ⟨rfl, HS.out ▸ H.out, HT.out⟩
  · have HD := Aside0.mk (h.set_down true)
    have HT := Aside0.mk ((Turn.refl W L.S).setCell (p := ⟨L.g, 9, none⟩) (.inl (.inl rfl)) (.bool true))
    have c9 := (xtop_cells h).2.2.2.2.2.2.2.2.2
    have f9 := blk_frozen h.top 9
    clear h hd
    go_enter Try.func77, Try.ntmps77
    go_wp2_with fail
    go_ret
    exact ⟨rfl, HD.out, HT.out⟩
set_option maxHeartbeats 1000000 in
set_option maxRecDepth 100000 in
theorem xhere_calls {W : World} {ok : Nat → Prop} {L : XLay} {D : Dv} (h : XV W ok L D) (bk pg : Int) :
    Calls Try.prog 74 #[.pointer (some ⟨L.g, 0, none⟩), .agg #[.int .i64 bk, .int .i64 pg]] W fun e w' => e = .returned (.bool (D.here bk pg)) ∧ Below W.heap.size W w' := by
  have hz4 := heap_alloc_new W (.cells #[.int .i64 bk, .int .i64 pg] 37)
  have hb4 := below_alloc (Below.refl W.heap.size W) (.cells #[.int .i64 bk, .int .i64 pg] 37)
  have H2 := Aside0.mk (h.below hb4)
  obtain ⟨g4, hg4⟩ : ∃ g, g = W.heap.size := ⟨_, rfl⟩
  clear h
  go_enter Try.func74, Try.ntmps74
  go_upto_region 1 with fail
  generalize (W.alloc (.cells #[.int .i64 bk, .int .i64 pg] 37)) = W2 at hz4 hb4 H2 ⊢
  rw [← hg4] at hz4 ⊢
  have HB2 := Aside0.mk hb4
  have HZ4 := Aside0.mk hz4
  have B0 := Aside0.mk (below_drew1 (Below.refl W2.heap.size W2))
  clear hg4 hz4 hb4
  cases h1 : decide (bk ≥ 0) with
  | false =>
    have T1 := Aside0.mk h1
    clear h1
    refine start_ (n := 29) (S := fun w' => True) (ds := []) #[false, false, false, false, false, false, false, false, false, false, false, false, false, false, false, false, false, false, false, false, false, false, false, false, false, false, false, false, false] (by kernel_rfl) rfl rfl trivial (fun hHeld => ?_)
    refine with_tabW here1.tab1 here1.bits1 (fun HT_ HW_ => ?_)
    generalize W2.drew = wq at B0 hHeld ⊢
    refine inv_at [0, 1, 2, 3, 4, 5, 6, 7, 8, 9, 10, 11, 12, 13, 14, 15, 16, 17, 18, 19, 20, 21, 22, 23, 24, 25, 26, 27, 28] (fun a0_ b a w' => a = putSel a0_ b [(0, 5, .pointer (some ⟨g4, 0, none⟩)), (1, 6, .int .i64 bk), (2, 7, .bool false), (3, 8, .bool false), (4, 9, undef), (5, 10, undef), (6, 11, undef), (7, 12, undef), (8, 13, undef), (9, 14, undef), (10, 15, undef), (11, 16, undef), (12, 17, .bool false), (13, 18, .bool false), (14, 19, undef), (15, 20, undef), (16, 21, undef), (17, 22, .bool false), (18, 23, .bool false), (19, 24, undef), (20, 25, undef), (21, 26, undef), (22, 27, undef), (23, 28, undef), (24, 29, undef), (25, 30, undef), (26, 31, undef), (27, 32, .bool false), (28, 4, .bool false)] ∧ (Below W2.heap.size W2 w')) HT_.out HW_.out (by kernel_rfl) (by kernel_rfl) ?_ ?_ ?_
    · exact ⟨by simp only [putSel, Bool.false_eq_true, if_false], B0.out⟩
    · skip
      clear B0
      refine steps_cons ?_ ?_
      · rintro b a w' ⟨ha, Q_B0⟩ hb_ hon hoff
        refine ⟨_, rfl, fun K hK => ?_⟩
        have e3 : a.tmps[3]? = some (.pointer (some ⟨g4, 0, none⟩)) := by rw [ha]; exact (putSel_off rfl).trans rfl
        replace ha := Aside0.mk ha
        have B0 := Aside0.mk Q_B0
        refine value_ (w1 := w') (v := .pointer (some ⟨g4, 0, none⟩)) (by rfl) rfl ?_ ?_
        · go_simp
          (try simp only [i64_w])
          try rfl
        refine hK.out _ _ ⟨(by rw [ha.out]; exact putSel_upk 0 hb_ rfl rfl rfl), Q_B0⟩
      refine steps_cons ?_ ?_
      · rintro b a w' ⟨ha, Q_B0⟩ hb_ hon hoff
        refine ⟨_, rfl, fun K hK => ?_⟩
        have e5 : a.tmps[5]? = some (.pointer (some ⟨g4, 0, none⟩)) := by rw [ha]; exact putSel_on (e := (0, 5, .pointer (some ⟨g4, 0, none⟩))) 0 rfl rfl (hon 0 (by kernel_rfl)) rfl
        replace ha := Aside0.mk ha
        have B0 := Aside0.mk Q_B0
        have c_ := blk_cell (blk_below HZ4.out B0.out) 0
        refine value_ (w1 := w') (v := .int .i64 bk) (by rfl) rfl ?_ ?_
        · go_simp
          (try simp only [i64_w])
          try rfl
        refine hK.out _ _ ⟨(by rw [ha.out]; exact putSel_upk 1 hb_ rfl rfl rfl), Q_B0⟩
      refine steps_cons ?_ ?_
      · rintro b a w' ⟨ha, Q_B0⟩ hb_ hon hoff
        refine ⟨_, rfl, fun K hK => ?_⟩
        have e6 : a.tmps[6]? = some (.int .i64 bk) := by rw [ha]; exact putSel_on (e := (1, 6, .int .i64 bk)) 1 rfl rfl (hon 1 (by kernel_rfl)) rfl
        replace ha := Aside0.mk ha
        have B0 := Aside0.mk Q_B0
        have q_ := T1.out
        refine value_ (w1 := w') (v := .bool false) (by rfl) rfl ?_ ?_
        · go_simp
          (try simp only [i64_w])
          try rfl
        refine hK.out _ _ ⟨(by rw [ha.out]; exact putSel_upk 2 hb_ rfl rfl rfl), Q_B0⟩
      refine steps_cons ?_ ?_
      · rintro b a w' ⟨ha, Q_B0⟩ hb_ hon hoff
        refine ⟨_, rfl, fun K hK => ?_⟩
        have e7 : a.tmps[7]? = some (.bool false) := by rw [ha]; exact putSel_on (e := (2, 7, .bool false)) 2 rfl rfl (hon 2 (by kernel_rfl)) rfl
        replace ha := Aside0.mk ha
        have B0 := Aside0.mk Q_B0
        refine value_ (w1 := w') (v := .bool false) (by rfl) rfl ?_ ?_
        · go_simp
          (try simp only [i64_w])
          try rfl
        refine hK.out _ _ ⟨(by rw [ha.out]; exact putSel_upk 3 hb_ rfl rfl rfl), Q_B0⟩
      refine steps_cons ?_ ?_
      · rintro b a w' ⟨ha, Q_B0⟩ hb_ hon hoff
        refine ⟨_, rfl, fun K hK => ?_⟩
        have e8 : a.tmps[8]? = some (.bool false) := by rw [ha]; exact putSel_on (e := (3, 8, .bool false)) 3 rfl rfl (hon 3 (by kernel_rfl)) rfl
        replace ha := Aside0.mk ha
        have B0 := Aside0.mk Q_B0
        refine off_ (wanted_off rfl rfl rfl (e8.trans (by first | rfl | (simp [*]; done)))) ?_
        refine hK.out _ _ ⟨(by rw [ha.out]; exact putSel_upk 4 hb_ rfl rfl rfl), Q_B0⟩
      refine steps_cons ?_ ?_
      · rintro b a w' ⟨ha, Q_B0⟩ hb_ hon hoff
        refine ⟨_, rfl, fun K hK => ?_⟩
        have e8 : a.tmps[8]? = some (.bool false) := by rw [ha]; exact putSel_on (e := (3, 8, .bool false)) 3 rfl rfl (hon 3 (by kernel_rfl)) rfl
        replace ha := Aside0.mk ha
        have B0 := Aside0.mk Q_B0
        refine off_ (wanted_off rfl rfl rfl (e8.trans (by first | rfl | (simp [*]; done)))) ?_
        refine hK.out _ _ ⟨(by rw [ha.out]; exact putSel_upk 5 hb_ rfl rfl rfl), Q_B0⟩
      refine steps_cons ?_ ?_
      · rintro b a w' ⟨ha, Q_B0⟩ hb_ hon hoff
        refine ⟨_, rfl, fun K hK => ?_⟩
        have e8 : a.tmps[8]? = some (.bool false) := by rw [ha]; exact putSel_on (e := (3, 8, .bool false)) 3 rfl rfl (hon 3 (by kernel_rfl)) rfl
        replace ha := Aside0.mk ha
        have B0 := Aside0.mk Q_B0
        refine off_ (wanted_off rfl rfl rfl (e8.trans (by first | rfl | (simp [*]; done)))) ?_
        refine hK.out _ _ ⟨(by rw [ha.out]; exact putSel_upk 6 hb_ rfl rfl rfl), Q_B0⟩
      refine steps_cons ?_ ?_
      · rintro b a w' ⟨ha, Q_B0⟩ hb_ hon hoff
        refine ⟨_, rfl, fun K hK => ?_⟩
        have e8 : a.tmps[8]? = some (.bool false) := by rw [ha]; exact putSel_on (e := (3, 8, .bool false)) 3 rfl rfl (hon 3 (by kernel_rfl)) rfl
        replace ha := Aside0.mk ha
        have B0 := Aside0.mk Q_B0
        refine off_ (wanted_off rfl rfl rfl (e8.trans (by first | rfl | (simp [*]; done)))) ?_
        refine hK.out _ _ ⟨(by rw [ha.out]; exact putSel_upk 7 hb_ rfl rfl rfl), Q_B0⟩
      refine steps_cons ?_ ?_
      · rintro b a w' ⟨ha, Q_B0⟩ hb_ hon hoff
        refine ⟨_, rfl, fun K hK => ?_⟩
        have e8 : a.tmps[8]? = some (.bool false) := by rw [ha]; exact putSel_on (e := (3, 8, .bool false)) 3 rfl rfl (hon 3 (by kernel_rfl)) rfl
        replace ha := Aside0.mk ha
        have B0 := Aside0.mk Q_B0
        refine off_ (wanted_off rfl rfl rfl (e8.trans (by first | rfl | (simp [*]; done)))) ?_
        refine hK.out _ _ ⟨(by rw [ha.out]; exact putSel_upk 8 hb_ rfl rfl rfl), Q_B0⟩
      refine steps_cons ?_ ?_
      · rintro b a w' ⟨ha, Q_B0⟩ hb_ hon hoff
        refine ⟨_, rfl, fun K hK => ?_⟩
        have e8 : a.tmps[8]? = some (.bool false) := by rw [ha]; exact putSel_on (e := (3, 8, .bool false)) 3 rfl rfl (hon 3 (by kernel_rfl)) rfl
        replace ha := Aside0.mk ha
        have B0 := Aside0.mk Q_B0
        refine off_ (wanted_off rfl rfl rfl (e8.trans (by first | rfl | (simp [*]; done)))) ?_
        refine hK.out _ _ ⟨(by rw [ha.out]; exact putSel_upk 9 hb_ rfl rfl rfl), Q_B0⟩
      refine steps_cons ?_ ?_
      · rintro b a w' ⟨ha, Q_B0⟩ hb_ hon hoff
        refine ⟨_, rfl, fun K hK => ?_⟩
        have e8 : a.tmps[8]? = some (.bool false) := by rw [ha]; exact putSel_on (e := (3, 8, .bool false)) 3 rfl rfl (hon 3 (by kernel_rfl)) rfl
        replace ha := Aside0.mk ha
        have B0 := Aside0.mk Q_B0
        refine off_ (wanted_off rfl rfl rfl (e8.trans (by first | rfl | (simp [*]; done)))) ?_
        refine hK.out _ _ ⟨(by rw [ha.out]; exact putSel_upk 10 hb_ rfl rfl rfl), Q_B0⟩
      refine steps_cons ?_ ?_
      · rintro b a w' ⟨ha, Q_B0⟩ hb_ hon hoff
        refine ⟨_, rfl, fun K hK => ?_⟩
        have e8 : a.tmps[8]? = some (.bool false) := by rw [ha]; exact putSel_on (e := (3, 8, .bool false)) 3 rfl rfl (hon 3 (by kernel_rfl)) rfl
        replace ha := Aside0.mk ha
        have B0 := Aside0.mk Q_B0
        refine off_ (wanted_off rfl rfl rfl (e8.trans (by first | rfl | (simp [*]; done)))) ?_
        refine hK.out _ _ ⟨(by rw [ha.out]; exact putSel_upk 11 hb_ rfl rfl rfl), Q_B0⟩
      refine steps_cons ?_ ?_
      · rintro b a w' ⟨ha, Q_B0⟩ hb_ hon hoff
        refine ⟨_, rfl, fun K hK => ?_⟩
        have e8 : a.tmps[8]? = some (.bool false) := by rw [ha]; exact putSel_on (e := (3, 8, .bool false)) 3 rfl rfl (hon 3 (by kernel_rfl)) rfl
        have e16 : a.tmps[16]? = some (undef) := by rw [ha]; exact putSel_on (e := (11, 16, undef)) 11 rfl rfl (hon 11 (by kernel_rfl)) rfl
        replace ha := Aside0.mk ha
        have B0 := Aside0.mk Q_B0
        refine value_ (w1 := w') (v := .bool false) (by rfl) rfl ?_ ?_
        · go_simp
          (try simp only [i64_w])
          try rfl
        refine hK.out _ _ ⟨(by rw [ha.out]; exact putSel_upk 12 hb_ rfl rfl rfl), Q_B0⟩
      refine steps_cons ?_ ?_
      · rintro b a w' ⟨ha, Q_B0⟩ hb_ hon hoff
        refine ⟨_, rfl, fun K hK => ?_⟩
        have e17 : a.tmps[17]? = some (.bool false) := by rw [ha]; exact putSel_on (e := (12, 17, .bool false)) 12 rfl rfl (hon 12 (by kernel_rfl)) rfl
        replace ha := Aside0.mk ha
        have B0 := Aside0.mk Q_B0
        refine value_ (w1 := w') (v := .bool false) (by rfl) rfl ?_ ?_
        · go_simp
          (try simp only [i64_w])
          try rfl
        refine hK.out _ _ ⟨(by rw [ha.out]; exact putSel_upk 13 hb_ rfl rfl rfl), Q_B0⟩
      refine steps_cons ?_ ?_
      · rintro b a w' ⟨ha, Q_B0⟩ hb_ hon hoff
        refine ⟨_, rfl, fun K hK => ?_⟩
        have e18 : a.tmps[18]? = some (.bool false) := by rw [ha]; exact putSel_on (e := (13, 18, .bool false)) 13 rfl rfl (hon 13 (by kernel_rfl)) rfl
        replace ha := Aside0.mk ha
        have B0 := Aside0.mk Q_B0
        refine off_ (wanted_off rfl rfl rfl (e18.trans (by first | rfl | (simp [*]; done)))) ?_
        refine hK.out _ _ ⟨(by rw [ha.out]; exact putSel_upk 14 hb_ rfl rfl rfl), Q_B0⟩
      refine steps_cons ?_ ?_
      · rintro b a w' ⟨ha, Q_B0⟩ hb_ hon hoff
        refine ⟨_, rfl, fun K hK => ?_⟩
        have e18 : a.tmps[18]? = some (.bool false) := by rw [ha]; exact putSel_on (e := (13, 18, .bool false)) 13 rfl rfl (hon 13 (by kernel_rfl)) rfl
        replace ha := Aside0.mk ha
        have B0 := Aside0.mk Q_B0
        refine off_ (wanted_off rfl rfl rfl (e18.trans (by first | rfl | (simp [*]; done)))) ?_
        refine hK.out _ _ ⟨(by rw [ha.out]; exact putSel_upk 15 hb_ rfl rfl rfl), Q_B0⟩
      refine steps_cons ?_ ?_
      · rintro b a w' ⟨ha, Q_B0⟩ hb_ hon hoff
        refine ⟨_, rfl, fun K hK => ?_⟩
        have e18 : a.tmps[18]? = some (.bool false) := by rw [ha]; exact putSel_on (e := (13, 18, .bool false)) 13 rfl rfl (hon 13 (by kernel_rfl)) rfl
        replace ha := Aside0.mk ha
        have B0 := Aside0.mk Q_B0
        refine off_ (wanted_off rfl rfl rfl (e18.trans (by first | rfl | (simp [*]; done)))) ?_
        refine hK.out _ _ ⟨(by rw [ha.out]; exact putSel_upk 16 hb_ rfl rfl rfl), Q_B0⟩
      refine steps_cons ?_ ?_
      · rintro b a w' ⟨ha, Q_B0⟩ hb_ hon hoff
        refine ⟨_, rfl, fun K hK => ?_⟩
        have e18 : a.tmps[18]? = some (.bool false) := by rw [ha]; exact putSel_on (e := (13, 18, .bool false)) 13 rfl rfl (hon 13 (by kernel_rfl)) rfl
        have e21 : a.tmps[21]? = some (undef) := by rw [ha]; exact putSel_on (e := (16, 21, undef)) 16 rfl rfl (hon 16 (by kernel_rfl)) rfl
        replace ha := Aside0.mk ha
        have B0 := Aside0.mk Q_B0
        refine value_ (w1 := w') (v := .bool false) (by rfl) rfl ?_ ?_
        · go_simp
          (try simp only [i64_w])
          try rfl
        refine hK.out _ _ ⟨(by rw [ha.out]; exact putSel_upk 17 hb_ rfl rfl rfl), Q_B0⟩
      refine steps_cons ?_ ?_
      · rintro b a w' ⟨ha, Q_B0⟩ hb_ hon hoff
        refine ⟨_, rfl, fun K hK => ?_⟩
        have e22 : a.tmps[22]? = some (.bool false) := by rw [ha]; exact putSel_on (e := (17, 22, .bool false)) 17 rfl rfl (hon 17 (by kernel_rfl)) rfl
        replace ha := Aside0.mk ha
        have B0 := Aside0.mk Q_B0
        refine value_ (w1 := w') (v := .bool false) (by rfl) rfl ?_ ?_
        · go_simp
          (try simp only [i64_w])
          try rfl
        refine hK.out _ _ ⟨(by rw [ha.out]; exact putSel_upk 18 hb_ rfl rfl rfl), Q_B0⟩
      refine steps_cons ?_ ?_
      · rintro b a w' ⟨ha, Q_B0⟩ hb_ hon hoff
        refine ⟨_, rfl, fun K hK => ?_⟩
        have e23 : a.tmps[23]? = some (.bool false) := by rw [ha]; exact putSel_on (e := (18, 23, .bool false)) 18 rfl rfl (hon 18 (by kernel_rfl)) rfl
        replace ha := Aside0.mk ha
        have B0 := Aside0.mk Q_B0
        refine off_ (wanted_off rfl rfl rfl (e23.trans (by first | rfl | (simp [*]; done)))) ?_
        refine hK.out _ _ ⟨(by rw [ha.out]; exact putSel_upk 19 hb_ rfl rfl rfl), Q_B0⟩
      refine steps_cons ?_ ?_
      · rintro b a w' ⟨ha, Q_B0⟩ hb_ hon hoff
        refine ⟨_, rfl, fun K hK => ?_⟩
        have e23 : a.tmps[23]? = some (.bool false) := by rw [ha]; exact putSel_on (e := (18, 23, .bool false)) 18 rfl rfl (hon 18 (by kernel_rfl)) rfl
        replace ha := Aside0.mk ha
        have B0 := Aside0.mk Q_B0
        refine off_ (wanted_off rfl rfl rfl (e23.trans (by first | rfl | (simp [*]; done)))) ?_
        refine hK.out _ _ ⟨(by rw [ha.out]; exact putSel_upk 20 hb_ rfl rfl rfl), Q_B0⟩
      refine steps_cons ?_ ?_
      · rintro b a w' ⟨ha, Q_B0⟩ hb_ hon hoff
        refine ⟨_, rfl, fun K hK => ?_⟩
        have e23 : a.tmps[23]? = some (.bool false) := by rw [ha]; exact putSel_on (e := (18, 23, .bool false)) 18 rfl rfl (hon 18 (by kernel_rfl)) rfl
        replace ha := Aside0.mk ha
        have B0 := Aside0.mk Q_B0
        refine off_ (wanted_off rfl rfl rfl (e23.trans (by first | rfl | (simp [*]; done)))) ?_
        refine hK.out _ _ ⟨(by rw [ha.out]; exact putSel_upk 21 hb_ rfl rfl rfl), Q_B0⟩
      refine steps_cons ?_ ?_
      · rintro b a w' ⟨ha, Q_B0⟩ hb_ hon hoff
        refine ⟨_, rfl, fun K hK => ?_⟩
        have e23 : a.tmps[23]? = some (.bool false) := by rw [ha]; exact putSel_on (e := (18, 23, .bool false)) 18 rfl rfl (hon 18 (by kernel_rfl)) rfl
        replace ha := Aside0.mk ha
        have B0 := Aside0.mk Q_B0
        refine off_ (wanted_off rfl rfl rfl (e23.trans (by first | rfl | (simp [*]; done)))) ?_
        refine hK.out _ _ ⟨(by rw [ha.out]; exact putSel_upk 22 hb_ rfl rfl rfl), Q_B0⟩
      refine steps_cons ?_ ?_
      · rintro b a w' ⟨ha, Q_B0⟩ hb_ hon hoff
        refine ⟨_, rfl, fun K hK => ?_⟩
        have e23 : a.tmps[23]? = some (.bool false) := by rw [ha]; exact putSel_on (e := (18, 23, .bool false)) 18 rfl rfl (hon 18 (by kernel_rfl)) rfl
        replace ha := Aside0.mk ha
        have B0 := Aside0.mk Q_B0
        refine off_ (wanted_off rfl rfl rfl (e23.trans (by first | rfl | (simp [*]; done)))) ?_
        refine hK.out _ _ ⟨(by rw [ha.out]; exact putSel_upk 23 hb_ rfl rfl rfl), Q_B0⟩
      refine steps_cons ?_ ?_
      · rintro b a w' ⟨ha, Q_B0⟩ hb_ hon hoff
        refine ⟨_, rfl, fun K hK => ?_⟩
        have e23 : a.tmps[23]? = some (.bool false) := by rw [ha]; exact putSel_on (e := (18, 23, .bool false)) 18 rfl rfl (hon 18 (by kernel_rfl)) rfl
        replace ha := Aside0.mk ha
        have B0 := Aside0.mk Q_B0
        refine off_ (wanted_off rfl rfl rfl (e23.trans (by first | rfl | (simp [*]; done)))) ?_
        refine hK.out _ _ ⟨(by rw [ha.out]; exact putSel_upk 24 hb_ rfl rfl rfl), Q_B0⟩
      refine steps_cons ?_ ?_
      · rintro b a w' ⟨ha, Q_B0⟩ hb_ hon hoff
        refine ⟨_, rfl, fun K hK => ?_⟩
        have e23 : a.tmps[23]? = some (.bool false) := by rw [ha]; exact putSel_on (e := (18, 23, .bool false)) 18 rfl rfl (hon 18 (by kernel_rfl)) rfl
        replace ha := Aside0.mk ha
        have B0 := Aside0.mk Q_B0
        refine off_ (wanted_off rfl rfl rfl (e23.trans (by first | rfl | (simp [*]; done)))) ?_
        refine hK.out _ _ ⟨(by rw [ha.out]; exact putSel_upk 25 hb_ rfl rfl rfl), Q_B0⟩
      refine steps_cons ?_ ?_
      · rintro b a w' ⟨ha, Q_B0⟩ hb_ hon hoff
        refine ⟨_, rfl, fun K hK => ?_⟩
        have e23 : a.tmps[23]? = some (.bool false) := by rw [ha]; exact putSel_on (e := (18, 23, .bool false)) 18 rfl rfl (hon 18 (by kernel_rfl)) rfl
        replace ha := Aside0.mk ha
        have B0 := Aside0.mk Q_B0
        refine off_ (wanted_off rfl rfl rfl (e23.trans (by first | rfl | (simp [*]; done)))) ?_
        refine hK.out _ _ ⟨(by rw [ha.out]; exact putSel_upk 26 hb_ rfl rfl rfl), Q_B0⟩
      refine steps_cons ?_ ?_
      · rintro b a w' ⟨ha, Q_B0⟩ hb_ hon hoff
        refine ⟨_, rfl, fun K hK => ?_⟩
        have e23 : a.tmps[23]? = some (.bool false) := by rw [ha]; exact putSel_on (e := (18, 23, .bool false)) 18 rfl rfl (hon 18 (by kernel_rfl)) rfl
        have e31 : a.tmps[31]? = some (undef) := by rw [ha]; exact putSel_on (e := (26, 31, undef)) 26 rfl rfl (hon 26 (by kernel_rfl)) rfl
        replace ha := Aside0.mk ha
        have B0 := Aside0.mk Q_B0
        refine value_ (w1 := w') (v := .bool false) (by rfl) rfl ?_ ?_
        · go_simp
          (try simp only [i64_w])
          try rfl
        refine hK.out _ _ ⟨(by rw [ha.out]; exact putSel_upk 27 hb_ rfl rfl rfl), Q_B0⟩
      refine steps_cons ?_ ?_
      · rintro b a w' ⟨ha, Q_B0⟩ hb_ hon hoff
        refine ⟨_, rfl, fun K hK => ?_⟩
        have e32 : a.tmps[32]? = some (.bool false) := by rw [ha]; exact putSel_on (e := (27, 32, .bool false)) 27 rfl rfl (hon 27 (by kernel_rfl)) rfl
        replace ha := Aside0.mk ha
        have B0 := Aside0.mk Q_B0
        refine value_ (w1 := w') (v := .bool false) (by rfl) rfl ?_ ?_
        · go_simp
          (try simp only [i64_w])
          try rfl
        refine hK.out _ _ ⟨(by rw [ha.out]; exact putSel_upk 28 hb_ rfl rfl rfl), Q_B0⟩
      exact steps_nil
    rintro b a wl hall ⟨ha, Q_B0⟩
    clear B0
    have hb0_ := hall 0 (by kernel_rfl)
    have hb1_ := hall 1 (by kernel_rfl)
    have hb2_ := hall 2 (by kernel_rfl)
    have hb3_ := hall 3 (by kernel_rfl)
    have hb4_ := hall 4 (by kernel_rfl)
    have hb5_ := hall 5 (by kernel_rfl)
    have hb6_ := hall 6 (by kernel_rfl)
    have hb7_ := hall 7 (by kernel_rfl)
    have hb8_ := hall 8 (by kernel_rfl)
    have hb9_ := hall 9 (by kernel_rfl)
    have hb10_ := hall 10 (by kernel_rfl)
    have hb11_ := hall 11 (by kernel_rfl)
    have hb12_ := hall 12 (by kernel_rfl)
    have hb13_ := hall 13 (by kernel_rfl)
    have hb14_ := hall 14 (by kernel_rfl)
    have hb15_ := hall 15 (by kernel_rfl)
    have hb16_ := hall 16 (by kernel_rfl)
    have hb17_ := hall 17 (by kernel_rfl)
    have hb18_ := hall 18 (by kernel_rfl)
    have hb19_ := hall 19 (by kernel_rfl)
    have hb20_ := hall 20 (by kernel_rfl)
    have hb21_ := hall 21 (by kernel_rfl)
    have hb22_ := hall 22 (by kernel_rfl)
    have hb23_ := hall 23 (by kernel_rfl)
    have hb24_ := hall 24 (by kernel_rfl)
    have hb25_ := hall 25 (by kernel_rfl)
    have hb26_ := hall 26 (by kernel_rfl)
    have hb27_ := hall 27 (by kernel_rfl)
    have hb28_ := hall 28 (by kernel_rfl)
    subst ha
    simp only [putSel, hb0_, hb1_, hb2_, hb3_, hb4_, hb5_, hb6_, hb7_, hb8_, hb9_, hb10_, hb11_, hb12_, hb13_, hb14_, hb15_, hb16_, hb17_, hb18_, hb19_, hb20_, hb21_, hb22_, hb23_, hb24_, hb25_, hb26_, hb27_, hb28_, if_true, Act.put, List.setIfInBounds_toArray, List.set_cons_zero, List.set_cons_succ]
    have B0 := Aside0.mk Q_B0
    clear Q_B0
    clear hall hb0_ hb1_ hb2_ hb3_ hb4_ hb5_ hb6_ hb7_ hb8_ hb9_ hb10_ hb11_ hb12_ hb13_ hb14_ hb15_ hb16_ hb17_ hb18_ hb19_ hb20_ hb21_ hb22_ hb23_ hb24_ hb25_ hb26_ hb27_ hb28_
    go_wp2_with fail
    go_ret
    rw [show D.here bk pg = false by unfold Dv.here Dv.there; rw [T1.out]; rfl]
    exact ⟨rfl, below_then HB2.out HB2.out.size B0.out⟩
  | true =>
    have T1 := Aside0.mk h1
    clear h1
    cases h2 : decide (bk < D.B) with
    | false =>
      have T2 := Aside0.mk h2
      clear h2
      refine start_ (n := 29) (S := fun w' => True) (ds := []) #[false, false, false, false, false, false, false, false, false, false, false, false, false, false, false, false, false, false, false, false, false, false, false, false, false, false, false, false, false] (by kernel_rfl) rfl rfl trivial (fun hHeld => ?_)
      refine with_tabW here1.tab1 here1.bits1 (fun HT_ HW_ => ?_)
      generalize W2.drew = wq at B0 hHeld ⊢
      refine inv_at [0, 1, 2, 3, 4, 5, 6, 7, 8, 9, 10, 11, 12, 13, 14, 15, 16, 17, 18, 19, 20, 21, 22, 23, 24, 25, 26, 27, 28] (fun a0_ b a w' => a = putSel a0_ b [(0, 5, .pointer (some ⟨g4, 0, none⟩)), (1, 6, .int .i64 bk), (2, 7, .bool true), (3, 8, .bool true), (4, 9, .pointer (some ⟨g4, 0, none⟩)), (5, 10, .int .i64 bk), (6, 11, .pointer (some ⟨L.g, 0, none⟩)), (7, 12, .pointer (some ⟨L.g, 0, none⟩)), (8, 13, .pointer (some ⟨L.g, 0, none⟩)), (9, 14, .pointer (some ⟨L.g, 0, none⟩)), (10, 15, .int .i64 D.B), (11, 16, .bool false), (12, 17, .bool false), (13, 18, .bool false), (14, 19, undef), (15, 20, undef), (16, 21, undef), (17, 22, .bool false), (18, 23, .bool false), (19, 24, undef), (20, 25, undef), (21, 26, undef), (22, 27, undef), (23, 28, undef), (24, 29, undef), (25, 30, undef), (26, 31, undef), (27, 32, .bool false), (28, 4, .bool false)] ∧ (Below W2.heap.size W2 w')) HT_.out HW_.out (by kernel_rfl) (by kernel_rfl) ?_ ?_ ?_
      · exact ⟨by simp only [putSel, Bool.false_eq_true, if_false], B0.out⟩
      · skip
        clear B0
        refine steps_cons ?_ ?_
        · rintro b a w' ⟨ha, Q_B0⟩ hb_ hon hoff
          refine ⟨_, rfl, fun K hK => ?_⟩
          have e3 : a.tmps[3]? = some (.pointer (some ⟨g4, 0, none⟩)) := by rw [ha]; exact (putSel_off rfl).trans rfl
          replace ha := Aside0.mk ha
          have B0 := Aside0.mk Q_B0
          refine value_ (w1 := w') (v := .pointer (some ⟨g4, 0, none⟩)) (by rfl) rfl ?_ ?_
          · go_simp
            (try simp only [i64_w])
            try rfl
          refine hK.out _ _ ⟨(by rw [ha.out]; exact putSel_upk 0 hb_ rfl rfl rfl), Q_B0⟩
        refine steps_cons ?_ ?_
        · rintro b a w' ⟨ha, Q_B0⟩ hb_ hon hoff
          refine ⟨_, rfl, fun K hK => ?_⟩
          have e5 : a.tmps[5]? = some (.pointer (some ⟨g4, 0, none⟩)) := by rw [ha]; exact putSel_on (e := (0, 5, .pointer (some ⟨g4, 0, none⟩))) 0 rfl rfl (hon 0 (by kernel_rfl)) rfl
          replace ha := Aside0.mk ha
          have B0 := Aside0.mk Q_B0
          have c_ := blk_cell (blk_below HZ4.out B0.out) 0
          refine value_ (w1 := w') (v := .int .i64 bk) (by rfl) rfl ?_ ?_
          · go_simp
            (try simp only [i64_w])
            try rfl
          refine hK.out _ _ ⟨(by rw [ha.out]; exact putSel_upk 1 hb_ rfl rfl rfl), Q_B0⟩
        refine steps_cons ?_ ?_
        · rintro b a w' ⟨ha, Q_B0⟩ hb_ hon hoff
          refine ⟨_, rfl, fun K hK => ?_⟩
          have e6 : a.tmps[6]? = some (.int .i64 bk) := by rw [ha]; exact putSel_on (e := (1, 6, .int .i64 bk)) 1 rfl rfl (hon 1 (by kernel_rfl)) rfl
          replace ha := Aside0.mk ha
          have B0 := Aside0.mk Q_B0
          have q_ := T1.out
          refine value_ (w1 := w') (v := .bool true) (by rfl) rfl ?_ ?_
          · go_simp
            (try simp only [i64_w])
            try rfl
          refine hK.out _ _ ⟨(by rw [ha.out]; exact putSel_upk 2 hb_ rfl rfl rfl), Q_B0⟩
        refine steps_cons ?_ ?_
        · rintro b a w' ⟨ha, Q_B0⟩ hb_ hon hoff
          refine ⟨_, rfl, fun K hK => ?_⟩
          have e7 : a.tmps[7]? = some (.bool true) := by rw [ha]; exact putSel_on (e := (2, 7, .bool true)) 2 rfl rfl (hon 2 (by kernel_rfl)) rfl
          replace ha := Aside0.mk ha
          have B0 := Aside0.mk Q_B0
          refine value_ (w1 := w') (v := .bool true) (by rfl) rfl ?_ ?_
          · go_simp
            (try simp only [i64_w])
            try rfl
          refine hK.out _ _ ⟨(by rw [ha.out]; exact putSel_upk 3 hb_ rfl rfl rfl), Q_B0⟩
        refine steps_cons ?_ ?_
        · rintro b a w' ⟨ha, Q_B0⟩ hb_ hon hoff
          refine ⟨_, rfl, fun K hK => ?_⟩
          have e3 : a.tmps[3]? = some (.pointer (some ⟨g4, 0, none⟩)) := by rw [ha]; exact (putSel_off rfl).trans rfl
          have e8 : a.tmps[8]? = some (.bool true) := by rw [ha]; exact putSel_on (e := (3, 8, .bool true)) 3 rfl rfl (hon 3 (by kernel_rfl)) rfl
          replace ha := Aside0.mk ha
          have B0 := Aside0.mk Q_B0
          refine value_ (w1 := w') (v := .pointer (some ⟨g4, 0, none⟩)) (wanted_on rfl rfl rfl (e8.trans (by first | rfl | (simp [*]; done)))) rfl ?_ ?_
          · go_simp
            (try simp only [i64_w])
            try rfl
          refine hK.out _ _ ⟨(by rw [ha.out]; exact putSel_upk 4 hb_ rfl rfl rfl), Q_B0⟩
        refine steps_cons ?_ ?_
        · rintro b a w' ⟨ha, Q_B0⟩ hb_ hon hoff
          refine ⟨_, rfl, fun K hK => ?_⟩
          have e9 : a.tmps[9]? = some (.pointer (some ⟨g4, 0, none⟩)) := by rw [ha]; exact putSel_on (e := (4, 9, .pointer (some ⟨g4, 0, none⟩))) 4 rfl rfl (hon 4 (by kernel_rfl)) rfl
          have e8 : a.tmps[8]? = some (.bool true) := by rw [ha]; exact putSel_on (e := (3, 8, .bool true)) 3 rfl rfl (hon 3 (by kernel_rfl)) rfl
          replace ha := Aside0.mk ha
          have B0 := Aside0.mk Q_B0
          have c_ := blk_cell (blk_below HZ4.out B0.out) 0
          refine value_ (w1 := w') (v := .int .i64 bk) (wanted_on rfl rfl rfl (e8.trans (by first | rfl | (simp [*]; done)))) rfl ?_ ?_
          · go_simp
            (try simp only [i64_w])
            try rfl
          refine hK.out _ _ ⟨(by rw [ha.out]; exact putSel_upk 5 hb_ rfl rfl rfl), Q_B0⟩
        refine steps_cons ?_ ?_
        · rintro b a w' ⟨ha, Q_B0⟩ hb_ hon hoff
          refine ⟨_, rfl, fun K hK => ?_⟩
          have e0 : a.tmps[0]? = some (.pointer (some ⟨L.g, 0, none⟩)) := by rw [ha]; exact (putSel_off rfl).trans rfl
          have e8 : a.tmps[8]? = some (.bool true) := by rw [ha]; exact putSel_on (e := (3, 8, .bool true)) 3 rfl rfl (hon 3 (by kernel_rfl)) rfl
          replace ha := Aside0.mk ha
          have B0 := Aside0.mk Q_B0
          refine value_ (w1 := w') (v := .pointer (some ⟨L.g, 0, none⟩)) (wanted_on rfl rfl rfl (e8.trans (by first | rfl | (simp [*]; done)))) rfl ?_ ?_
          · go_simp
            (try simp only [i64_w])
            try rfl
          refine hK.out _ _ ⟨(by rw [ha.out]; exact putSel_upk 6 hb_ rfl rfl rfl), Q_B0⟩
        refine steps_cons ?_ ?_
        · rintro b a w' ⟨ha, Q_B0⟩ hb_ hon hoff
          refine ⟨_, rfl, fun K hK => ?_⟩
          have e11 : a.tmps[11]? = some (.pointer (some ⟨L.g, 0, none⟩)) := by rw [ha]; exact putSel_on (e := (6, 11, .pointer (some ⟨L.g, 0, none⟩))) 6 rfl rfl (hon 6 (by kernel_rfl)) rfl
          have e8 : a.tmps[8]? = some (.bool true) := by rw [ha]; exact putSel_on (e := (3, 8, .bool true)) 3 rfl rfl (hon 3 (by kernel_rfl)) rfl
          replace ha := Aside0.mk ha
          have B0 := Aside0.mk Q_B0
          refine value_ (w1 := w') (v := .pointer (some ⟨L.g, 0, none⟩)) (wanted_on rfl rfl rfl (e8.trans (by first | rfl | (simp [*]; done)))) rfl ?_ ?_
          · go_simp
            (try simp only [i64_w])
            try rfl
          refine hK.out _ _ ⟨(by rw [ha.out]; exact putSel_upk 7 hb_ rfl rfl rfl), Q_B0⟩
        refine steps_cons ?_ ?_
        · rintro b a w' ⟨ha, Q_B0⟩ hb_ hon hoff
          refine ⟨_, rfl, fun K hK => ?_⟩
          have e12 : a.tmps[12]? = some (.pointer (some ⟨L.g, 0, none⟩)) := by rw [ha]; exact putSel_on (e := (7, 12, .pointer (some ⟨L.g, 0, none⟩))) 7 rfl rfl (hon 7 (by kernel_rfl)) rfl
          have e8 : a.tmps[8]? = some (.bool true) := by rw [ha]; exact putSel_on (e := (3, 8, .bool true)) 3 rfl rfl (hon 3 (by kernel_rfl)) rfl
          replace ha := Aside0.mk ha
          have B0 := Aside0.mk Q_B0
          refine value_ (w1 := w') (v := .pointer (some ⟨L.g, 0, none⟩)) (wanted_on rfl rfl rfl (e8.trans (by first | rfl | (simp [*]; done)))) rfl ?_ ?_
          · go_simp
            (try simp only [i64_w])
            try rfl
          refine hK.out _ _ ⟨(by rw [ha.out]; exact putSel_upk 8 hb_ rfl rfl rfl), Q_B0⟩
        refine steps_cons ?_ ?_
        · rintro b a w' ⟨ha, Q_B0⟩ hb_ hon hoff
          refine ⟨_, rfl, fun K hK => ?_⟩
          have e13 : a.tmps[13]? = some (.pointer (some ⟨L.g, 0, none⟩)) := by rw [ha]; exact putSel_on (e := (8, 13, .pointer (some ⟨L.g, 0, none⟩))) 8 rfl rfl (hon 8 (by kernel_rfl)) rfl
          have e8 : a.tmps[8]? = some (.bool true) := by rw [ha]; exact putSel_on (e := (3, 8, .bool true)) 3 rfl rfl (hon 3 (by kernel_rfl)) rfl
          replace ha := Aside0.mk ha
          have B0 := Aside0.mk Q_B0
          refine value_ (w1 := w') (v := .pointer (some ⟨L.g, 0, none⟩)) (wanted_on rfl rfl rfl (e8.trans (by first | rfl | (simp [*]; done)))) rfl ?_ ?_
          · go_simp
            (try simp only [i64_w])
            try rfl
          refine hK.out _ _ ⟨(by rw [ha.out]; exact putSel_upk 9 hb_ rfl rfl rfl), Q_B0⟩
        refine steps_cons ?_ ?_
        · rintro b a w' ⟨ha, Q_B0⟩ hb_ hon hoff
          refine ⟨_, rfl, fun K hK => ?_⟩
          have e14 : a.tmps[14]? = some (.pointer (some ⟨L.g, 0, none⟩)) := by rw [ha]; exact putSel_on (e := (9, 14, .pointer (some ⟨L.g, 0, none⟩))) 9 rfl rfl (hon 9 (by kernel_rfl)) rfl
          have e8 : a.tmps[8]? = some (.bool true) := by rw [ha]; exact putSel_on (e := (3, 8, .bool true)) 3 rfl rfl (hon 3 (by kernel_rfl)) rfl
          replace ha := Aside0.mk ha
          have B0 := Aside0.mk Q_B0
          have c_ := (xtop_cells (H2.out.below B0.out)).1
          refine value_ (w1 := w') (v := .int .i64 D.B) (wanted_on rfl rfl rfl (e8.trans (by first | rfl | (simp [*]; done)))) rfl ?_ ?_
          · go_simp
            (try simp only [i64_w])
            try rfl
          refine hK.out _ _ ⟨(by rw [ha.out]; exact putSel_upk 10 hb_ rfl rfl rfl), Q_B0⟩
        refine steps_cons ?_ ?_
        · rintro b a w' ⟨ha, Q_B0⟩ hb_ hon hoff
          refine ⟨_, rfl, fun K hK => ?_⟩
          have e10 : a.tmps[10]? = some (.int .i64 bk) := by rw [ha]; exact putSel_on (e := (5, 10, .int .i64 bk)) 5 rfl rfl (hon 5 (by kernel_rfl)) rfl
          have e15 : a.tmps[15]? = some (.int .i64 D.B) := by rw [ha]; exact putSel_on (e := (10, 15, .int .i64 D.B)) 10 rfl rfl (hon 10 (by kernel_rfl)) rfl
          have e8 : a.tmps[8]? = some (.bool true) := by rw [ha]; exact putSel_on (e := (3, 8, .bool true)) 3 rfl rfl (hon 3 (by kernel_rfl)) rfl
          replace ha := Aside0.mk ha
          have B0 := Aside0.mk Q_B0
          have q_ := T2.out
          refine value_ (w1 := w') (v := .bool false) (wanted_on rfl rfl rfl (e8.trans (by first | rfl | (simp [*]; done)))) rfl ?_ ?_
          · go_simp
            (try simp only [i64_w])
            try rfl
          refine hK.out _ _ ⟨(by rw [ha.out]; exact putSel_upk 11 hb_ rfl rfl rfl), Q_B0⟩
        refine steps_cons ?_ ?_
        · rintro b a w' ⟨ha, Q_B0⟩ hb_ hon hoff
          refine ⟨_, rfl, fun K hK => ?_⟩
          have e8 : a.tmps[8]? = some (.bool true) := by rw [ha]; exact putSel_on (e := (3, 8, .bool true)) 3 rfl rfl (hon 3 (by kernel_rfl)) rfl
          have e16 : a.tmps[16]? = some (.bool false) := by rw [ha]; exact putSel_on (e := (11, 16, .bool false)) 11 rfl rfl (hon 11 (by kernel_rfl)) rfl
          replace ha := Aside0.mk ha
          have B0 := Aside0.mk Q_B0
          refine value_ (w1 := w') (v := .bool false) (by rfl) rfl ?_ ?_
          · go_simp
            (try simp only [i64_w])
            try rfl
          refine hK.out _ _ ⟨(by rw [ha.out]; exact putSel_upk 12 hb_ rfl rfl rfl), Q_B0⟩
        refine steps_cons ?_ ?_
        · rintro b a w' ⟨ha, Q_B0⟩ hb_ hon hoff
          refine ⟨_, rfl, fun K hK => ?_⟩
          have e17 : a.tmps[17]? = some (.bool false) := by rw [ha]; exact putSel_on (e := (12, 17, .bool false)) 12 rfl rfl (hon 12 (by kernel_rfl)) rfl
          replace ha := Aside0.mk ha
          have B0 := Aside0.mk Q_B0
          refine value_ (w1 := w') (v := .bool false) (by rfl) rfl ?_ ?_
          · go_simp
            (try simp only [i64_w])
            try rfl
          refine hK.out _ _ ⟨(by rw [ha.out]; exact putSel_upk 13 hb_ rfl rfl rfl), Q_B0⟩
        refine steps_cons ?_ ?_
        · rintro b a w' ⟨ha, Q_B0⟩ hb_ hon hoff
          refine ⟨_, rfl, fun K hK => ?_⟩
          have e18 : a.tmps[18]? = some (.bool false) := by rw [ha]; exact putSel_on (e := (13, 18, .bool false)) 13 rfl rfl (hon 13 (by kernel_rfl)) rfl
          replace ha := Aside0.mk ha
          have B0 := Aside0.mk Q_B0
          refine off_ (wanted_off rfl rfl rfl (e18.trans (by first | rfl | (simp [*]; done)))) ?_
          refine hK.out _ _ ⟨(by rw [ha.out]; exact putSel_upk 14 hb_ rfl rfl rfl), Q_B0⟩
        refine steps_cons ?_ ?_
        · rintro b a w' ⟨ha, Q_B0⟩ hb_ hon hoff
          refine ⟨_, rfl, fun K hK => ?_⟩
          have e18 : a.tmps[18]? = some (.bool false) := by rw [ha]; exact putSel_on (e := (13, 18, .bool false)) 13 rfl rfl (hon 13 (by kernel_rfl)) rfl
          replace ha := Aside0.mk ha
          have B0 := Aside0.mk Q_B0
          refine off_ (wanted_off rfl rfl rfl (e18.trans (by first | rfl | (simp [*]; done)))) ?_
          refine hK.out _ _ ⟨(by rw [ha.out]; exact putSel_upk 15 hb_ rfl rfl rfl), Q_B0⟩
        refine steps_cons ?_ ?_
        · rintro b a w' ⟨ha, Q_B0⟩ hb_ hon hoff
          refine ⟨_, rfl, fun K hK => ?_⟩
          have e18 : a.tmps[18]? = some (.bool false) := by rw [ha]; exact putSel_on (e := (13, 18, .bool false)) 13 rfl rfl (hon 13 (by kernel_rfl)) rfl
          replace ha := Aside0.mk ha
          have B0 := Aside0.mk Q_B0
          refine off_ (wanted_off rfl rfl rfl (e18.trans (by first | rfl | (simp [*]; done)))) ?_
          refine hK.out _ _ ⟨(by rw [ha.out]; exact putSel_upk 16 hb_ rfl rfl rfl), Q_B0⟩
        refine steps_cons ?_ ?_
        · rintro b a w' ⟨ha, Q_B0⟩ hb_ hon hoff
          refine ⟨_, rfl, fun K hK => ?_⟩
          have e18 : a.tmps[18]? = some (.bool false) := by rw [ha]; exact putSel_on (e := (13, 18, .bool false)) 13 rfl rfl (hon 13 (by kernel_rfl)) rfl
          have e21 : a.tmps[21]? = some (undef) := by rw [ha]; exact putSel_on (e := (16, 21, undef)) 16 rfl rfl (hon 16 (by kernel_rfl)) rfl
          replace ha := Aside0.mk ha
          have B0 := Aside0.mk Q_B0
          refine value_ (w1 := w') (v := .bool false) (by rfl) rfl ?_ ?_
          · go_simp
            (try simp only [i64_w])
            try rfl
          refine hK.out _ _ ⟨(by rw [ha.out]; exact putSel_upk 17 hb_ rfl rfl rfl), Q_B0⟩
        refine steps_cons ?_ ?_
        · rintro b a w' ⟨ha, Q_B0⟩ hb_ hon hoff
          refine ⟨_, rfl, fun K hK => ?_⟩
          have e22 : a.tmps[22]? = some (.bool false) := by rw [ha]; exact putSel_on (e := (17, 22, .bool false)) 17 rfl rfl (hon 17 (by kernel_rfl)) rfl
          replace ha := Aside0.mk ha
          have B0 := Aside0.mk Q_B0
          refine value_ (w1 := w') (v := .bool false) (by rfl) rfl ?_ ?_
          · go_simp
            (try simp only [i64_w])
            try rfl
          refine hK.out _ _ ⟨(by rw [ha.out]; exact putSel_upk 18 hb_ rfl rfl rfl), Q_B0⟩
        refine steps_cons ?_ ?_
        · rintro b a w' ⟨ha, Q_B0⟩ hb_ hon hoff
          refine ⟨_, rfl, fun K hK => ?_⟩
          have e23 : a.tmps[23]? = some (.bool false) := by rw [ha]; exact putSel_on (e := (18, 23, .bool false)) 18 rfl rfl (hon 18 (by kernel_rfl)) rfl
          replace ha := Aside0.mk ha
          have B0 := Aside0.mk Q_B0
          refine off_ (wanted_off rfl rfl rfl (e23.trans (by first | rfl | (simp [*]; done)))) ?_
          refine hK.out _ _ ⟨(by rw [ha.out]; exact putSel_upk 19 hb_ rfl rfl rfl), Q_B0⟩
        refine steps_cons ?_ ?_
        · rintro b a w' ⟨ha, Q_B0⟩ hb_ hon hoff
          refine ⟨_, rfl, fun K hK => ?_⟩
          have e23 : a.tmps[23]? = some (.bool false) := by rw [ha]; exact putSel_on (e := (18, 23, .bool false)) 18 rfl rfl (hon 18 (by kernel_rfl)) rfl
          replace ha := Aside0.mk ha
          have B0 := Aside0.mk Q_B0
          refine off_ (wanted_off rfl rfl rfl (e23.trans (by first | rfl | (simp [*]; done)))) ?_
          refine hK.out _ _ ⟨(by rw [ha.out]; exact putSel_upk 20 hb_ rfl rfl rfl), Q_B0⟩
        refine steps_cons ?_ ?_
        · rintro b a w' ⟨ha, Q_B0⟩ hb_ hon hoff
          refine ⟨_, rfl, fun K hK => ?_⟩
          have e23 : a.tmps[23]? = some (.bool false) := by rw [ha]; exact putSel_on (e := (18, 23, .bool false)) 18 rfl rfl (hon 18 (by kernel_rfl)) rfl
          replace ha := Aside0.mk ha
          have B0 := Aside0.mk Q_B0
          refine off_ (wanted_off rfl rfl rfl (e23.trans (by first | rfl | (simp [*]; done)))) ?_
          refine hK.out _ _ ⟨(by rw [ha.out]; exact putSel_upk 21 hb_ rfl rfl rfl), Q_B0⟩
        refine steps_cons ?_ ?_
        · rintro b a w' ⟨ha, Q_B0⟩ hb_ hon hoff
          refine ⟨_, rfl, fun K hK => ?_⟩
          have e23 : a.tmps[23]? = some (.bool false) := by rw [ha]; exact putSel_on (e := (18, 23, .bool false)) 18 rfl rfl (hon 18 (by kernel_rfl)) rfl
          replace ha := Aside0.mk ha
          have B0 := Aside0.mk Q_B0
          refine off_ (wanted_off rfl rfl rfl (e23.trans (by first | rfl | (simp [*]; done)))) ?_
          refine hK.out _ _ ⟨(by rw [ha.out]; exact putSel_upk 22 hb_ rfl rfl rfl), Q_B0⟩
        refine steps_cons ?_ ?_
        · rintro b a w' ⟨ha, Q_B0⟩ hb_ hon hoff
          refine ⟨_, rfl, fun K hK => ?_⟩
          have e23 : a.tmps[23]? = some (.bool false) := by rw [ha]; exact putSel_on (e := (18, 23, .bool false)) 18 rfl rfl (hon 18 (by kernel_rfl)) rfl
          replace ha := Aside0.mk ha
          have B0 := Aside0.mk Q_B0
          refine off_ (wanted_off rfl rfl rfl (e23.trans (by first | rfl | (simp [*]; done)))) ?_
          refine hK.out _ _ ⟨(by rw [ha.out]; exact putSel_upk 23 hb_ rfl rfl rfl), Q_B0⟩
        refine steps_cons ?_ ?_
        · rintro b a w' ⟨ha, Q_B0⟩ hb_ hon hoff
          refine ⟨_, rfl, fun K hK => ?_⟩
          have e23 : a.tmps[23]? = some (.bool false) := by rw [ha]; exact putSel_on (e := (18, 23, .bool false)) 18 rfl rfl (hon 18 (by kernel_rfl)) rfl
          replace ha := Aside0.mk ha
          have B0 := Aside0.mk Q_B0
          refine off_ (wanted_off rfl rfl rfl (e23.trans (by first | rfl | (simp [*]; done)))) ?_
          refine hK.out _ _ ⟨(by rw [ha.out]; exact putSel_upk 24 hb_ rfl rfl rfl), Q_B0⟩
        refine steps_cons ?_ ?_
        · rintro b a w' ⟨ha, Q_B0⟩ hb_ hon hoff
          refine ⟨_, rfl, fun K hK => ?_⟩
          have e23 : a.tmps[23]? = some (.bool false) := by rw [ha]; exact putSel_on (e := (18, 23, .bool false)) 18 rfl rfl (hon 18 (by kernel_rfl)) rfl
          replace ha := Aside0.mk ha
          have B0 := Aside0.mk Q_B0
          refine off_ (wanted_off rfl rfl rfl (e23.trans (by first | rfl | (simp [*]; done)))) ?_
          refine hK.out _ _ ⟨(by rw [ha.out]; exact putSel_upk 25 hb_ rfl rfl rfl), Q_B0⟩
        refine steps_cons ?_ ?_
        · rintro b a w' ⟨ha, Q_B0⟩ hb_ hon hoff
          refine ⟨_, rfl, fun K hK => ?_⟩
          have e23 : a.tmps[23]? = some (.bool false) := by rw [ha]; exact putSel_on (e := (18, 23, .bool false)) 18 rfl rfl (hon 18 (by kernel_rfl)) rfl
          replace ha := Aside0.mk ha
          have B0 := Aside0.mk Q_B0
          refine off_ (wanted_off rfl rfl rfl (e23.trans (by first | rfl | (simp [*]; done)))) ?_
          refine hK.out _ _ ⟨(by rw [ha.out]; exact putSel_upk 26 hb_ rfl rfl rfl), Q_B0⟩
        refine steps_cons ?_ ?_
        · rintro b a w' ⟨ha, Q_B0⟩ hb_ hon hoff
          refine ⟨_, rfl, fun K hK => ?_⟩
          have e23 : a.tmps[23]? = some (.bool false) := by rw [ha]; exact putSel_on (e := (18, 23, .bool false)) 18 rfl rfl (hon 18 (by kernel_rfl)) rfl
          have e31 : a.tmps[31]? = some (undef) := by rw [ha]; exact putSel_on (e := (26, 31, undef)) 26 rfl rfl (hon 26 (by kernel_rfl)) rfl
          replace ha := Aside0.mk ha
          have B0 := Aside0.mk Q_B0
          refine value_ (w1 := w') (v := .bool false) (by rfl) rfl ?_ ?_
          · go_simp
            (try simp only [i64_w])
            try rfl
          refine hK.out _ _ ⟨(by rw [ha.out]; exact putSel_upk 27 hb_ rfl rfl rfl), Q_B0⟩
        refine steps_cons ?_ ?_
        · rintro b a w' ⟨ha, Q_B0⟩ hb_ hon hoff
          refine ⟨_, rfl, fun K hK => ?_⟩
          have e32 : a.tmps[32]? = some (.bool false) := by rw [ha]; exact putSel_on (e := (27, 32, .bool false)) 27 rfl rfl (hon 27 (by kernel_rfl)) rfl
          replace ha := Aside0.mk ha
          have B0 := Aside0.mk Q_B0
          refine value_ (w1 := w') (v := .bool false) (by rfl) rfl ?_ ?_
          · go_simp
            (try simp only [i64_w])
            try rfl
          refine hK.out _ _ ⟨(by rw [ha.out]; exact putSel_upk 28 hb_ rfl rfl rfl), Q_B0⟩
        exact steps_nil
      rintro b a wl hall ⟨ha, Q_B0⟩
      clear B0
      have hb0_ := hall 0 (by kernel_rfl)
      have hb1_ := hall 1 (by kernel_rfl)
      have hb2_ := hall 2 (by kernel_rfl)
      have hb3_ := hall 3 (by kernel_rfl)
      have hb4_ := hall 4 (by kernel_rfl)
      have hb5_ := hall 5 (by kernel_rfl)
      have hb6_ := hall 6 (by kernel_rfl)
      have hb7_ := hall 7 (by kernel_rfl)
      have hb8_ := hall 8 (by kernel_rfl)
      have hb9_ := hall 9 (by kernel_rfl)
      have hb10_ := hall 10 (by kernel_rfl)
      have hb11_ := hall 11 (by kernel_rfl)
      have hb12_ := hall 12 (by kernel_rfl)
      have hb13_ := hall 13 (by kernel_rfl)
      have hb14_ := hall 14 (by kernel_rfl)
      have hb15_ := hall 15 (by kernel_rfl)
      have hb16_ := hall 16 (by kernel_rfl)
      have hb17_ := hall 17 (by kernel_rfl)
      have hb18_ := hall 18 (by kernel_rfl)
      have hb19_ := hall 19 (by kernel_rfl)
      have hb20_ := hall 20 (by kernel_rfl)
      have hb21_ := hall 21 (by kernel_rfl)
      have hb22_ := hall 22 (by kernel_rfl)
      have hb23_ := hall 23 (by kernel_rfl)
      have hb24_ := hall 24 (by kernel_rfl)
      have hb25_ := hall 25 (by kernel_rfl)
      have hb26_ := hall 26 (by kernel_rfl)
      have hb27_ := hall 27 (by kernel_rfl)
      have hb28_ := hall 28 (by kernel_rfl)
      subst ha
      simp only [putSel, hb0_, hb1_, hb2_, hb3_, hb4_, hb5_, hb6_, hb7_, hb8_, hb9_, hb10_, hb11_, hb12_, hb13_, hb14_, hb15_, hb16_, hb17_, hb18_, hb19_, hb20_, hb21_, hb22_, hb23_, hb24_, hb25_, hb26_, hb27_, hb28_, if_true, Act.put, List.setIfInBounds_toArray, List.set_cons_zero, List.set_cons_succ]
      have B0 := Aside0.mk Q_B0
      clear Q_B0
      clear hall hb0_ hb1_ hb2_ hb3_ hb4_ hb5_ hb6_ hb7_ hb8_ hb9_ hb10_ hb11_ hb12_ hb13_ hb14_ hb15_ hb16_ hb17_ hb18_ hb19_ hb20_ hb21_ hb22_ hb23_ hb24_ hb25_ hb26_ hb27_ hb28_
      go_wp2_with fail
      go_ret
      rw [show D.here bk pg = false by unfold Dv.here Dv.there; rw [T1.out, T2.out]; rfl]
      exact ⟨rfl, below_then HB2.out HB2.out.size B0.out⟩
    | true =>
      have T2 := Aside0.mk h2
      clear h2
      cases h3 : decide (pg ≥ 0) with
      | false =>
        have T3 := Aside0.mk h3
        clear h3
        refine start_ (n := 29) (S := fun w' => True) (ds := []) #[false, false, false, false, false, false, false, false, false, false, false, false, false, false, false, false, false, false, false, false, false, false, false, false, false, false, false, false, false] (by kernel_rfl) rfl rfl trivial (fun hHeld => ?_)
        refine with_tabW here1.tab1 here1.bits1 (fun HT_ HW_ => ?_)
        generalize W2.drew = wq at B0 hHeld ⊢
        refine inv_at [0, 1, 2, 3, 4, 5, 6, 7, 8, 9, 10, 11, 12, 13, 14, 15, 16, 17, 18, 19, 20, 21, 22, 23, 24, 25, 26, 27, 28] (fun a0_ b a w' => a = putSel a0_ b [(0, 5, .pointer (some ⟨g4, 0, none⟩)), (1, 6, .int .i64 bk), (2, 7, .bool true), (3, 8, .bool true), (4, 9, .pointer (some ⟨g4, 0, none⟩)), (5, 10, .int .i64 bk), (6, 11, .pointer (some ⟨L.g, 0, none⟩)), (7, 12, .pointer (some ⟨L.g, 0, none⟩)), (8, 13, .pointer (some ⟨L.g, 0, none⟩)), (9, 14, .pointer (some ⟨L.g, 0, none⟩)), (10, 15, .int .i64 D.B), (11, 16, .bool true), (12, 17, .bool true), (13, 18, .bool true), (14, 19, .pointer (some ⟨g4, 1, none⟩)), (15, 20, .int .i64 pg), (16, 21, .bool false), (17, 22, .bool false), (18, 23, .bool false), (19, 24, undef), (20, 25, undef), (21, 26, undef), (22, 27, undef), (23, 28, undef), (24, 29, undef), (25, 30, undef), (26, 31, undef), (27, 32, .bool false), (28, 4, .bool false)] ∧ (Below W2.heap.size W2 w')) HT_.out HW_.out (by kernel_rfl) (by kernel_rfl) ?_ ?_ ?_
        · exact ⟨by simp only [putSel, Bool.false_eq_true, if_false], B0.out⟩
        · skip
          clear B0
          refine steps_cons ?_ ?_
          · rintro b a w' ⟨ha, Q_B0⟩ hb_ hon hoff
            refine ⟨_, rfl, fun K hK => ?_⟩
            have e3 : a.tmps[3]? = some (.pointer (some ⟨g4, 0, none⟩)) := by rw [ha]; exact (putSel_off rfl).trans rfl
            replace ha := Aside0.mk ha
            have B0 := Aside0.mk Q_B0
            refine value_ (w1 := w') (v := .pointer (some ⟨g4, 0, none⟩)) (by rfl) rfl ?_ ?_
            · go_simp
              (try simp only [i64_w])
              try rfl
            refine hK.out _ _ ⟨(by rw [ha.out]; exact putSel_upk 0 hb_ rfl rfl rfl), Q_B0⟩
          refine steps_cons ?_ ?_
          · rintro b a w' ⟨ha, Q_B0⟩ hb_ hon hoff
            refine ⟨_, rfl, fun K hK => ?_⟩
            have e5 : a.tmps[5]? = some (.pointer (some ⟨g4, 0, none⟩)) := by rw [ha]; exact putSel_on (e := (0, 5, .pointer (some ⟨g4, 0, none⟩))) 0 rfl rfl (hon 0 (by kernel_rfl)) rfl
            replace ha := Aside0.mk ha
            have B0 := Aside0.mk Q_B0
            have c_ := blk_cell (blk_below HZ4.out B0.out) 0
            refine value_ (w1 := w') (v := .int .i64 bk) (by rfl) rfl ?_ ?_
            · go_simp
              (try simp only [i64_w])
              try rfl
            refine hK.out _ _ ⟨(by rw [ha.out]; exact putSel_upk 1 hb_ rfl rfl rfl), Q_B0⟩
          refine steps_cons ?_ ?_
          · rintro b a w' ⟨ha, Q_B0⟩ hb_ hon hoff
            refine ⟨_, rfl, fun K hK => ?_⟩
            have e6 : a.tmps[6]? = some (.int .i64 bk) := by rw [ha]; exact putSel_on (e := (1, 6, .int .i64 bk)) 1 rfl rfl (hon 1 (by kernel_rfl)) rfl
            replace ha := Aside0.mk ha
            have B0 := Aside0.mk Q_B0
            have q_ := T1.out
            refine value_ (w1 := w') (v := .bool true) (by rfl) rfl ?_ ?_
            · go_simp
              (try simp only [i64_w])
              try rfl
            refine hK.out _ _ ⟨(by rw [ha.out]; exact putSel_upk 2 hb_ rfl rfl rfl), Q_B0⟩
          refine steps_cons ?_ ?_
          · rintro b a w' ⟨ha, Q_B0⟩ hb_ hon hoff
            refine ⟨_, rfl, fun K hK => ?_⟩
            have e7 : a.tmps[7]? = some (.bool true) := by rw [ha]; exact putSel_on (e := (2, 7, .bool true)) 2 rfl rfl (hon 2 (by kernel_rfl)) rfl
            replace ha := Aside0.mk ha
            have B0 := Aside0.mk Q_B0
            refine value_ (w1 := w') (v := .bool true) (by rfl) rfl ?_ ?_
            · go_simp
              (try simp only [i64_w])
              try rfl
            refine hK.out _ _ ⟨(by rw [ha.out]; exact putSel_upk 3 hb_ rfl rfl rfl), Q_B0⟩
          refine steps_cons ?_ ?_
          · rintro b a w' ⟨ha, Q_B0⟩ hb_ hon hoff
            refine ⟨_, rfl, fun K hK => ?_⟩
            have e3 : a.tmps[3]? = some (.pointer (some ⟨g4, 0, none⟩)) := by rw [ha]; exact (putSel_off rfl).trans rfl
            have e8 : a.tmps[8]? = some (.bool true) := by rw [ha]; exact putSel_on (e := (3, 8, .bool true)) 3 rfl rfl (hon 3 (by kernel_rfl)) rfl
            replace ha := Aside0.mk ha
            have B0 := Aside0.mk Q_B0
            refine value_ (w1 := w') (v := .pointer (some ⟨g4, 0, none⟩)) (wanted_on rfl rfl rfl (e8.trans (by first | rfl | (simp [*]; done)))) rfl ?_ ?_
            · go_simp
              (try simp only [i64_w])
              try rfl
            refine hK.out _ _ ⟨(by rw [ha.out]; exact putSel_upk 4 hb_ rfl rfl rfl), Q_B0⟩
          refine steps_cons ?_ ?_
          · rintro b a w' ⟨ha, Q_B0⟩ hb_ hon hoff
            refine ⟨_, rfl, fun K hK => ?_⟩
            have e9 : a.tmps[9]? = some (.pointer (some ⟨g4, 0, none⟩)) := by rw [ha]; exact putSel_on (e := (4, 9, .pointer (some ⟨g4, 0, none⟩))) 4 rfl rfl (hon 4 (by kernel_rfl)) rfl
            have e8 : a.tmps[8]? = some (.bool true) := by rw [ha]; exact putSel_on (e := (3, 8, .bool true)) 3 rfl rfl (hon 3 (by kernel_rfl)) rfl
            replace ha := Aside0.mk ha
            have B0 := Aside0.mk Q_B0
            have c_ := blk_cell (blk_below HZ4.out B0.out) 0
            refine value_ (w1 := w') (v := .int .i64 bk) (wanted_on rfl rfl rfl (e8.trans (by first | rfl | (simp [*]; done)))) rfl ?_ ?_
            · go_simp
              (try simp only [i64_w])
              try rfl
            refine hK.out _ _ ⟨(by rw [ha.out]; exact putSel_upk 5 hb_ rfl rfl rfl), Q_B0⟩
          refine steps_cons ?_ ?_
          · rintro b a w' ⟨ha, Q_B0⟩ hb_ hon hoff
            refine ⟨_, rfl, fun K hK => ?_⟩
            have e0 : a.tmps[0]? = some (.pointer (some ⟨L.g, 0, none⟩)) := by rw [ha]; exact (putSel_off rfl).trans rfl
            have e8 : a.tmps[8]? = some (.bool true) := by rw [ha]; exact putSel_on (e := (3, 8, .bool true)) 3 rfl rfl (hon 3 (by kernel_rfl)) rfl
            replace ha := Aside0.mk ha
            have B0 := Aside0.mk Q_B0
            refine value_ (w1 := w') (v := .pointer (some ⟨L.g, 0, none⟩)) (wanted_on rfl rfl rfl (e8.trans (by first | rfl | (simp [*]; done)))) rfl ?_ ?_
            · go_simp
              (try simp only [i64_w])
              try rfl
            refine hK.out _ _ ⟨(by rw [ha.out]; exact putSel_upk 6 hb_ rfl rfl rfl), Q_B0⟩
          refine steps_cons ?_ ?_
          · rintro b a w' ⟨ha, Q_B0⟩ hb_ hon hoff
            refine ⟨_, rfl, fun K hK => ?_⟩
            have e11 : a.tmps[11]? = some (.pointer (some ⟨L.g, 0, none⟩)) := by rw [ha]; exact putSel_on (e := (6, 11, .pointer (some ⟨L.g, 0, none⟩))) 6 rfl rfl (hon 6 (by kernel_rfl)) rfl
            have e8 : a.tmps[8]? = some (.bool true) := by rw [ha]; exact putSel_on (e := (3, 8, .bool true)) 3 rfl rfl (hon 3 (by kernel_rfl)) rfl
            replace ha := Aside0.mk ha
            have B0 := Aside0.mk Q_B0
            refine value_ (w1 := w') (v := .pointer (some ⟨L.g, 0, none⟩)) (wanted_on rfl rfl rfl (e8.trans (by first | rfl | (simp [*]; done)))) rfl ?_ ?_
            · go_simp
              (try simp only [i64_w])
              try rfl
            refine hK.out _ _ ⟨(by rw [ha.out]; exact putSel_upk 7 hb_ rfl rfl rfl), Q_B0⟩
          refine steps_cons ?_ ?_
          · rintro b a w' ⟨ha, Q_B0⟩ hb_ hon hoff
            refine ⟨_, rfl, fun K hK => ?_⟩
            have e12 : a.tmps[12]? = some (.pointer (some ⟨L.g, 0, none⟩)) := by rw [ha]; exact putSel_on (e := (7, 12, .pointer (some ⟨L.g, 0, none⟩))) 7 rfl rfl (hon 7 (by kernel_rfl)) rfl
            have e8 : a.tmps[8]? = some (.bool true) := by rw [ha]; exact putSel_on (e := (3, 8, .bool true)) 3 rfl rfl (hon 3 (by kernel_rfl)) rfl
            replace ha := Aside0.mk ha
            have B0 := Aside0.mk Q_B0
            refine value_ (w1 := w') (v := .pointer (some ⟨L.g, 0, none⟩)) (wanted_on rfl rfl rfl (e8.trans (by first | rfl | (simp [*]; done)))) rfl ?_ ?_
            · go_simp
              (try simp only [i64_w])
              try rfl
            refine hK.out _ _ ⟨(by rw [ha.out]; exact putSel_upk 8 hb_ rfl rfl rfl), Q_B0⟩
          refine steps_cons ?_ ?_
          · rintro b a w' ⟨ha, Q_B0⟩ hb_ hon hoff
            refine ⟨_, rfl, fun K hK => ?_⟩
            have e13 : a.tmps[13]? = some (.pointer (some ⟨L.g, 0, none⟩)) := by rw [ha]; exact putSel_on (e := (8, 13, .pointer (some ⟨L.g, 0, none⟩))) 8 rfl rfl (hon 8 (by kernel_rfl)) rfl
            have e8 : a.tmps[8]? = some (.bool true) := by rw [ha]; exact putSel_on (e := (3, 8, .bool true)) 3 rfl rfl (hon 3 (by kernel_rfl)) rfl
            replace ha := Aside0.mk ha
            have B0 := Aside0.mk Q_B0
            refine value_ (w1 := w') (v := .pointer (some ⟨L.g, 0, none⟩)) (wanted_on rfl rfl rfl (e8.trans (by first | rfl | (simp [*]; done)))) rfl ?_ ?_
            · go_simp
              (try simp only [i64_w])
              try rfl
            refine hK.out _ _ ⟨(by rw [ha.out]; exact putSel_upk 9 hb_ rfl rfl rfl), Q_B0⟩
          refine steps_cons ?_ ?_
          · rintro b a w' ⟨ha, Q_B0⟩ hb_ hon hoff
            refine ⟨_, rfl, fun K hK => ?_⟩
            have e14 : a.tmps[14]? = some (.pointer (some ⟨L.g, 0, none⟩)) := by rw [ha]; exact putSel_on (e := (9, 14, .pointer (some ⟨L.g, 0, none⟩))) 9 rfl rfl (hon 9 (by kernel_rfl)) rfl
            have e8 : a.tmps[8]? = some (.bool true) := by rw [ha]; exact putSel_on (e := (3, 8, .bool true)) 3 rfl rfl (hon 3 (by kernel_rfl)) rfl
            replace ha := Aside0.mk ha
            have B0 := Aside0.mk Q_B0
            have c_ := (xtop_cells (H2.out.below B0.out)).1
            refine value_ (w1 := w') (v := .int .i64 D.B) (wanted_on rfl rfl rfl (e8.trans (by first | rfl | (simp [*]; done)))) rfl ?_ ?_
            · go_simp
              (try simp only [i64_w])
              try rfl
            refine hK.out _ _ ⟨(by rw [ha.out]; exact putSel_upk 10 hb_ rfl rfl rfl), Q_B0⟩
          refine steps_cons ?_ ?_
          · rintro b a w' ⟨ha, Q_B0⟩ hb_ hon hoff
            refine ⟨_, rfl, fun K hK => ?_⟩
            have e10 : a.tmps[10]? = some (.int .i64 bk) := by rw [ha]; exact putSel_on (e := (5, 10, .int .i64 bk)) 5 rfl rfl (hon 5 (by kernel_rfl)) rfl
            have e15 : a.tmps[15]? = some (.int .i64 D.B) := by rw [ha]; exact putSel_on (e := (10, 15, .int .i64 D.B)) 10 rfl rfl (hon 10 (by kernel_rfl)) rfl
            have e8 : a.tmps[8]? = some (.bool true) := by rw [ha]; exact putSel_on (e := (3, 8, .bool true)) 3 rfl rfl (hon 3 (by kernel_rfl)) rfl
            replace ha := Aside0.mk ha
            have B0 := Aside0.mk Q_B0
            have q_ := T2.out
            refine value_ (w1 := w') (v := .bool true) (wanted_on rfl rfl rfl (e8.trans (by first | rfl | (simp [*]; done)))) rfl ?_ ?_
            · go_simp
              (try simp only [i64_w])
              try rfl
            refine hK.out _ _ ⟨(by rw [ha.out]; exact putSel_upk 11 hb_ rfl rfl rfl), Q_B0⟩
          refine steps_cons ?_ ?_
          · rintro b a w' ⟨ha, Q_B0⟩ hb_ hon hoff
            refine ⟨_, rfl, fun K hK => ?_⟩
            have e8 : a.tmps[8]? = some (.bool true) := by rw [ha]; exact putSel_on (e := (3, 8, .bool true)) 3 rfl rfl (hon 3 (by kernel_rfl)) rfl
            have e16 : a.tmps[16]? = some (.bool true) := by rw [ha]; exact putSel_on (e := (11, 16, .bool true)) 11 rfl rfl (hon 11 (by kernel_rfl)) rfl
            replace ha := Aside0.mk ha
            have B0 := Aside0.mk Q_B0
            refine value_ (w1 := w') (v := .bool true) (by rfl) rfl ?_ ?_
            · go_simp
              (try simp only [i64_w])
              try rfl
            refine hK.out _ _ ⟨(by rw [ha.out]; exact putSel_upk 12 hb_ rfl rfl rfl), Q_B0⟩
          refine steps_cons ?_ ?_
          · rintro b a w' ⟨ha, Q_B0⟩ hb_ hon hoff
            refine ⟨_, rfl, fun K hK => ?_⟩
            have e17 : a.tmps[17]? = some (.bool true) := by rw [ha]; exact putSel_on (e := (12, 17, .bool true)) 12 rfl rfl (hon 12 (by kernel_rfl)) rfl
            replace ha := Aside0.mk ha
            have B0 := Aside0.mk Q_B0
            refine value_ (w1 := w') (v := .bool true) (by rfl) rfl ?_ ?_
            · go_simp
              (try simp only [i64_w])
              try rfl
            refine hK.out _ _ ⟨(by rw [ha.out]; exact putSel_upk 13 hb_ rfl rfl rfl), Q_B0⟩
          refine steps_cons ?_ ?_
          · rintro b a w' ⟨ha, Q_B0⟩ hb_ hon hoff
            refine ⟨_, rfl, fun K hK => ?_⟩
            have e3 : a.tmps[3]? = some (.pointer (some ⟨g4, 0, none⟩)) := by rw [ha]; exact (putSel_off rfl).trans rfl
            have e18 : a.tmps[18]? = some (.bool true) := by rw [ha]; exact putSel_on (e := (13, 18, .bool true)) 13 rfl rfl (hon 13 (by kernel_rfl)) rfl
            replace ha := Aside0.mk ha
            have B0 := Aside0.mk Q_B0
            refine value_ (w1 := w') (v := .pointer (some ⟨g4, 1, none⟩)) (wanted_on rfl rfl rfl (e18.trans (by first | rfl | (simp [*]; done)))) rfl ?_ ?_
            · go_simp
              (try simp only [i64_w])
              try rfl
            refine hK.out _ _ ⟨(by rw [ha.out]; exact putSel_upk 14 hb_ rfl rfl rfl), Q_B0⟩
          refine steps_cons ?_ ?_
          · rintro b a w' ⟨ha, Q_B0⟩ hb_ hon hoff
            refine ⟨_, rfl, fun K hK => ?_⟩
            have e19 : a.tmps[19]? = some (.pointer (some ⟨g4, 1, none⟩)) := by rw [ha]; exact putSel_on (e := (14, 19, .pointer (some ⟨g4, 1, none⟩))) 14 rfl rfl (hon 14 (by kernel_rfl)) rfl
            have e18 : a.tmps[18]? = some (.bool true) := by rw [ha]; exact putSel_on (e := (13, 18, .bool true)) 13 rfl rfl (hon 13 (by kernel_rfl)) rfl
            replace ha := Aside0.mk ha
            have B0 := Aside0.mk Q_B0
            have c_ := blk_cell (blk_below HZ4.out B0.out) 1
            refine value_ (w1 := w') (v := .int .i64 pg) (wanted_on rfl rfl rfl (e18.trans (by first | rfl | (simp [*]; done)))) rfl ?_ ?_
            · go_simp
              (try simp only [i64_w])
              try rfl
            refine hK.out _ _ ⟨(by rw [ha.out]; exact putSel_upk 15 hb_ rfl rfl rfl), Q_B0⟩
          refine steps_cons ?_ ?_
          · rintro b a w' ⟨ha, Q_B0⟩ hb_ hon hoff
            refine ⟨_, rfl, fun K hK => ?_⟩
            have e20 : a.tmps[20]? = some (.int .i64 pg) := by rw [ha]; exact putSel_on (e := (15, 20, .int .i64 pg)) 15 rfl rfl (hon 15 (by kernel_rfl)) rfl
            have e18 : a.tmps[18]? = some (.bool true) := by rw [ha]; exact putSel_on (e := (13, 18, .bool true)) 13 rfl rfl (hon 13 (by kernel_rfl)) rfl
            replace ha := Aside0.mk ha
            have B0 := Aside0.mk Q_B0
            have q_ := T3.out
            refine value_ (w1 := w') (v := .bool false) (wanted_on rfl rfl rfl (e18.trans (by first | rfl | (simp [*]; done)))) rfl ?_ ?_
            · go_simp
              (try simp only [i64_w])
              try rfl
            refine hK.out _ _ ⟨(by rw [ha.out]; exact putSel_upk 16 hb_ rfl rfl rfl), Q_B0⟩
          refine steps_cons ?_ ?_
          · rintro b a w' ⟨ha, Q_B0⟩ hb_ hon hoff
            refine ⟨_, rfl, fun K hK => ?_⟩
            have e18 : a.tmps[18]? = some (.bool true) := by rw [ha]; exact putSel_on (e := (13, 18, .bool true)) 13 rfl rfl (hon 13 (by kernel_rfl)) rfl
            have e21 : a.tmps[21]? = some (.bool false) := by rw [ha]; exact putSel_on (e := (16, 21, .bool false)) 16 rfl rfl (hon 16 (by kernel_rfl)) rfl
            replace ha := Aside0.mk ha
            have B0 := Aside0.mk Q_B0
            refine value_ (w1 := w') (v := .bool false) (by rfl) rfl ?_ ?_
            · go_simp
              (try simp only [i64_w])
              try rfl
            refine hK.out _ _ ⟨(by rw [ha.out]; exact putSel_upk 17 hb_ rfl rfl rfl), Q_B0⟩
          refine steps_cons ?_ ?_
          · rintro b a w' ⟨ha, Q_B0⟩ hb_ hon hoff
            refine ⟨_, rfl, fun K hK => ?_⟩
            have e22 : a.tmps[22]? = some (.bool false) := by rw [ha]; exact putSel_on (e := (17, 22, .bool false)) 17 rfl rfl (hon 17 (by kernel_rfl)) rfl
            replace ha := Aside0.mk ha
            have B0 := Aside0.mk Q_B0
            refine value_ (w1 := w') (v := .bool false) (by rfl) rfl ?_ ?_
            · go_simp
              (try simp only [i64_w])
              try rfl
            refine hK.out _ _ ⟨(by rw [ha.out]; exact putSel_upk 18 hb_ rfl rfl rfl), Q_B0⟩
          refine steps_cons ?_ ?_
          · rintro b a w' ⟨ha, Q_B0⟩ hb_ hon hoff
            refine ⟨_, rfl, fun K hK => ?_⟩
            have e23 : a.tmps[23]? = some (.bool false) := by rw [ha]; exact putSel_on (e := (18, 23, .bool false)) 18 rfl rfl (hon 18 (by kernel_rfl)) rfl
            replace ha := Aside0.mk ha
            have B0 := Aside0.mk Q_B0
            refine off_ (wanted_off rfl rfl rfl (e23.trans (by first | rfl | (simp [*]; done)))) ?_
            refine hK.out _ _ ⟨(by rw [ha.out]; exact putSel_upk 19 hb_ rfl rfl rfl), Q_B0⟩
          refine steps_cons ?_ ?_
          · rintro b a w' ⟨ha, Q_B0⟩ hb_ hon hoff
            refine ⟨_, rfl, fun K hK => ?_⟩
            have e23 : a.tmps[23]? = some (.bool false) := by rw [ha]; exact putSel_on (e := (18, 23, .bool false)) 18 rfl rfl (hon 18 (by kernel_rfl)) rfl
            replace ha := Aside0.mk ha
            have B0 := Aside0.mk Q_B0
            refine off_ (wanted_off rfl rfl rfl (e23.trans (by first | rfl | (simp [*]; done)))) ?_
            refine hK.out _ _ ⟨(by rw [ha.out]; exact putSel_upk 20 hb_ rfl rfl rfl), Q_B0⟩
          refine steps_cons ?_ ?_
          · rintro b a w' ⟨ha, Q_B0⟩ hb_ hon hoff
            refine ⟨_, rfl, fun K hK => ?_⟩
            have e23 : a.tmps[23]? = some (.bool false) := by rw [ha]; exact putSel_on (e := (18, 23, .bool false)) 18 rfl rfl (hon 18 (by kernel_rfl)) rfl
            replace ha := Aside0.mk ha
            have B0 := Aside0.mk Q_B0
            refine off_ (wanted_off rfl rfl rfl (e23.trans (by first | rfl | (simp [*]; done)))) ?_
            refine hK.out _ _ ⟨(by rw [ha.out]; exact putSel_upk 21 hb_ rfl rfl rfl), Q_B0⟩
          refine steps_cons ?_ ?_
          · rintro b a w' ⟨ha, Q_B0⟩ hb_ hon hoff
            refine ⟨_, rfl, fun K hK => ?_⟩
            have e23 : a.tmps[23]? = some (.bool false) := by rw [ha]; exact putSel_on (e := (18, 23, .bool false)) 18 rfl rfl (hon 18 (by kernel_rfl)) rfl
            replace ha := Aside0.mk ha
            have B0 := Aside0.mk Q_B0
            refine off_ (wanted_off rfl rfl rfl (e23.trans (by first | rfl | (simp [*]; done)))) ?_
            refine hK.out _ _ ⟨(by rw [ha.out]; exact putSel_upk 22 hb_ rfl rfl rfl), Q_B0⟩
          refine steps_cons ?_ ?_
          · rintro b a w' ⟨ha, Q_B0⟩ hb_ hon hoff
            refine ⟨_, rfl, fun K hK => ?_⟩
            have e23 : a.tmps[23]? = some (.bool false) := by rw [ha]; exact putSel_on (e := (18, 23, .bool false)) 18 rfl rfl (hon 18 (by kernel_rfl)) rfl
            replace ha := Aside0.mk ha
            have B0 := Aside0.mk Q_B0
            refine off_ (wanted_off rfl rfl rfl (e23.trans (by first | rfl | (simp [*]; done)))) ?_
            refine hK.out _ _ ⟨(by rw [ha.out]; exact putSel_upk 23 hb_ rfl rfl rfl), Q_B0⟩
          refine steps_cons ?_ ?_
          · rintro b a w' ⟨ha, Q_B0⟩ hb_ hon hoff
            refine ⟨_, rfl, fun K hK => ?_⟩
            have e23 : a.tmps[23]? = some (.bool false) := by rw [ha]; exact putSel_on (e := (18, 23, .bool false)) 18 rfl rfl (hon 18 (by kernel_rfl)) rfl
            replace ha := Aside0.mk ha
            have B0 := Aside0.mk Q_B0
            refine off_ (wanted_off rfl rfl rfl (e23.trans (by first | rfl | (simp [*]; done)))) ?_
            refine hK.out _ _ ⟨(by rw [ha.out]; exact putSel_upk 24 hb_ rfl rfl rfl), Q_B0⟩
          refine steps_cons ?_ ?_
          · rintro b a w' ⟨ha, Q_B0⟩ hb_ hon hoff
            refine ⟨_, rfl, fun K hK => ?_⟩
            have e23 : a.tmps[23]? = some (.bool false) := by rw [ha]; exact putSel_on (e := (18, 23, .bool false)) 18 rfl rfl (hon 18 (by kernel_rfl)) rfl
            replace ha := Aside0.mk ha
            have B0 := Aside0.mk Q_B0
            refine off_ (wanted_off rfl rfl rfl (e23.trans (by first | rfl | (simp [*]; done)))) ?_
            refine hK.out _ _ ⟨(by rw [ha.out]; exact putSel_upk 25 hb_ rfl rfl rfl), Q_B0⟩
          refine steps_cons ?_ ?_
          · rintro b a w' ⟨ha, Q_B0⟩ hb_ hon hoff
            refine ⟨_, rfl, fun K hK => ?_⟩
            have e23 : a.tmps[23]? = some (.bool false) := by rw [ha]; exact putSel_on (e := (18, 23, .bool false)) 18 rfl rfl (hon 18 (by kernel_rfl)) rfl
            replace ha := Aside0.mk ha
            have B0 := Aside0.mk Q_B0
            refine off_ (wanted_off rfl rfl rfl (e23.trans (by first | rfl | (simp [*]; done)))) ?_
            refine hK.out _ _ ⟨(by rw [ha.out]; exact putSel_upk 26 hb_ rfl rfl rfl), Q_B0⟩
          refine steps_cons ?_ ?_
          · rintro b a w' ⟨ha, Q_B0⟩ hb_ hon hoff
            refine ⟨_, rfl, fun K hK => ?_⟩
            have e23 : a.tmps[23]? = some (.bool false) := by rw [ha]; exact putSel_on (e := (18, 23, .bool false)) 18 rfl rfl (hon 18 (by kernel_rfl)) rfl
            have e31 : a.tmps[31]? = some (undef) := by rw [ha]; exact putSel_on (e := (26, 31, undef)) 26 rfl rfl (hon 26 (by kernel_rfl)) rfl
            replace ha := Aside0.mk ha
            have B0 := Aside0.mk Q_B0
            refine value_ (w1 := w') (v := .bool false) (by rfl) rfl ?_ ?_
            · go_simp
              (try simp only [i64_w])
              try rfl
            refine hK.out _ _ ⟨(by rw [ha.out]; exact putSel_upk 27 hb_ rfl rfl rfl), Q_B0⟩
          refine steps_cons ?_ ?_
          · rintro b a w' ⟨ha, Q_B0⟩ hb_ hon hoff
            refine ⟨_, rfl, fun K hK => ?_⟩
            have e32 : a.tmps[32]? = some (.bool false) := by rw [ha]; exact putSel_on (e := (27, 32, .bool false)) 27 rfl rfl (hon 27 (by kernel_rfl)) rfl
            replace ha := Aside0.mk ha
            have B0 := Aside0.mk Q_B0
            refine value_ (w1 := w') (v := .bool false) (by rfl) rfl ?_ ?_
            · go_simp
              (try simp only [i64_w])
              try rfl
            refine hK.out _ _ ⟨(by rw [ha.out]; exact putSel_upk 28 hb_ rfl rfl rfl), Q_B0⟩
          exact steps_nil
        rintro b a wl hall ⟨ha, Q_B0⟩
        clear B0
        have hb0_ := hall 0 (by kernel_rfl)
        have hb1_ := hall 1 (by kernel_rfl)
        have hb2_ := hall 2 (by kernel_rfl)
        have hb3_ := hall 3 (by kernel_rfl)
        have hb4_ := hall 4 (by kernel_rfl)
        have hb5_ := hall 5 (by kernel_rfl)
        have hb6_ := hall 6 (by kernel_rfl)
        have hb7_ := hall 7 (by kernel_rfl)
        have hb8_ := hall 8 (by kernel_rfl)
        have hb9_ := hall 9 (by kernel_rfl)
        have hb10_ := hall 10 (by kernel_rfl)
        have hb11_ := hall 11 (by kernel_rfl)
        have hb12_ := hall 12 (by kernel_rfl)
        have hb13_ := hall 13 (by kernel_rfl)
        have hb14_ := hall 14 (by kernel_rfl)
        have hb15_ := hall 15 (by kernel_rfl)
        have hb16_ := hall 16 (by kernel_rfl)
        have hb17_ := hall 17 (by kernel_rfl)
        have hb18_ := hall 18 (by kernel_rfl)
        have hb19_ := hall 19 (by kernel_rfl)
        have hb20_ := hall 20 (by kernel_rfl)
        have hb21_ := hall 21 (by kernel_rfl)
        have hb22_ := hall 22 (by kernel_rfl)
        have hb23_ := hall 23 (by kernel_rfl)
        have hb24_ := hall 24 (by kernel_rfl)
        have hb25_ := hall 25 (by kernel_rfl)
        have hb26_ := hall 26 (by kernel_rfl)
        have hb27_ := hall 27 (by kernel_rfl)
        have hb28_ := hall 28 (by kernel_rfl)
        subst ha
        simp only [putSel, hb0_, hb1_, hb2_, hb3_, hb4_, hb5_, hb6_, hb7_, hb8_, hb9_, hb10_, hb11_, hb12_, hb13_, hb14_, hb15_, hb16_, hb17_, hb18_, hb19_, hb20_, hb21_, hb22_, hb23_, hb24_, hb25_, hb26_, hb27_, hb28_, if_true, Act.put, List.setIfInBounds_toArray, List.set_cons_zero, List.set_cons_succ]
        have B0 := Aside0.mk Q_B0
        clear Q_B0
        clear hall hb0_ hb1_ hb2_ hb3_ hb4_ hb5_ hb6_ hb7_ hb8_ hb9_ hb10_ hb11_ hb12_ hb13_ hb14_ hb15_ hb16_ hb17_ hb18_ hb19_ hb20_ hb21_ hb22_ hb23_ hb24_ hb25_ hb26_ hb27_ hb28_
        go_wp2_with fail
        go_ret
        rw [show D.here bk pg = false by unfold Dv.here Dv.there; rw [T1.out, T2.out, T3.out]; rfl]
        exact ⟨rfl, below_then HB2.out HB2.out.size B0.out⟩
      | true =>
        have T3 := Aside0.mk h3
        clear h3
        cases h4 : decide (pg < D.P) with
        | false =>
          have T4 := Aside0.mk h4
          clear h4
          refine start_ (n := 29) (S := fun w' => True) (ds := []) #[false, false, false, false, false, false, false, false, false, false, false, false, false, false, false, false, false, false, false, false, false, false, false, false, false, false, false, false, false] (by kernel_rfl) rfl rfl trivial (fun hHeld => ?_)
          refine with_tabW here1.tab1 here1.bits1 (fun HT_ HW_ => ?_)
          generalize W2.drew = wq at B0 hHeld ⊢
          refine inv_at [0, 1, 2, 3, 4, 5, 6, 7, 8, 9, 10, 11, 12, 13, 14, 15, 16, 17, 18, 19, 20, 21, 22, 23, 24, 25, 26, 27, 28] (fun a0_ b a w' => a = putSel a0_ b [(0, 5, .pointer (some ⟨g4, 0, none⟩)), (1, 6, .int .i64 bk), (2, 7, .bool true), (3, 8, .bool true), (4, 9, .pointer (some ⟨g4, 0, none⟩)), (5, 10, .int .i64 bk), (6, 11, .pointer (some ⟨L.g, 0, none⟩)), (7, 12, .pointer (some ⟨L.g, 0, none⟩)), (8, 13, .pointer (some ⟨L.g, 0, none⟩)), (9, 14, .pointer (some ⟨L.g, 0, none⟩)), (10, 15, .int .i64 D.B), (11, 16, .bool true), (12, 17, .bool true), (13, 18, .bool true), (14, 19, .pointer (some ⟨g4, 1, none⟩)), (15, 20, .int .i64 pg), (16, 21, .bool true), (17, 22, .bool true), (18, 23, .bool true), (19, 24, .pointer (some ⟨g4, 1, none⟩)), (20, 25, .int .i64 pg), (21, 26, .pointer (some ⟨L.g, 0, none⟩)), (22, 27, .pointer (some ⟨L.g, 0, none⟩)), (23, 28, .pointer (some ⟨L.g, 0, none⟩)), (24, 29, .pointer (some ⟨L.g, 1, none⟩)), (25, 30, .int .i64 D.P), (26, 31, .bool false), (27, 32, .bool false), (28, 4, .bool false)] ∧ (Below W2.heap.size W2 w')) HT_.out HW_.out (by kernel_rfl) (by kernel_rfl) ?_ ?_ ?_
          · exact ⟨by simp only [putSel, Bool.false_eq_true, if_false], B0.out⟩
          · skip
            clear B0
            refine steps_cons ?_ ?_
            · rintro b a w' ⟨ha, Q_B0⟩ hb_ hon hoff
              refine ⟨_, rfl, fun K hK => ?_⟩
              have e3 : a.tmps[3]? = some (.pointer (some ⟨g4, 0, none⟩)) := by rw [ha]; exact (putSel_off rfl).trans rfl
              replace ha := Aside0.mk ha
              have B0 := Aside0.mk Q_B0
              refine value_ (w1 := w') (v := .pointer (some ⟨g4, 0, none⟩)) (by rfl) rfl ?_ ?_
              · go_simp
                (try simp only [i64_w])
                try rfl
              refine hK.out _ _ ⟨(by rw [ha.out]; exact putSel_upk 0 hb_ rfl rfl rfl), Q_B0⟩
            refine steps_cons ?_ ?_
            · rintro b a w' ⟨ha, Q_B0⟩ hb_ hon hoff
              refine ⟨_, rfl, fun K hK => ?_⟩
              have e5 : a.tmps[5]? = some (.pointer (some ⟨g4, 0, none⟩)) := by rw [ha]; exact putSel_on (e := (0, 5, .pointer (some ⟨g4, 0, none⟩))) 0 rfl rfl (hon 0 (by kernel_rfl)) rfl
              replace ha := Aside0.mk ha
              have B0 := Aside0.mk Q_B0
              have c_ := blk_cell (blk_below HZ4.out B0.out) 0
              refine value_ (w1 := w') (v := .int .i64 bk) (by rfl) rfl ?_ ?_
              · go_simp
                (try simp only [i64_w])
                try rfl
              refine hK.out _ _ ⟨(by rw [ha.out]; exact putSel_upk 1 hb_ rfl rfl rfl), Q_B0⟩
            refine steps_cons ?_ ?_
            · rintro b a w' ⟨ha, Q_B0⟩ hb_ hon hoff
              refine ⟨_, rfl, fun K hK => ?_⟩
              have e6 : a.tmps[6]? = some (.int .i64 bk) := by rw [ha]; exact putSel_on (e := (1, 6, .int .i64 bk)) 1 rfl rfl (hon 1 (by kernel_rfl)) rfl
              replace ha := Aside0.mk ha
              have B0 := Aside0.mk Q_B0
              have q_ := T1.out
              refine value_ (w1 := w') (v := .bool true) (by rfl) rfl ?_ ?_
              · go_simp
                (try simp only [i64_w])
                try rfl
              refine hK.out _ _ ⟨(by rw [ha.out]; exact putSel_upk 2 hb_ rfl rfl rfl), Q_B0⟩
            refine steps_cons ?_ ?_
            · rintro b a w' ⟨ha, Q_B0⟩ hb_ hon hoff
              refine ⟨_, rfl, fun K hK => ?_⟩
              have e7 : a.tmps[7]? = some (.bool true) := by rw [ha]; exact putSel_on (e := (2, 7, .bool true)) 2 rfl rfl (hon 2 (by kernel_rfl)) rfl
              replace ha := Aside0.mk ha
              have B0 := Aside0.mk Q_B0
              refine value_ (w1 := w') (v := .bool true) (by rfl) rfl ?_ ?_
              · go_simp
                (try simp only [i64_w])
                try rfl
              refine hK.out _ _ ⟨(by rw [ha.out]; exact putSel_upk 3 hb_ rfl rfl rfl), Q_B0⟩
            refine steps_cons ?_ ?_
            · rintro b a w' ⟨ha, Q_B0⟩ hb_ hon hoff
              refine ⟨_, rfl, fun K hK => ?_⟩
              have e3 : a.tmps[3]? = some (.pointer (some ⟨g4, 0, none⟩)) := by rw [ha]; exact (putSel_off rfl).trans rfl
              have e8 : a.tmps[8]? = some (.bool true) := by rw [ha]; exact putSel_on (e := (3, 8, .bool true)) 3 rfl rfl (hon 3 (by kernel_rfl)) rfl
              replace ha := Aside0.mk ha
              have B0 := Aside0.mk Q_B0
              refine value_ (w1 := w') (v := .pointer (some ⟨g4, 0, none⟩)) (wanted_on rfl rfl rfl (e8.trans (by first | rfl | (simp [*]; done)))) rfl ?_ ?_
              · go_simp
                (try simp only [i64_w])
                try rfl
              refine hK.out _ _ ⟨(by rw [ha.out]; exact putSel_upk 4 hb_ rfl rfl rfl), Q_B0⟩
            refine steps_cons ?_ ?_
            · rintro b a w' ⟨ha, Q_B0⟩ hb_ hon hoff
              refine ⟨_, rfl, fun K hK => ?_⟩
              have e9 : a.tmps[9]? = some (.pointer (some ⟨g4, 0, none⟩)) := by rw [ha]; exact putSel_on (e := (4, 9, .pointer (some ⟨g4, 0, none⟩))) 4 rfl rfl (hon 4 (by kernel_rfl)) rfl
              have e8 : a.tmps[8]? = some (.bool true) := by rw [ha]; exact putSel_on (e := (3, 8, .bool true)) 3 rfl rfl (hon 3 (by kernel_rfl)) rfl
              replace ha := Aside0.mk ha
              have B0 := Aside0.mk Q_B0
              have c_ := blk_cell (blk_below HZ4.out B0.out) 0
              refine value_ (w1 := w') (v := .int .i64 bk) (wanted_on rfl rfl rfl (e8.trans (by first | rfl | (simp [*]; done)))) rfl ?_ ?_
              · go_simp
                (try simp only [i64_w])
                try rfl
              refine hK.out _ _ ⟨(by rw [ha.out]; exact putSel_upk 5 hb_ rfl rfl rfl), Q_B0⟩
            refine steps_cons ?_ ?_
            · rintro b a w' ⟨ha, Q_B0⟩ hb_ hon hoff
              refine ⟨_, rfl, fun K hK => ?_⟩
              have e0 : a.tmps[0]? = some (.pointer (some ⟨L.g, 0, none⟩)) := by rw [ha]; exact (putSel_off rfl).trans rfl
              have e8 : a.tmps[8]? = some (.bool true) := by rw [ha]; exact putSel_on (e := (3, 8, .bool true)) 3 rfl rfl (hon 3 (by kernel_rfl)) rfl
              replace ha := Aside0.mk ha
              have B0 := Aside0.mk Q_B0
              refine value_ (w1 := w') (v := .pointer (some ⟨L.g, 0, none⟩)) (wanted_on rfl rfl rfl (e8.trans (by first | rfl | (simp [*]; done)))) rfl ?_ ?_
              · go_simp
                (try simp only [i64_w])
                try rfl
              refine hK.out _ _ ⟨(by rw [ha.out]; exact putSel_upk 6 hb_ rfl rfl rfl), Q_B0⟩
            refine steps_cons ?_ ?_
            · rintro b a w' ⟨ha, Q_B0⟩ hb_ hon hoff
              refine ⟨_, rfl, fun K hK => ?_⟩
              have e11 : a.tmps[11]? = some (.pointer (some ⟨L.g, 0, none⟩)) := by rw [ha]; exact putSel_on (e := (6, 11, .pointer (some ⟨L.g, 0, none⟩))) 6 rfl rfl (hon 6 (by kernel_rfl)) rfl
              have e8 : a.tmps[8]? = some (.bool true) := by rw [ha]; exact putSel_on (e := (3, 8, .bool true)) 3 rfl rfl (hon 3 (by kernel_rfl)) rfl
              replace ha := Aside0.mk ha
              have B0 := Aside0.mk Q_B0
              refine value_ (w1 := w') (v := .pointer (some ⟨L.g, 0, none⟩)) (wanted_on rfl rfl rfl (e8.trans (by first | rfl | (simp [*]; done)))) rfl ?_ ?_
              · go_simp
                (try simp only [i64_w])
                try rfl
              refine hK.out _ _ ⟨(by rw [ha.out]; exact putSel_upk 7 hb_ rfl rfl rfl), Q_B0⟩
            refine steps_cons ?_ ?_
            · rintro b a w' ⟨ha, Q_B0⟩ hb_ hon hoff
              refine ⟨_, rfl, fun K hK => ?_⟩
              have e12 : a.tmps[12]? = some (.pointer (some ⟨L.g, 0, none⟩)) := by rw [ha]; exact putSel_on (e := (7, 12, .pointer (some ⟨L.g, 0, none⟩))) 7 rfl rfl (hon 7 (by kernel_rfl)) rfl
              have e8 : a.tmps[8]? = some (.bool true) := by rw [ha]; exact putSel_on (e := (3, 8, .bool true)) 3 rfl rfl (hon 3 (by kernel_rfl)) rfl
              replace ha := Aside0.mk ha
              have B0 := Aside0.mk Q_B0
              refine value_ (w1 := w') (v := .pointer (some ⟨L.g, 0, none⟩)) (wanted_on rfl rfl rfl (e8.trans (by first | rfl | (simp [*]; done)))) rfl ?_ ?_
              · go_simp
                (try simp only [i64_w])
                try rfl
              refine hK.out _ _ ⟨(by rw [ha.out]; exact putSel_upk 8 hb_ rfl rfl rfl), Q_B0⟩
            refine steps_cons ?_ ?_
            · rintro b a w' ⟨ha, Q_B0⟩ hb_ hon hoff
              refine ⟨_, rfl, fun K hK => ?_⟩
              have e13 : a.tmps[13]? = some (.pointer (some ⟨L.g, 0, none⟩)) := by rw [ha]; exact putSel_on (e := (8, 13, .pointer (some ⟨L.g, 0, none⟩))) 8 rfl rfl (hon 8 (by kernel_rfl)) rfl
              have e8 : a.tmps[8]? = some (.bool true) := by rw [ha]; exact putSel_on (e := (3, 8, .bool true)) 3 rfl rfl (hon 3 (by kernel_rfl)) rfl
              replace ha := Aside0.mk ha
              have B0 := Aside0.mk Q_B0
              refine value_ (w1 := w') (v := .pointer (some ⟨L.g, 0, none⟩)) (wanted_on rfl rfl rfl (e8.trans (by first | rfl | (simp [*]; done)))) rfl ?_ ?_
              · go_simp
                (try simp only [i64_w])
                try rfl
              refine hK.out _ _ ⟨(by rw [ha.out]; exact putSel_upk 9 hb_ rfl rfl rfl), Q_B0⟩
            refine steps_cons ?_ ?_
            · rintro b a w' ⟨ha, Q_B0⟩ hb_ hon hoff
              refine ⟨_, rfl, fun K hK => ?_⟩
              have e14 : a.tmps[14]? = some (.pointer (some ⟨L.g, 0, none⟩)) := by rw [ha]; exact putSel_on (e := (9, 14, .pointer (some ⟨L.g, 0, none⟩))) 9 rfl rfl (hon 9 (by kernel_rfl)) rfl
              have e8 : a.tmps[8]? = some (.bool true) := by rw [ha]; exact putSel_on (e := (3, 8, .bool true)) 3 rfl rfl (hon 3 (by kernel_rfl)) rfl
              replace ha := Aside0.mk ha
              have B0 := Aside0.mk Q_B0
              have c_ := (xtop_cells (H2.out.below B0.out)).1
              refine value_ (w1 := w') (v := .int .i64 D.B) (wanted_on rfl rfl rfl (e8.trans (by first | rfl | (simp [*]; done)))) rfl ?_ ?_
              · go_simp
                (try simp only [i64_w])
                try rfl
              refine hK.out _ _ ⟨(by rw [ha.out]; exact putSel_upk 10 hb_ rfl rfl rfl), Q_B0⟩
            refine steps_cons ?_ ?_
            · rintro b a w' ⟨ha, Q_B0⟩ hb_ hon hoff
              refine ⟨_, rfl, fun K hK => ?_⟩
              have e10 : a.tmps[10]? = some (.int .i64 bk) := by rw [ha]; exact putSel_on (e := (5, 10, .int .i64 bk)) 5 rfl rfl (hon 5 (by kernel_rfl)) rfl
              have e15 : a.tmps[15]? = some (.int .i64 D.B) := by rw [ha]; exact putSel_on (e := (10, 15, .int .i64 D.B)) 10 rfl rfl (hon 10 (by kernel_rfl)) rfl
              have e8 : a.tmps[8]? = some (.bool true) := by rw [ha]; exact putSel_on (e := (3, 8, .bool true)) 3 rfl rfl (hon 3 (by kernel_rfl)) rfl
              replace ha := Aside0.mk ha
              have B0 := Aside0.mk Q_B0
              have q_ := T2.out
              refine value_ (w1 := w') (v := .bool true) (wanted_on rfl rfl rfl (e8.trans (by first | rfl | (simp [*]; done)))) rfl ?_ ?_
              · go_simp
                (try simp only [i64_w])
                try rfl
              refine hK.out _ _ ⟨(by rw [ha.out]; exact putSel_upk 11 hb_ rfl rfl rfl), Q_B0⟩
            refine steps_cons ?_ ?_
            · rintro b a w' ⟨ha, Q_B0⟩ hb_ hon hoff
              refine ⟨_, rfl, fun K hK => ?_⟩
              have e8 : a.tmps[8]? = some (.bool true) := by rw [ha]; exact putSel_on (e := (3, 8, .bool true)) 3 rfl rfl (hon 3 (by kernel_rfl)) rfl
              have e16 : a.tmps[16]? = some (.bool true) := by rw [ha]; exact putSel_on (e := (11, 16, .bool true)) 11 rfl rfl (hon 11 (by kernel_rfl)) rfl
              replace ha := Aside0.mk ha
              have B0 := Aside0.mk Q_B0
              refine value_ (w1 := w') (v := .bool true) (by rfl) rfl ?_ ?_
              · go_simp
                (try simp only [i64_w])
                try rfl
              refine hK.out _ _ ⟨(by rw [ha.out]; exact putSel_upk 12 hb_ rfl rfl rfl), Q_B0⟩
            refine steps_cons ?_ ?_
            · rintro b a w' ⟨ha, Q_B0⟩ hb_ hon hoff
              refine ⟨_, rfl, fun K hK => ?_⟩
              have e17 : a.tmps[17]? = some (.bool true) := by rw [ha]; exact putSel_on (e := (12, 17, .bool true)) 12 rfl rfl (hon 12 (by kernel_rfl)) rfl
              replace ha := Aside0.mk ha
              have B0 := Aside0.mk Q_B0
              refine value_ (w1 := w') (v := .bool true) (by rfl) rfl ?_ ?_
              · go_simp
                (try simp only [i64_w])
                try rfl
              refine hK.out _ _ ⟨(by rw [ha.out]; exact putSel_upk 13 hb_ rfl rfl rfl), Q_B0⟩
            refine steps_cons ?_ ?_
            · rintro b a w' ⟨ha, Q_B0⟩ hb_ hon hoff
              refine ⟨_, rfl, fun K hK => ?_⟩
              have e3 : a.tmps[3]? = some (.pointer (some ⟨g4, 0, none⟩)) := by rw [ha]; exact (putSel_off rfl).trans rfl
              have e18 : a.tmps[18]? = some (.bool true) := by rw [ha]; exact putSel_on (e := (13, 18, .bool true)) 13 rfl rfl (hon 13 (by kernel_rfl)) rfl
              replace ha := Aside0.mk ha
              have B0 := Aside0.mk Q_B0
              refine value_ (w1 := w') (v := .pointer (some ⟨g4, 1, none⟩)) (wanted_on rfl rfl rfl (e18.trans (by first | rfl | (simp [*]; done)))) rfl ?_ ?_
              · go_simp
                (try simp only [i64_w])
                try rfl
              refine hK.out _ _ ⟨(by rw [ha.out]; exact putSel_upk 14 hb_ rfl rfl rfl), Q_B0⟩
            refine steps_cons ?_ ?_
            · rintro b a w' ⟨ha, Q_B0⟩ hb_ hon hoff
              refine ⟨_, rfl, fun K hK => ?_⟩
              have e19 : a.tmps[19]? = some (.pointer (some ⟨g4, 1, none⟩)) := by rw [ha]; exact putSel_on (e := (14, 19, .pointer (some ⟨g4, 1, none⟩))) 14 rfl rfl (hon 14 (by kernel_rfl)) rfl
              have e18 : a.tmps[18]? = some (.bool true) := by rw [ha]; exact putSel_on (e := (13, 18, .bool true)) 13 rfl rfl (hon 13 (by kernel_rfl)) rfl
              replace ha := Aside0.mk ha
              have B0 := Aside0.mk Q_B0
              have c_ := blk_cell (blk_below HZ4.out B0.out) 1
              refine value_ (w1 := w') (v := .int .i64 pg) (wanted_on rfl rfl rfl (e18.trans (by first | rfl | (simp [*]; done)))) rfl ?_ ?_
              · go_simp
                (try simp only [i64_w])
                try rfl
              refine hK.out _ _ ⟨(by rw [ha.out]; exact putSel_upk 15 hb_ rfl rfl rfl), Q_B0⟩
            refine steps_cons ?_ ?_
            · rintro b a w' ⟨ha, Q_B0⟩ hb_ hon hoff
              refine ⟨_, rfl, fun K hK => ?_⟩
              have e20 : a.tmps[20]? = some (.int .i64 pg) := by rw [ha]; exact putSel_on (e := (15, 20, .int .i64 pg)) 15 rfl rfl (hon 15 (by kernel_rfl)) rfl
              have e18 : a.tmps[18]? = some (.bool true) := by rw [ha]; exact putSel_on (e := (13, 18, .bool true)) 13 rfl rfl (hon 13 (by kernel_rfl)) rfl
              replace ha := Aside0.mk ha
              have B0 := Aside0.mk Q_B0
              have q_ := T3.out
              refine value_ (w1 := w') (v := .bool true) (wanted_on rfl rfl rfl (e18.trans (by first | rfl | (simp [*]; done)))) rfl ?_ ?_
              · go_simp
                (try simp only [i64_w])
                try rfl
              refine hK.out _ _ ⟨(by rw [ha.out]; exact putSel_upk 16 hb_ rfl rfl rfl), Q_B0⟩
            refine steps_cons ?_ ?_
            · rintro b a w' ⟨ha, Q_B0⟩ hb_ hon hoff
              refine ⟨_, rfl, fun K hK => ?_⟩
              have e18 : a.tmps[18]? = some (.bool true) := by rw [ha]; exact putSel_on (e := (13, 18, .bool true)) 13 rfl rfl (hon 13 (by kernel_rfl)) rfl
              have e21 : a.tmps[21]? = some (.bool true) := by rw [ha]; exact putSel_on (e := (16, 21, .bool true)) 16 rfl rfl (hon 16 (by kernel_rfl)) rfl
              replace ha := Aside0.mk ha
              have B0 := Aside0.mk Q_B0
              refine value_ (w1 := w') (v := .bool true) (by rfl) rfl ?_ ?_
              · go_simp
                (try simp only [i64_w])
                try rfl
              refine hK.out _ _ ⟨(by rw [ha.out]; exact putSel_upk 17 hb_ rfl rfl rfl), Q_B0⟩
            refine steps_cons ?_ ?_
            · rintro b a w' ⟨ha, Q_B0⟩ hb_ hon hoff
              refine ⟨_, rfl, fun K hK => ?_⟩
              have e22 : a.tmps[22]? = some (.bool true) := by rw [ha]; exact putSel_on (e := (17, 22, .bool true)) 17 rfl rfl (hon 17 (by kernel_rfl)) rfl
              replace ha := Aside0.mk ha
              have B0 := Aside0.mk Q_B0
              refine value_ (w1 := w') (v := .bool true) (by rfl) rfl ?_ ?_
              · go_simp
                (try simp only [i64_w])
                try rfl
              refine hK.out _ _ ⟨(by rw [ha.out]; exact putSel_upk 18 hb_ rfl rfl rfl), Q_B0⟩
            refine steps_cons ?_ ?_
            · rintro b a w' ⟨ha, Q_B0⟩ hb_ hon hoff
              refine ⟨_, rfl, fun K hK => ?_⟩
              have e3 : a.tmps[3]? = some (.pointer (some ⟨g4, 0, none⟩)) := by rw [ha]; exact (putSel_off rfl).trans rfl
              have e23 : a.tmps[23]? = some (.bool true) := by rw [ha]; exact putSel_on (e := (18, 23, .bool true)) 18 rfl rfl (hon 18 (by kernel_rfl)) rfl
              replace ha := Aside0.mk ha
              have B0 := Aside0.mk Q_B0
              refine value_ (w1 := w') (v := .pointer (some ⟨g4, 1, none⟩)) (wanted_on rfl rfl rfl (e23.trans (by first | rfl | (simp [*]; done)))) rfl ?_ ?_
              · go_simp
                (try simp only [i64_w])
                try rfl
              refine hK.out _ _ ⟨(by rw [ha.out]; exact putSel_upk 19 hb_ rfl rfl rfl), Q_B0⟩
            refine steps_cons ?_ ?_
            · rintro b a w' ⟨ha, Q_B0⟩ hb_ hon hoff
              refine ⟨_, rfl, fun K hK => ?_⟩
              have e24 : a.tmps[24]? = some (.pointer (some ⟨g4, 1, none⟩)) := by rw [ha]; exact putSel_on (e := (19, 24, .pointer (some ⟨g4, 1, none⟩))) 19 rfl rfl (hon 19 (by kernel_rfl)) rfl
              have e23 : a.tmps[23]? = some (.bool true) := by rw [ha]; exact putSel_on (e := (18, 23, .bool true)) 18 rfl rfl (hon 18 (by kernel_rfl)) rfl
              replace ha := Aside0.mk ha
              have B0 := Aside0.mk Q_B0
              have c_ := blk_cell (blk_below HZ4.out B0.out) 1
              refine value_ (w1 := w') (v := .int .i64 pg) (wanted_on rfl rfl rfl (e23.trans (by first | rfl | (simp [*]; done)))) rfl ?_ ?_
              · go_simp
                (try simp only [i64_w])
                try rfl
              refine hK.out _ _ ⟨(by rw [ha.out]; exact putSel_upk 20 hb_ rfl rfl rfl), Q_B0⟩
            refine steps_cons ?_ ?_
            · rintro b a w' ⟨ha, Q_B0⟩ hb_ hon hoff
              refine ⟨_, rfl, fun K hK => ?_⟩
              have e0 : a.tmps[0]? = some (.pointer (some ⟨L.g, 0, none⟩)) := by rw [ha]; exact (putSel_off rfl).trans rfl
              have e23 : a.tmps[23]? = some (.bool true) := by rw [ha]; exact putSel_on (e := (18, 23, .bool true)) 18 rfl rfl (hon 18 (by kernel_rfl)) rfl
              replace ha := Aside0.mk ha
              have B0 := Aside0.mk Q_B0
              refine value_ (w1 := w') (v := .pointer (some ⟨L.g, 0, none⟩)) (wanted_on rfl rfl rfl (e23.trans (by first | rfl | (simp [*]; done)))) rfl ?_ ?_
              · go_simp
                (try simp only [i64_w])
                try rfl
              refine hK.out _ _ ⟨(by rw [ha.out]; exact putSel_upk 21 hb_ rfl rfl rfl), Q_B0⟩
            refine steps_cons ?_ ?_
            · rintro b a w' ⟨ha, Q_B0⟩ hb_ hon hoff
              refine ⟨_, rfl, fun K hK => ?_⟩
              have e26 : a.tmps[26]? = some (.pointer (some ⟨L.g, 0, none⟩)) := by rw [ha]; exact putSel_on (e := (21, 26, .pointer (some ⟨L.g, 0, none⟩))) 21 rfl rfl (hon 21 (by kernel_rfl)) rfl
              have e23 : a.tmps[23]? = some (.bool true) := by rw [ha]; exact putSel_on (e := (18, 23, .bool true)) 18 rfl rfl (hon 18 (by kernel_rfl)) rfl
              replace ha := Aside0.mk ha
              have B0 := Aside0.mk Q_B0
              refine value_ (w1 := w') (v := .pointer (some ⟨L.g, 0, none⟩)) (wanted_on rfl rfl rfl (e23.trans (by first | rfl | (simp [*]; done)))) rfl ?_ ?_
              · go_simp
                (try simp only [i64_w])
                try rfl
              refine hK.out _ _ ⟨(by rw [ha.out]; exact putSel_upk 22 hb_ rfl rfl rfl), Q_B0⟩
            refine steps_cons ?_ ?_
            · rintro b a w' ⟨ha, Q_B0⟩ hb_ hon hoff
              refine ⟨_, rfl, fun K hK => ?_⟩
              have e27 : a.tmps[27]? = some (.pointer (some ⟨L.g, 0, none⟩)) := by rw [ha]; exact putSel_on (e := (22, 27, .pointer (some ⟨L.g, 0, none⟩))) 22 rfl rfl (hon 22 (by kernel_rfl)) rfl
              have e23 : a.tmps[23]? = some (.bool true) := by rw [ha]; exact putSel_on (e := (18, 23, .bool true)) 18 rfl rfl (hon 18 (by kernel_rfl)) rfl
              replace ha := Aside0.mk ha
              have B0 := Aside0.mk Q_B0
              refine value_ (w1 := w') (v := .pointer (some ⟨L.g, 0, none⟩)) (wanted_on rfl rfl rfl (e23.trans (by first | rfl | (simp [*]; done)))) rfl ?_ ?_
              · go_simp
                (try simp only [i64_w])
                try rfl
              refine hK.out _ _ ⟨(by rw [ha.out]; exact putSel_upk 23 hb_ rfl rfl rfl), Q_B0⟩
            refine steps_cons ?_ ?_
            · rintro b a w' ⟨ha, Q_B0⟩ hb_ hon hoff
              refine ⟨_, rfl, fun K hK => ?_⟩
              have e28 : a.tmps[28]? = some (.pointer (some ⟨L.g, 0, none⟩)) := by rw [ha]; exact putSel_on (e := (23, 28, .pointer (some ⟨L.g, 0, none⟩))) 23 rfl rfl (hon 23 (by kernel_rfl)) rfl
              have e23 : a.tmps[23]? = some (.bool true) := by rw [ha]; exact putSel_on (e := (18, 23, .bool true)) 18 rfl rfl (hon 18 (by kernel_rfl)) rfl
              replace ha := Aside0.mk ha
              have B0 := Aside0.mk Q_B0
              refine value_ (w1 := w') (v := .pointer (some ⟨L.g, 1, none⟩)) (wanted_on rfl rfl rfl (e23.trans (by first | rfl | (simp [*]; done)))) rfl ?_ ?_
              · go_simp
                (try simp only [i64_w])
                try rfl
              refine hK.out _ _ ⟨(by rw [ha.out]; exact putSel_upk 24 hb_ rfl rfl rfl), Q_B0⟩
            refine steps_cons ?_ ?_
            · rintro b a w' ⟨ha, Q_B0⟩ hb_ hon hoff
              refine ⟨_, rfl, fun K hK => ?_⟩
              have e29 : a.tmps[29]? = some (.pointer (some ⟨L.g, 1, none⟩)) := by rw [ha]; exact putSel_on (e := (24, 29, .pointer (some ⟨L.g, 1, none⟩))) 24 rfl rfl (hon 24 (by kernel_rfl)) rfl
              have e23 : a.tmps[23]? = some (.bool true) := by rw [ha]; exact putSel_on (e := (18, 23, .bool true)) 18 rfl rfl (hon 18 (by kernel_rfl)) rfl
              replace ha := Aside0.mk ha
              have B0 := Aside0.mk Q_B0
              have c_ := (xtop_cells (H2.out.below B0.out)).2.1
              refine value_ (w1 := w') (v := .int .i64 D.P) (wanted_on rfl rfl rfl (e23.trans (by first | rfl | (simp [*]; done)))) rfl ?_ ?_
              · go_simp
                (try simp only [i64_w])
                try rfl
              refine hK.out _ _ ⟨(by rw [ha.out]; exact putSel_upk 25 hb_ rfl rfl rfl), Q_B0⟩
            refine steps_cons ?_ ?_
            · rintro b a w' ⟨ha, Q_B0⟩ hb_ hon hoff
              refine ⟨_, rfl, fun K hK => ?_⟩
              have e25 : a.tmps[25]? = some (.int .i64 pg) := by rw [ha]; exact putSel_on (e := (20, 25, .int .i64 pg)) 20 rfl rfl (hon 20 (by kernel_rfl)) rfl
              have e30 : a.tmps[30]? = some (.int .i64 D.P) := by rw [ha]; exact putSel_on (e := (25, 30, .int .i64 D.P)) 25 rfl rfl (hon 25 (by kernel_rfl)) rfl
              have e23 : a.tmps[23]? = some (.bool true) := by rw [ha]; exact putSel_on (e := (18, 23, .bool true)) 18 rfl rfl (hon 18 (by kernel_rfl)) rfl
              replace ha := Aside0.mk ha
              have B0 := Aside0.mk Q_B0
              have q_ := T4.out
              refine value_ (w1 := w') (v := .bool false) (wanted_on rfl rfl rfl (e23.trans (by first | rfl | (simp [*]; done)))) rfl ?_ ?_
              · go_simp
                (try simp only [i64_w])
                try rfl
              refine hK.out _ _ ⟨(by rw [ha.out]; exact putSel_upk 26 hb_ rfl rfl rfl), Q_B0⟩
            refine steps_cons ?_ ?_
            · rintro b a w' ⟨ha, Q_B0⟩ hb_ hon hoff
              refine ⟨_, rfl, fun K hK => ?_⟩
              have e23 : a.tmps[23]? = some (.bool true) := by rw [ha]; exact putSel_on (e := (18, 23, .bool true)) 18 rfl rfl (hon 18 (by kernel_rfl)) rfl
              have e31 : a.tmps[31]? = some (.bool false) := by rw [ha]; exact putSel_on (e := (26, 31, .bool false)) 26 rfl rfl (hon 26 (by kernel_rfl)) rfl
              replace ha := Aside0.mk ha
              have B0 := Aside0.mk Q_B0
              refine value_ (w1 := w') (v := .bool false) (by rfl) rfl ?_ ?_
              · go_simp
                (try simp only [i64_w])
                try rfl
              refine hK.out _ _ ⟨(by rw [ha.out]; exact putSel_upk 27 hb_ rfl rfl rfl), Q_B0⟩
            refine steps_cons ?_ ?_
            · rintro b a w' ⟨ha, Q_B0⟩ hb_ hon hoff
              refine ⟨_, rfl, fun K hK => ?_⟩
              have e32 : a.tmps[32]? = some (.bool false) := by rw [ha]; exact putSel_on (e := (27, 32, .bool false)) 27 rfl rfl (hon 27 (by kernel_rfl)) rfl
              replace ha := Aside0.mk ha
              have B0 := Aside0.mk Q_B0
              refine value_ (w1 := w') (v := .bool false) (by rfl) rfl ?_ ?_
              · go_simp
                (try simp only [i64_w])
                try rfl
              refine hK.out _ _ ⟨(by rw [ha.out]; exact putSel_upk 28 hb_ rfl rfl rfl), Q_B0⟩
            exact steps_nil
          rintro b a wl hall ⟨ha, Q_B0⟩
          clear B0
          have hb0_ := hall 0 (by kernel_rfl)
          have hb1_ := hall 1 (by kernel_rfl)
          have hb2_ := hall 2 (by kernel_rfl)
          have hb3_ := hall 3 (by kernel_rfl)
          have hb4_ := hall 4 (by kernel_rfl)
          have hb5_ := hall 5 (by kernel_rfl)
          have hb6_ := hall 6 (by kernel_rfl)
          have hb7_ := hall 7 (by kernel_rfl)
          have hb8_ := hall 8 (by kernel_rfl)
          have hb9_ := hall 9 (by kernel_rfl)
          have hb10_ := hall 10 (by kernel_rfl)
          have hb11_ := hall 11 (by kernel_rfl)
          have hb12_ := hall 12 (by kernel_rfl)
          have hb13_ := hall 13 (by kernel_rfl)
          have hb14_ := hall 14 (by kernel_rfl)
          have hb15_ := hall 15 (by kernel_rfl)
          have hb16_ := hall 16 (by kernel_rfl)
          have hb17_ := hall 17 (by kernel_rfl)
          have hb18_ := hall 18 (by kernel_rfl)
          have hb19_ := hall 19 (by kernel_rfl)
          have hb20_ := hall 20 (by kernel_rfl)
          have hb21_ := hall 21 (by kernel_rfl)
          have hb22_ := hall 22 (by kernel_rfl)
          have hb23_ := hall 23 (by kernel_rfl)
          have hb24_ := hall 24 (by kernel_rfl)
          have hb25_ := hall 25 (by kernel_rfl)
          have hb26_ := hall 26 (by kernel_rfl)
          have hb27_ := hall 27 (by kernel_rfl)
          have hb28_ := hall 28 (by kernel_rfl)
          subst ha
          simp only [putSel, hb0_, hb1_, hb2_, hb3_, hb4_, hb5_, hb6_, hb7_, hb8_, hb9_, hb10_, hb11_, hb12_, hb13_, hb14_, hb15_, hb16_, hb17_, hb18_, hb19_, hb20_, hb21_, hb22_, hb23_, hb24_, hb25_, hb26_, hb27_, hb28_, if_true, Act.put, List.setIfInBounds_toArray, List.set_cons_zero, List.set_cons_succ]
          have B0 := Aside0.mk Q_B0
          clear Q_B0
          clear hall hb0_ hb1_ hb2_ hb3_ hb4_ hb5_ hb6_ hb7_ hb8_ hb9_ hb10_ hb11_ hb12_ hb13_ hb14_ hb15_ hb16_ hb17_ hb18_ hb19_ hb20_ hb21_ hb22_ hb23_ hb24_ hb25_ hb26_ hb27_ hb28_
          go_wp2_with fail
          go_ret
          rw [show D.here bk pg = false by unfold Dv.here Dv.there; rw [T1.out, T2.out, T3.out, T4.out]; rfl]
          exact ⟨rfl, below_then HB2.out HB2.out.size B0.out⟩
        | true =>
          have T4 := Aside0.mk h4
          clear h4
          refine start_ (n := 29) (S := fun w' => True) (ds := []) #[false, false, false, false, false, false, false, false, false, false, false, false, false, false, false, false, false, false, false, false, false, false, false, false, false, false, false, false, false] (by kernel_rfl) rfl rfl trivial (fun hHeld => ?_)
          refine with_tabW here1.tab1 here1.bits1 (fun HT_ HW_ => ?_)
          generalize W2.drew = wq at B0 hHeld ⊢
          refine inv_at [0, 1, 2, 3, 4, 5, 6, 7, 8, 9, 10, 11, 12, 13, 14, 15, 16, 17, 18, 19, 20, 21, 22, 23, 24, 25, 26, 27, 28] (fun a0_ b a w' => a = putSel a0_ b [(0, 5, .pointer (some ⟨g4, 0, none⟩)), (1, 6, .int .i64 bk), (2, 7, .bool true), (3, 8, .bool true), (4, 9, .pointer (some ⟨g4, 0, none⟩)), (5, 10, .int .i64 bk), (6, 11, .pointer (some ⟨L.g, 0, none⟩)), (7, 12, .pointer (some ⟨L.g, 0, none⟩)), (8, 13, .pointer (some ⟨L.g, 0, none⟩)), (9, 14, .pointer (some ⟨L.g, 0, none⟩)), (10, 15, .int .i64 D.B), (11, 16, .bool true), (12, 17, .bool true), (13, 18, .bool true), (14, 19, .pointer (some ⟨g4, 1, none⟩)), (15, 20, .int .i64 pg), (16, 21, .bool true), (17, 22, .bool true), (18, 23, .bool true), (19, 24, .pointer (some ⟨g4, 1, none⟩)), (20, 25, .int .i64 pg), (21, 26, .pointer (some ⟨L.g, 0, none⟩)), (22, 27, .pointer (some ⟨L.g, 0, none⟩)), (23, 28, .pointer (some ⟨L.g, 0, none⟩)), (24, 29, .pointer (some ⟨L.g, 1, none⟩)), (25, 30, .int .i64 D.P), (26, 31, .bool true), (27, 32, .bool true), (28, 4, .bool true)] ∧ (Below W2.heap.size W2 w')) HT_.out HW_.out (by kernel_rfl) (by kernel_rfl) ?_ ?_ ?_
          · exact ⟨by simp only [putSel, Bool.false_eq_true, if_false], B0.out⟩
          · skip
            clear B0
            refine steps_cons ?_ ?_
            · rintro b a w' ⟨ha, Q_B0⟩ hb_ hon hoff
              refine ⟨_, rfl, fun K hK => ?_⟩
              have e3 : a.tmps[3]? = some (.pointer (some ⟨g4, 0, none⟩)) := by rw [ha]; exact (putSel_off rfl).trans rfl
              replace ha := Aside0.mk ha
              have B0 := Aside0.mk Q_B0
              refine value_ (w1 := w') (v := .pointer (some ⟨g4, 0, none⟩)) (by rfl) rfl ?_ ?_
              · go_simp
                (try simp only [i64_w])
                try rfl
              refine hK.out _ _ ⟨(by rw [ha.out]; exact putSel_upk 0 hb_ rfl rfl rfl), Q_B0⟩
            refine steps_cons ?_ ?_
            · rintro b a w' ⟨ha, Q_B0⟩ hb_ hon hoff
              refine ⟨_, rfl, fun K hK => ?_⟩
              have e5 : a.tmps[5]? = some (.pointer (some ⟨g4, 0, none⟩)) := by rw [ha]; exact putSel_on (e := (0, 5, .pointer (some ⟨g4, 0, none⟩))) 0 rfl rfl (hon 0 (by kernel_rfl)) rfl
              replace ha := Aside0.mk ha
              have B0 := Aside0.mk Q_B0
              have c_ := blk_cell (blk_below HZ4.out B0.out) 0
              refine value_ (w1 := w') (v := .int .i64 bk) (by rfl) rfl ?_ ?_
              · go_simp
                (try simp only [i64_w])
                try rfl
              refine hK.out _ _ ⟨(by rw [ha.out]; exact putSel_upk 1 hb_ rfl rfl rfl), Q_B0⟩
            refine steps_cons ?_ ?_
            · rintro b a w' ⟨ha, Q_B0⟩ hb_ hon hoff
              refine ⟨_, rfl, fun K hK => ?_⟩
              have e6 : a.tmps[6]? = some (.int .i64 bk) := by rw [ha]; exact putSel_on (e := (1, 6, .int .i64 bk)) 1 rfl rfl (hon 1 (by kernel_rfl)) rfl
              replace ha := Aside0.mk ha
              have B0 := Aside0.mk Q_B0
              have q_ := T1.out
              refine value_ (w1 := w') (v := .bool true) (by rfl) rfl ?_ ?_
              · go_simp
                (try simp only [i64_w])
                try rfl
              refine hK.out _ _ ⟨(by rw [ha.out]; exact putSel_upk 2 hb_ rfl rfl rfl), Q_B0⟩
            refine steps_cons ?_ ?_
            · rintro b a w' ⟨ha, Q_B0⟩ hb_ hon hoff
              refine ⟨_, rfl, fun K hK => ?_⟩
              have e7 : a.tmps[7]? = some (.bool true) := by rw [ha]; exact putSel_on (e := (2, 7, .bool true)) 2 rfl rfl (hon 2 (by kernel_rfl)) rfl
              replace ha := Aside0.mk ha
              have B0 := Aside0.mk Q_B0
              refine value_ (w1 := w') (v := .bool true) (by rfl) rfl ?_ ?_
              · go_simp
                (try simp only [i64_w])
                try rfl
              refine hK.out _ _ ⟨(by rw [ha.out]; exact putSel_upk 3 hb_ rfl rfl rfl), Q_B0⟩
            refine steps_cons ?_ ?_
            · rintro b a w' ⟨ha, Q_B0⟩ hb_ hon hoff
              refine ⟨_, rfl, fun K hK => ?_⟩
              have e3 : a.tmps[3]? = some (.pointer (some ⟨g4, 0, none⟩)) := by rw [ha]; exact (putSel_off rfl).trans rfl
              have e8 : a.tmps[8]? = some (.bool true) := by rw [ha]; exact putSel_on (e := (3, 8, .bool true)) 3 rfl rfl (hon 3 (by kernel_rfl)) rfl
              replace ha := Aside0.mk ha
              have B0 := Aside0.mk Q_B0
              refine value_ (w1 := w') (v := .pointer (some ⟨g4, 0, none⟩)) (wanted_on rfl rfl rfl (e8.trans (by first | rfl | (simp [*]; done)))) rfl ?_ ?_
              · go_simp
                (try simp only [i64_w])
                try rfl
              refine hK.out _ _ ⟨(by rw [ha.out]; exact putSel_upk 4 hb_ rfl rfl rfl), Q_B0⟩
            refine steps_cons ?_ ?_
            · rintro b a w' ⟨ha, Q_B0⟩ hb_ hon hoff
              refine ⟨_, rfl, fun K hK => ?_⟩
              have e9 : a.tmps[9]? = some (.pointer (some ⟨g4, 0, none⟩)) := by rw [ha]; exact putSel_on (e := (4, 9, .pointer (some ⟨g4, 0, none⟩))) 4 rfl rfl (hon 4 (by kernel_rfl)) rfl
              have e8 : a.tmps[8]? = some (.bool true) := by rw [ha]; exact putSel_on (e := (3, 8, .bool true)) 3 rfl rfl (hon 3 (by kernel_rfl)) rfl
              replace ha := Aside0.mk ha
              have B0 := Aside0.mk Q_B0
              have c_ := blk_cell (blk_below HZ4.out B0.out) 0
              refine value_ (w1 := w') (v := .int .i64 bk) (wanted_on rfl rfl rfl (e8.trans (by first | rfl | (simp [*]; done)))) rfl ?_ ?_
              · go_simp
                (try simp only [i64_w])
                try rfl
              refine hK.out _ _ ⟨(by rw [ha.out]; exact putSel_upk 5 hb_ rfl rfl rfl), Q_B0⟩
            refine steps_cons ?_ ?_
            · rintro b a w' ⟨ha, Q_B0⟩ hb_ hon hoff
              refine ⟨_, rfl, fun K hK => ?_⟩
              have e0 : a.tmps[0]? = some (.pointer (some ⟨L.g, 0, none⟩)) := by rw [ha]; exact (putSel_off rfl).trans rfl
              have e8 : a.tmps[8]? = some (.bool true) := by rw [ha]; exact putSel_on (e := (3, 8, .bool true)) 3 rfl rfl (hon 3 (by kernel_rfl)) rfl
              replace ha := Aside0.mk ha
              have B0 := Aside0.mk Q_B0
              refine value_ (w1 := w') (v := .pointer (some ⟨L.g, 0, none⟩)) (wanted_on rfl rfl rfl (e8.trans (by first | rfl | (simp [*]; done)))) rfl ?_ ?_
              · go_simp
                (try simp only [i64_w])
                try rfl
              refine hK.out _ _ ⟨(by rw [ha.out]; exact putSel_upk 6 hb_ rfl rfl rfl), Q_B0⟩
            refine steps_cons ?_ ?_
            · rintro b a w' ⟨ha, Q_B0⟩ hb_ hon hoff
              refine ⟨_, rfl, fun K hK => ?_⟩
              have e11 : a.tmps[11]? = some (.pointer (some ⟨L.g, 0, none⟩)) := by rw [ha]; exact putSel_on (e := (6, 11, .pointer (some ⟨L.g, 0, none⟩))) 6 rfl rfl (hon 6 (by kernel_rfl)) rfl
              have e8 : a.tmps[8]? = some (.bool true) := by rw [ha]; exact putSel_on (e := (3, 8, .bool true)) 3 rfl rfl (hon 3 (by kernel_rfl)) rfl
              replace ha := Aside0.mk ha
              have B0 := Aside0.mk Q_B0
              refine value_ (w1 := w') (v := .pointer (some ⟨L.g, 0, none⟩)) (wanted_on rfl rfl rfl (e8.trans (by first | rfl | (simp [*]; done)))) rfl ?_ ?_
              · go_simp
                (try simp only [i64_w])
                try rfl
              refine hK.out _ _ ⟨(by rw [ha.out]; exact putSel_upk 7 hb_ rfl rfl rfl), Q_B0⟩
            refine steps_cons ?_ ?_
            · rintro b a w' ⟨ha, Q_B0⟩ hb_ hon hoff
              refine ⟨_, rfl, fun K hK => ?_⟩
              have e12 : a.tmps[12]? = some (.pointer (some ⟨L.g, 0, none⟩)) := by rw [ha]; exact putSel_on (e := (7, 12, .pointer (some ⟨L.g, 0, none⟩))) 7 rfl rfl (hon 7 (by kernel_rfl)) rfl
              have e8 : a.tmps[8]? = some (.bool true) := by rw [ha]; exact putSel_on (e := (3, 8, .bool true)) 3 rfl rfl (hon 3 (by kernel_rfl)) rfl
              replace ha := Aside0.mk ha
              have B0 := Aside0.mk Q_B0
              refine value_ (w1 := w') (v := .pointer (some ⟨L.g, 0, none⟩)) (wanted_on rfl rfl rfl (e8.trans (by first | rfl | (simp [*]; done)))) rfl ?_ ?_
              · go_simp
                (try simp only [i64_w])
                try rfl
              refine hK.out _ _ ⟨(by rw [ha.out]; exact putSel_upk 8 hb_ rfl rfl rfl), Q_B0⟩
            refine steps_cons ?_ ?_
            · rintro b a w' ⟨ha, Q_B0⟩ hb_ hon hoff
              refine ⟨_, rfl, fun K hK => ?_⟩
              have e13 : a.tmps[13]? = some (.pointer (some ⟨L.g, 0, none⟩)) := by rw [ha]; exact putSel_on (e := (8, 13, .pointer (some ⟨L.g, 0, none⟩))) 8 rfl rfl (hon 8 (by kernel_rfl)) rfl
              have e8 : a.tmps[8]? = some (.bool true) := by rw [ha]; exact putSel_on (e := (3, 8, .bool true)) 3 rfl rfl (hon 3 (by kernel_rfl)) rfl
              replace ha := Aside0.mk ha
              have B0 := Aside0.mk Q_B0
              refine value_ (w1 := w') (v := .pointer (some ⟨L.g, 0, none⟩)) (wanted_on rfl rfl rfl (e8.trans (by first | rfl | (simp [*]; done)))) rfl ?_ ?_
              · go_simp
                (try simp only [i64_w])
                try rfl
              refine hK.out _ _ ⟨(by rw [ha.out]; exact putSel_upk 9 hb_ rfl rfl rfl), Q_B0⟩
            refine steps_cons ?_ ?_
            · rintro b a w' ⟨ha, Q_B0⟩ hb_ hon hoff
              refine ⟨_, rfl, fun K hK => ?_⟩
              have e14 : a.tmps[14]? = some (.pointer (some ⟨L.g, 0, none⟩)) := by rw [ha]; exact putSel_on (e := (9, 14, .pointer (some ⟨L.g, 0, none⟩))) 9 rfl rfl (hon 9 (by kernel_rfl)) rfl
              have e8 : a.tmps[8]? = some (.bool true) := by rw [ha]; exact putSel_on (e := (3, 8, .bool true)) 3 rfl rfl (hon 3 (by kernel_rfl)) rfl
              replace ha := Aside0.mk ha
              have B0 := Aside0.mk Q_B0
              have c_ := (xtop_cells (H2.out.below B0.out)).1
              refine value_ (w1 := w') (v := .int .i64 D.B) (wanted_on rfl rfl rfl (e8.trans (by first | rfl | (simp [*]; done)))) rfl ?_ ?_
              · go_simp
                (try simp only [i64_w])
                try rfl
              refine hK.out _ _ ⟨(by rw [ha.out]; exact putSel_upk 10 hb_ rfl rfl rfl), Q_B0⟩
            refine steps_cons ?_ ?_
            · rintro b a w' ⟨ha, Q_B0⟩ hb_ hon hoff
              refine ⟨_, rfl, fun K hK => ?_⟩
              have e10 : a.tmps[10]? = some (.int .i64 bk) := by rw [ha]; exact putSel_on (e := (5, 10, .int .i64 bk)) 5 rfl rfl (hon 5 (by kernel_rfl)) rfl
              have e15 : a.tmps[15]? = some (.int .i64 D.B) := by rw [ha]; exact putSel_on (e := (10, 15, .int .i64 D.B)) 10 rfl rfl (hon 10 (by kernel_rfl)) rfl
              have e8 : a.tmps[8]? = some (.bool true) := by rw [ha]; exact putSel_on (e := (3, 8, .bool true)) 3 rfl rfl (hon 3 (by kernel_rfl)) rfl
              replace ha := Aside0.mk ha
              have B0 := Aside0.mk Q_B0
              have q_ := T2.out
              refine value_ (w1 := w') (v := .bool true) (wanted_on rfl rfl rfl (e8.trans (by first | rfl | (simp [*]; done)))) rfl ?_ ?_
              · go_simp
                (try simp only [i64_w])
                try rfl
              refine hK.out _ _ ⟨(by rw [ha.out]; exact putSel_upk 11 hb_ rfl rfl rfl), Q_B0⟩
            refine steps_cons ?_ ?_
            · rintro b a w' ⟨ha, Q_B0⟩ hb_ hon hoff
              refine ⟨_, rfl, fun K hK => ?_⟩
              have e8 : a.tmps[8]? = some (.bool true) := by rw [ha]; exact putSel_on (e := (3, 8, .bool true)) 3 rfl rfl (hon 3 (by kernel_rfl)) rfl
              have e16 : a.tmps[16]? = some (.bool true) := by rw [ha]; exact putSel_on (e := (11, 16, .bool true)) 11 rfl rfl (hon 11 (by kernel_rfl)) rfl
              replace ha := Aside0.mk ha
              have B0 := Aside0.mk Q_B0
              refine value_ (w1 := w') (v := .bool true) (by rfl) rfl ?_ ?_
              · go_simp
                (try simp only [i64_w])
                try rfl
              refine hK.out _ _ ⟨(by rw [ha.out]; exact putSel_upk 12 hb_ rfl rfl rfl), Q_B0⟩
            refine steps_cons ?_ ?_
            · rintro b a w' ⟨ha, Q_B0⟩ hb_ hon hoff
              refine ⟨_, rfl, fun K hK => ?_⟩
              have e17 : a.tmps[17]? = some (.bool true) := by rw [ha]; exact putSel_on (e := (12, 17, .bool true)) 12 rfl rfl (hon 12 (by kernel_rfl)) rfl
              replace ha := Aside0.mk ha
              have B0 := Aside0.mk Q_B0
              refine value_ (w1 := w') (v := .bool true) (by rfl) rfl ?_ ?_
              · go_simp
                (try simp only [i64_w])
                try rfl
              refine hK.out _ _ ⟨(by rw [ha.out]; exact putSel_upk 13 hb_ rfl rfl rfl), Q_B0⟩
            refine steps_cons ?_ ?_
            · rintro b a w' ⟨ha, Q_B0⟩ hb_ hon hoff
              refine ⟨_, rfl, fun K hK => ?_⟩
              have e3 : a.tmps[3]? = some (.pointer (some ⟨g4, 0, none⟩)) := by rw [ha]; exact (putSel_off rfl).trans rfl
              have e18 : a.tmps[18]? = some (.bool true) := by rw [ha]; exact putSel_on (e := (13, 18, .bool true)) 13 rfl rfl (hon 13 (by kernel_rfl)) rfl
              replace ha := Aside0.mk ha
              have B0 := Aside0.mk Q_B0
              refine value_ (w1 := w') (v := .pointer (some ⟨g4, 1, none⟩)) (wanted_on rfl rfl rfl (e18.trans (by first | rfl | (simp [*]; done)))) rfl ?_ ?_
              · go_simp
                (try simp only [i64_w])
                try rfl
              refine hK.out _ _ ⟨(by rw [ha.out]; exact putSel_upk 14 hb_ rfl rfl rfl), Q_B0⟩
            refine steps_cons ?_ ?_
            · rintro b a w' ⟨ha, Q_B0⟩ hb_ hon hoff
              refine ⟨_, rfl, fun K hK => ?_⟩
              have e19 : a.tmps[19]? = some (.pointer (some ⟨g4, 1, none⟩)) := by rw [ha]; exact putSel_on (e := (14, 19, .pointer (some ⟨g4, 1, none⟩))) 14 rfl rfl (hon 14 (by kernel_rfl)) rfl
              have e18 : a.tmps[18]? = some (.bool true) := by rw [ha]; exact putSel_on (e := (13, 18, .bool true)) 13 rfl rfl (hon 13 (by kernel_rfl)) rfl
              replace ha := Aside0.mk ha
              have B0 := Aside0.mk Q_B0
              have c_ := blk_cell (blk_below HZ4.out B0.out) 1
              refine value_ (w1 := w') (v := .int .i64 pg) (wanted_on rfl rfl rfl (e18.trans (by first | rfl | (simp [*]; done)))) rfl ?_ ?_
              · go_simp
                (try simp only [i64_w])
                try rfl
              refine hK.out _ _ ⟨(by rw [ha.out]; exact putSel_upk 15 hb_ rfl rfl rfl), Q_B0⟩
            refine steps_cons ?_ ?_
            · rintro b a w' ⟨ha, Q_B0⟩ hb_ hon hoff
              refine ⟨_, rfl, fun K hK => ?_⟩
              have e20 : a.tmps[20]? = some (.int .i64 pg) := by rw [ha]; exact putSel_on (e := (15, 20, .int .i64 pg)) 15 rfl rfl (hon 15 (by kernel_rfl)) rfl
              have e18 : a.tmps[18]? = some (.bool true) := by rw [ha]; exact putSel_on (e := (13, 18, .bool true)) 13 rfl rfl (hon 13 (by kernel_rfl)) rfl
              replace ha := Aside0.mk ha
              have B0 := Aside0.mk Q_B0
              have q_ := T3.out
              refine value_ (w1 := w') (v := .bool true) (wanted_on rfl rfl rfl (e18.trans (by first | rfl | (simp [*]; done)))) rfl ?_ ?_
              · go_simp
                (try simp only [i64_w])
                try rfl
              refine hK.out _ _ ⟨(by rw [ha.out]; exact putSel_upk 16 hb_ rfl rfl rfl), Q_B0⟩
            refine steps_cons ?_ ?_
            · rintro b a w' ⟨ha, Q_B0⟩ hb_ hon hoff
              refine ⟨_, rfl, fun K hK => ?_⟩
              have e18 : a.tmps[18]? = some (.bool true) := by rw [ha]; exact putSel_on (e := (13, 18, .bool true)) 13 rfl rfl (hon 13 (by kernel_rfl)) rfl
              have e21 : a.tmps[21]? = some (.bool true) := by rw [ha]; exact putSel_on (e := (16, 21, .bool true)) 16 rfl rfl (hon 16 (by kernel_rfl)) rfl
              replace ha := Aside0.mk ha
              have B0 := Aside0.mk Q_B0
              refine value_ (w1 := w') (v := .bool true) (by rfl) rfl ?_ ?_
              · go_simp
                (try simp only [i64_w])
                try rfl
              refine hK.out _ _ ⟨(by rw [ha.out]; exact putSel_upk 17 hb_ rfl rfl rfl), Q_B0⟩
            refine steps_cons ?_ ?_
            · rintro b a w' ⟨ha, Q_B0⟩ hb_ hon hoff
              refine ⟨_, rfl, fun K hK => ?_⟩
              have e22 : a.tmps[22]? = some (.bool true) := by rw [ha]; exact putSel_on (e := (17, 22, .bool true)) 17 rfl rfl (hon 17 (by kernel_rfl)) rfl
              replace ha := Aside0.mk ha
              have B0 := Aside0.mk Q_B0
              refine value_ (w1 := w') (v := .bool true) (by rfl) rfl ?_ ?_
              · go_simp
                (try simp only [i64_w])
                try rfl
              refine hK.out _ _ ⟨(by rw [ha.out]; exact putSel_upk 18 hb_ rfl rfl rfl), Q_B0⟩
            refine steps_cons ?_ ?_
            · rintro b a w' ⟨ha, Q_B0⟩ hb_ hon hoff
              refine ⟨_, rfl, fun K hK => ?_⟩
              have e3 : a.tmps[3]? = some (.pointer (some ⟨g4, 0, none⟩)) := by rw [ha]; exact (putSel_off rfl).trans rfl
              have e23 : a.tmps[23]? = some (.bool true) := by rw [ha]; exact putSel_on (e := (18, 23, .bool true)) 18 rfl rfl (hon 18 (by kernel_rfl)) rfl
              replace ha := Aside0.mk ha
              have B0 := Aside0.mk Q_B0
              refine value_ (w1 := w') (v := .pointer (some ⟨g4, 1, none⟩)) (wanted_on rfl rfl rfl (e23.trans (by first | rfl | (simp [*]; done)))) rfl ?_ ?_
              · go_simp
                (try simp only [i64_w])
                try rfl
              refine hK.out _ _ ⟨(by rw [ha.out]; exact putSel_upk 19 hb_ rfl rfl rfl), Q_B0⟩
            refine steps_cons ?_ ?_
            · rintro b a w' ⟨ha, Q_B0⟩ hb_ hon hoff
              refine ⟨_, rfl, fun K hK => ?_⟩
              have e24 : a.tmps[24]? = some (.pointer (some ⟨g4, 1, none⟩)) := by rw [ha]; exact putSel_on (e := (19, 24, .pointer (some ⟨g4, 1, none⟩))) 19 rfl rfl (hon 19 (by kernel_rfl)) rfl
              have e23 : a.tmps[23]? = some (.bool true) := by rw [ha]; exact putSel_on (e := (18, 23, .bool true)) 18 rfl rfl (hon 18 (by kernel_rfl)) rfl
              replace ha := Aside0.mk ha
              have B0 := Aside0.mk Q_B0
              have c_ := blk_cell (blk_below HZ4.out B0.out) 1
              refine value_ (w1 := w') (v := .int .i64 pg) (wanted_on rfl rfl rfl (e23.trans (by first | rfl | (simp [*]; done)))) rfl ?_ ?_
              · go_simp
                (try simp only [i64_w])
                try rfl
              refine hK.out _ _ ⟨(by rw [ha.out]; exact putSel_upk 20 hb_ rfl rfl rfl), Q_B0⟩
            refine steps_cons ?_ ?_
            · rintro b a w' ⟨ha, Q_B0⟩ hb_ hon hoff
              refine ⟨_, rfl, fun K hK => ?_⟩
              have e0 : a.tmps[0]? = some (.pointer (some ⟨L.g, 0, none⟩)) := by rw [ha]; exact (putSel_off rfl).trans rfl
              have e23 : a.tmps[23]? = some (.bool true) := by rw [ha]; exact putSel_on (e := (18, 23, .bool true)) 18 rfl rfl (hon 18 (by kernel_rfl)) rfl
              replace ha := Aside0.mk ha
              have B0 := Aside0.mk Q_B0
              refine value_ (w1 := w') (v := .pointer (some ⟨L.g, 0, none⟩)) (wanted_on rfl rfl rfl (e23.trans (by first | rfl | (simp [*]; done)))) rfl ?_ ?_
              · go_simp
                (try simp only [i64_w])
                try rfl
              refine hK.out _ _ ⟨(by rw [ha.out]; exact putSel_upk 21 hb_ rfl rfl rfl), Q_B0⟩
            refine steps_cons ?_ ?_
            · rintro b a w' ⟨ha, Q_B0⟩ hb_ hon hoff
              refine ⟨_, rfl, fun K hK => ?_⟩
              have e26 : a.tmps[26]? = some (.pointer (some ⟨L.g, 0, none⟩)) := by rw [ha]; exact putSel_on (e := (21, 26, .pointer (some ⟨L.g, 0, none⟩))) 21 rfl rfl (hon 21 (by kernel_rfl)) rfl
              have e23 : a.tmps[23]? = some (.bool true) := by rw [ha]; exact putSel_on (e := (18, 23, .bool true)) 18 rfl rfl (hon 18 (by kernel_rfl)) rfl
              replace ha := Aside0.mk ha
              have B0 := Aside0.mk Q_B0
              refine value_ (w1 := w') (v := .pointer (some ⟨L.g, 0, none⟩)) (wanted_on rfl rfl rfl (e23.trans (by first | rfl | (simp [*]; done)))) rfl ?_ ?_
              · go_simp
                (try simp only [i64_w])
                try rfl
              refine hK.out _ _ ⟨(by rw [ha.out]; exact putSel_upk 22 hb_ rfl rfl rfl), Q_B0⟩
            refine steps_cons ?_ ?_
            · rintro b a w' ⟨ha, Q_B0⟩ hb_ hon hoff
              refine ⟨_, rfl, fun K hK => ?_⟩
              have e27 : a.tmps[27]? = some (.pointer (some ⟨L.g, 0, none⟩)) := by rw [ha]; exact putSel_on (e := (22, 27, .pointer (some ⟨L.g, 0, none⟩))) 22 rfl rfl (hon 22 (by kernel_rfl)) rfl
              have e23 : a.tmps[23]? = some (.bool true) := by rw [ha]; exact putSel_on (e := (18, 23, .bool true)) 18 rfl rfl (hon 18 (by kernel_rfl)) rfl
              replace ha := Aside0.mk ha
              have B0 := Aside0.mk Q_B0
              refine value_ (w1 := w') (v := .pointer (some ⟨L.g, 0, none⟩)) (wanted_on rfl rfl rfl (e23.trans (by first | rfl | (simp [*]; done)))) rfl ?_ ?_
              · go_simp
                (try simp only [i64_w])
                try rfl
              refine hK.out _ _ ⟨(by rw [ha.out]; exact putSel_upk 23 hb_ rfl rfl rfl), Q_B0⟩
            refine steps_cons ?_ ?_
            · rintro b a w' ⟨ha, Q_B0⟩ hb_ hon hoff
              refine ⟨_, rfl, fun K hK => ?_⟩
              have e28 : a.tmps[28]? = some (.pointer (some ⟨L.g, 0, none⟩)) := by rw [ha]; exact putSel_on (e := (23, 28, .pointer (some ⟨L.g, 0, none⟩))) 23 rfl rfl (hon 23 (by kernel_rfl)) rfl
              have e23 : a.tmps[23]? = some (.bool true) := by rw [ha]; exact putSel_on (e := (18, 23, .bool true)) 18 rfl rfl (hon 18 (by kernel_rfl)) rfl
              replace ha := Aside0.mk ha
              have B0 := Aside0.mk Q_B0
              refine value_ (w1 := w') (v := .pointer (some ⟨L.g, 1, none⟩)) (wanted_on rfl rfl rfl (e23.trans (by first | rfl | (simp [*]; done)))) rfl ?_ ?_
              · go_simp
                (try simp only [i64_w])
                try rfl
              refine hK.out _ _ ⟨(by rw [ha.out]; exact putSel_upk 24 hb_ rfl rfl rfl), Q_B0⟩
            refine steps_cons ?_ ?_
            · rintro b a w' ⟨ha, Q_B0⟩ hb_ hon hoff
              refine ⟨_, rfl, fun K hK => ?_⟩
              have e29 : a.tmps[29]? = some (.pointer (some ⟨L.g, 1, none⟩)) := by rw [ha]; exact putSel_on (e := (24, 29, .pointer (some ⟨L.g, 1, none⟩))) 24 rfl rfl (hon 24 (by kernel_rfl)) rfl
              have e23 : a.tmps[23]? = some (.bool true) := by rw [ha]; exact putSel_on (e := (18, 23, .bool true)) 18 rfl rfl (hon 18 (by kernel_rfl)) rfl
              replace ha := Aside0.mk ha
              have B0 := Aside0.mk Q_B0
              have c_ := (xtop_cells (H2.out.below B0.out)).2.1
              refine value_ (w1 := w') (v := .int .i64 D.P) (wanted_on rfl rfl rfl (e23.trans (by first | rfl | (simp [*]; done)))) rfl ?_ ?_
              · go_simp
                (try simp only [i64_w])
                try rfl
              refine hK.out _ _ ⟨(by rw [ha.out]; exact putSel_upk 25 hb_ rfl rfl rfl), Q_B0⟩
            refine steps_cons ?_ ?_
            · rintro b a w' ⟨ha, Q_B0⟩ hb_ hon hoff
              refine ⟨_, rfl, fun K hK => ?_⟩
              have e25 : a.tmps[25]? = some (.int .i64 pg) := by rw [ha]; exact putSel_on (e := (20, 25, .int .i64 pg)) 20 rfl rfl (hon 20 (by kernel_rfl)) rfl
              have e30 : a.tmps[30]? = some (.int .i64 D.P) := by rw [ha]; exact putSel_on (e := (25, 30, .int .i64 D.P)) 25 rfl rfl (hon 25 (by kernel_rfl)) rfl
              have e23 : a.tmps[23]? = some (.bool true) := by rw [ha]; exact putSel_on (e := (18, 23, .bool true)) 18 rfl rfl (hon 18 (by kernel_rfl)) rfl
              replace ha := Aside0.mk ha
              have B0 := Aside0.mk Q_B0
              have q_ := T4.out
              refine value_ (w1 := w') (v := .bool true) (wanted_on rfl rfl rfl (e23.trans (by first | rfl | (simp [*]; done)))) rfl ?_ ?_
              · go_simp
                (try simp only [i64_w])
                try rfl
              refine hK.out _ _ ⟨(by rw [ha.out]; exact putSel_upk 26 hb_ rfl rfl rfl), Q_B0⟩
            refine steps_cons ?_ ?_
            · rintro b a w' ⟨ha, Q_B0⟩ hb_ hon hoff
              refine ⟨_, rfl, fun K hK => ?_⟩
              have e23 : a.tmps[23]? = some (.bool true) := by rw [ha]; exact putSel_on (e := (18, 23, .bool true)) 18 rfl rfl (hon 18 (by kernel_rfl)) rfl
              have e31 : a.tmps[31]? = some (.bool true) := by rw [ha]; exact putSel_on (e := (26, 31, .bool true)) 26 rfl rfl (hon 26 (by kernel_rfl)) rfl
              replace ha := Aside0.mk ha
              have B0 := Aside0.mk Q_B0
              refine value_ (w1 := w') (v := .bool true) (by rfl) rfl ?_ ?_
              · go_simp
                (try simp only [i64_w])
                try rfl
              refine hK.out _ _ ⟨(by rw [ha.out]; exact putSel_upk 27 hb_ rfl rfl rfl), Q_B0⟩
            refine steps_cons ?_ ?_
            · rintro b a w' ⟨ha, Q_B0⟩ hb_ hon hoff
              refine ⟨_, rfl, fun K hK => ?_⟩
              have e32 : a.tmps[32]? = some (.bool true) := by rw [ha]; exact putSel_on (e := (27, 32, .bool true)) 27 rfl rfl (hon 27 (by kernel_rfl)) rfl
              replace ha := Aside0.mk ha
              have B0 := Aside0.mk Q_B0
              refine value_ (w1 := w') (v := .bool true) (by rfl) rfl ?_ ?_
              · go_simp
                (try simp only [i64_w])
                try rfl
              refine hK.out _ _ ⟨(by rw [ha.out]; exact putSel_upk 28 hb_ rfl rfl rfl), Q_B0⟩
            exact steps_nil
          rintro b a wl hall ⟨ha, Q_B0⟩
          clear B0
          have hb0_ := hall 0 (by kernel_rfl)
          have hb1_ := hall 1 (by kernel_rfl)
          have hb2_ := hall 2 (by kernel_rfl)
          have hb3_ := hall 3 (by kernel_rfl)
          have hb4_ := hall 4 (by kernel_rfl)
          have hb5_ := hall 5 (by kernel_rfl)
          have hb6_ := hall 6 (by kernel_rfl)
          have hb7_ := hall 7 (by kernel_rfl)
          have hb8_ := hall 8 (by kernel_rfl)
          have hb9_ := hall 9 (by kernel_rfl)
          have hb10_ := hall 10 (by kernel_rfl)
          have hb11_ := hall 11 (by kernel_rfl)
          have hb12_ := hall 12 (by kernel_rfl)
          have hb13_ := hall 13 (by kernel_rfl)
          have hb14_ := hall 14 (by kernel_rfl)
          have hb15_ := hall 15 (by kernel_rfl)
          have hb16_ := hall 16 (by kernel_rfl)
          have hb17_ := hall 17 (by kernel_rfl)
          have hb18_ := hall 18 (by kernel_rfl)
          have hb19_ := hall 19 (by kernel_rfl)
          have hb20_ := hall 20 (by kernel_rfl)
          have hb21_ := hall 21 (by kernel_rfl)
          have hb22_ := hall 22 (by kernel_rfl)
          have hb23_ := hall 23 (by kernel_rfl)
          have hb24_ := hall 24 (by kernel_rfl)
          have hb25_ := hall 25 (by kernel_rfl)
          have hb26_ := hall 26 (by kernel_rfl)
          have hb27_ := hall 27 (by kernel_rfl)
          have hb28_ := hall 28 (by kernel_rfl)
          subst ha
          simp only [putSel, hb0_, hb1_, hb2_, hb3_, hb4_, hb5_, hb6_, hb7_, hb8_, hb9_, hb10_, hb11_, hb12_, hb13_, hb14_, hb15_, hb16_, hb17_, hb18_, hb19_, hb20_, hb21_, hb22_, hb23_, hb24_, hb25_, hb26_, hb27_, hb28_, if_true, Act.put, List.setIfInBounds_toArray, List.set_cons_zero, List.set_cons_succ]
          have B0 := Aside0.mk Q_B0
          clear Q_B0
          clear hall hb0_ hb1_ hb2_ hb3_ hb4_ hb5_ hb6_ hb7_ hb8_ hb9_ hb10_ hb11_ hb12_ hb13_ hb14_ hb15_ hb16_ hb17_ hb18_ hb19_ hb20_ hb21_ hb22_ hb23_ hb24_ hb25_ hb26_ hb27_ hb28_
          go_wp2_with fail
          go_ret
          rw [show D.here bk pg = true by unfold Dv.here Dv.there; rw [T1.out, T2.out, T3.out, T4.out]; rfl]
          exact ⟨rfl, below_then HB2.out HB2.out.size B0.out⟩
end Go.Proofs.Ytnchdmidaigheaa.ND
namespace Go.Proofs.Ytnchdmidaigheaa.ND
set_option linter.unusedVariables false
set_option linter.unusedSimpArgs false
open Go.RowKit Go.Proofs.Ytnchdmidaigheaa.Hp Go.Proofs.YtnchdmidaigheaaW.PrintWords Go.Proofs.YtnchdmidaigheaaW.PrintLast Go.Proofs.YtnchdmidaigheaaW.PrintMore
def xfault8.T8 : Bool × List (List Nat × List Nat) := (true, [([], []), ([0], [0]), ([], []), ([2], [2]), ([1, 0, 1], [1]), ([3, 4, 0, 1, 2, 3, 4], [3])])
def xfault8.B8 : List Nat := [0, 1, 0, 4, 3, 31]
theorem xfault8.tab8 : rtab .any (opsOf Try.f75 8) = xfault8.T8 := by kernel_rfl
theorem xfault8.bits8 : waitsOk xfault8.T8.2 xfault8.B8 = true := by kernel_rfl
theorem litF {W : World} {g T : Nat} {k : IntKind} {x : Int} {ok : Nat → Prop} (h : W.heap[g]? = some (.cells #[.int k x] T (0, 0))) (ho : ok g) : Kd.F (Kd.int k) W ok (some ⟨g, 0, none⟩) 1 [x] := fun W' hW =>
  ⟨rfl, by decide, fun _ => ⟨_, rfl, fun j p hp => by
    have hj : j = 0 := by have := (List.getElem?_eq_some_iff.1 hp).1; simp at this; exact this
    subst hj
    obtain rfl : x = p := by simpa using hp
    exact ⟨[.int k x], rfl, rfl, fun i u hu => by
      have hi : i = 0 := by have := (List.getElem?_eq_some_iff.1 hu).1; simp at this; exact this
      subst hi
      rw [add_plain]
      exact (blk_cell ((hW g ho (blk_lt h)).trans h) 0).trans hu⟩⟩⟩
set_option maxHeartbeats 2000000 in
set_option maxRecDepth 100000 in
theorem xfault_calls {W : World} {ok : Nat → Prop} {L : XLay} {D : Dv} (h : XV W ok L D) :
    Calls Try.prog 75 #[.pointer (some ⟨L.g, 0, none⟩)] W fun e w' => ∃ A c, e = .returned (.tuple #[.int .i64 D.fault.1, .slice A D.fault.2.length c]) ∧ D.fault.2.length ≤ c ∧ Kd.F (Kd.int .u8) w' (newer W ok) A D.fault.2.length D.fault.2 ∧ XV w' ok L { D with ops := wrap64 (D.ops + 1) } ∧ Turn W w' L.S := by
  have H1 := Aside0.mk (h.set_ops (wrap64 (D.ops + 1)))
  have T1 := Aside0.mk ((Turn.refl W L.S).setCell (p := ⟨L.g, 8, none⟩) (.inl (.inl rfl)) (.int .i64 (wrap64 (D.ops + 1))))
  have c8 := (xtop_cells h).2.2.2.2.2.2.2.2.1
  have f8 := blk_frozen h.top 8
  have HLT := Aside0.mk h.ok.fl
  clear h
  go_enter Try.func75, Try.ntmps75
  go_upto_region 3 with fail
  generalize W.setCell ⟨L.g, 8, none⟩ (.int .i64 (wrap64 (D.ops + 1))) = W1 at H1 T1 ⊢
  clear c8 f8
  go_wp2_with fail
  go_loopg [5] (D.faults.length + 1) (fun kq v5 w' => ∃ i : Nat, v5 = .int .i64 (i : Int) ∧ Aside0 (i ≤ D.faults.length ∧ kq + i = D.faults.length + 1 ∧ ∀ f ∈ D.faults.take i, onF f D.ops = false) ∧ Aside0 (Below W1.heap.size W1 w'))
  case atStart => exact ⟨0, rfl, ⟨Nat.zero_le _, rfl, by simp⟩, ⟨Below.refl _ _⟩⟩
  case round =>
    obtain ⟨i, rfl, HI, BB⟩ := hrel
    have c7 := (xtop_cells (H1.out.below BB.out)).2.2.2.2.2.2.2.1
    by_cases hi : i < D.faults.length
    case neg =>
      have hie : i = D.faults.length := by have := HI.out.1; omega
      have t1 : decide ((i : Int) < (D.faults.length : Int)) = false := decide_eq_false (by omega)
      have t2 : decide (i < D.faults.length) = false := decide_eq_false (by omega)
      have HF : Aside0 (D.fault = (0, [255])) := ⟨fault_none (by have := HI.out.2.2; rwa [hie, List.take_length] at this)⟩
      have hz9 := heap_alloc_new wr (.cells #[.int .u8 255] 5)
      have hb9 := below_alloc (Below.refl wr.heap.size wr) (.cells #[.int .u8 255] 5)
      have hT := (T1.out.below BB.out).below hb9
      have hF9 := litF (ok := newer W ok) hz9 (.inr (Nat.le_trans T1.out.size BB.out.size))
      have H9 := Aside0.mk (And.intro hF9 (And.intro ((H1.out.below BB.out).below hb9) hT))
      clear hi hie hz9 hb9 hT hF9
      go_wp2_with fail
      go_ret2
      rw [HF.out]
      exact ⟨_, 1, rfl, Nat.le_refl _, H9.out.1, H9.out.2.1, H9.out.2.2⟩
    case pos =>
      have t1 : decide ((i : Int) < (D.faults.length : Int)) = true := decide_eq_true (by omega)
      have t2 : decide (i < D.faults.length) = true := decide_eq_true (by omega)
      have p1 := eq_true (show (0 : Int) ≤ (i : Int) by omega)
      have q1 := eq_true (show (i : Int) < (D.faults.length : Int) by omega)
      obtain ⟨ad, cs, hA, hcl, hFK, hcc, _⟩ := Kd.F_get (H1.out.below BB.out).fl.1 z65 (i : Int) (by omega) (show (i : Int) < ((D.faults.length : Nat) : Int) by omega)
      obtain ⟨A2, c2, rfl, l2, g2⟩ := k65_openF hFK
      obtain ⟨x, hx⟩ : ∃ x, x = rd_T65 D.faults (i : Int) := ⟨_, rfl⟩
      have hx' : D.faults.getD (i : Int).toNat z65 = x := hx.symm
      rw [hx'] at hcc l2 g2
      have hx0 : wr.cell? (ad.add (i * 3)) = some (.int .i64 x.f0) := by have := hcc 0 _ rfl; rwa [Int.toNat_natCast] at this
      have hx1 : wr.cell? ⟨(ad.add (i * 3)).block, (ad.add (i * 3)).off + 1, none⟩ = some (.int .i64 x.f1) := by have := hcc 1 _ rfl; rw [Int.toNat_natCast] at this; rw [← add_field _ _ 1 (by omega)]; exact this
      have hx2 : wr.cell? ⟨(ad.add (i * 3)).block, (ad.add (i * 3)).off + 2, none⟩ = some (.slice A2 x.f2.length c2) := by have := hcc 2 _ rfl; rw [Int.toNat_natCast] at this; rw [← add_field _ _ 2 (by omega)]; exact this
      have HA := Aside0.mk hA
      have HX := Aside0.mk (And.intro hx (And.intro l2 g2))
      have hA' : L.Af = some ad := hA
      rw [hA'] at c7
      clear hA hA' hcl hFK hcc hx hx' l2 g2
      have hz6 := heap_alloc_new wr (.cells #[.int .i64 x.f0, .int .i64 x.f1, .slice A2 x.f2.length c2] 65)
      have hb6 := below_alloc BB.out (.cells #[.int .i64 x.f0, .int .i64 x.f1, .slice A2 x.f2.length c2] 65)
      have hg6 := Kd.F_alloc HX.out.2.2 (.cells #[.int .i64 x.f0, .int .i64 x.f1, .slice A2 x.f2.length c2] 65)
      go_upto_region 7 with fail
      generalize wr.alloc (.cells #[.int .i64 x.f0, .int .i64 x.f1, .slice A2 x.f2.length c2] 65) = W6 at hz6 hb6 hg6 ⊢
      generalize wr.heap.size = h6 at hz6 ⊢
      have HB6 := Aside0.mk hb6
      have HG6 := Aside0.mk hg6
      have HZ6 := Aside0.mk hz6
      have x0 := blk_cell hz6 0
      have x1 := blk_cell hz6 1
      have HI2 := Aside0.mk hi
      obtain ⟨hw5, hw6⟩ := wrap_id (x := (i : Int) + 1) (by omega) (by have := HLT.out; omega)
      clear hx0 hx1 hx2 p1 q1 t1 t2 hb6 hg6 hz6 hi c7
      cases e1 : (x.f0 == D.ops) with
      | false =>
        have HO : Aside0 (onF x D.ops = false) := ⟨by unfold onF; rw [e1]; rfl⟩
        go_wp2_with fail
        go_roundg (D.faults.length - i)
        case measure => have := HI.out.2.1; have := HI2.out; omega
        case rel => exact ⟨i + 1, by first | rfl | simp, ⟨HI2.out, by have := HI.out.2.1; have := HI2.out; omega, take_on HI2.out HI.out.2.2 (HX.out.1 ▸ HO.out)⟩, HB6⟩
      | true =>
        cases e2 : (x.f1 == 1) with
        | true =>
          have HO : Aside0 (onF x D.ops = true) := ⟨by unfold onF; rw [e1, e2]; rfl⟩
          go_upto_region 8 with fail
          have B0 := Aside0.mk (below_drew1 (Below.refl W6.heap.size W6))
          have Z6 := Aside0.mk (blk_drew HZ6.out)
          clear x0 x1
          refine start_ (n := 6) (S := fun w' => True) (ds := []) #[false, false, false, false, false, false] (by kernel_rfl) rfl rfl trivial (fun hHeld => ?_)
          refine with_tabW xfault8.tab8 xfault8.bits8 (fun HT_ HW_ => ?_)
          generalize W6.drew = wq at B0 Z6 hHeld ⊢
          refine inv_at [0, 1, 2, 3, 4, 5] (fun a0_ b a w' => a = putSel a0_ b [(0, 49, .pointer (some ⟨h6, 1, none⟩)), (1, 50, .int .i64 x.f1), (2, 51, .pointer (some ⟨h6, 2, none⟩)), (3, 52, .slice A2 x.f2.length c2), (4, 2, .int .i64 x.f1), (5, 3, .slice A2 x.f2.length c2)] ∧ (Below W6.heap.size W6 w') ∧ (w'.heap[h6]? = some (.cells #[.int .i64 x.f0, .int .i64 x.f1, .slice A2 x.f2.length c2] 65 (0, 0)))) HT_.out HW_.out (by kernel_rfl) (by kernel_rfl) ?_ ?_ ?_
          · exact ⟨by simp only [putSel, Bool.false_eq_true, if_false], B0.out, Z6.out⟩
          · skip
            clear B0 Z6
            refine steps_cons ?_ ?_
            · rintro b a w' ⟨ha, Q_B0, Q_Z6⟩ hb_ hon hoff
              refine ⟨_, rfl, fun K hK => ?_⟩
              have e6 : a.tmps[6]? = some (.pointer (some ⟨h6, 0, none⟩)) := by rw [ha]; exact (putSel_off rfl).trans rfl
              replace ha := Aside0.mk ha
              have B0 := Aside0.mk Q_B0
              have Z6 := Aside0.mk Q_Z6
              refine value_ (w1 := w') (v := .pointer (some ⟨h6, 1, none⟩)) (by rfl) rfl ?_ ?_
              · go_simp
                (try simp only [i64_w])
                try rfl
              refine hK.out _ _ ⟨(by rw [ha.out]; exact putSel_upk 0 hb_ rfl rfl rfl), Q_B0, Q_Z6⟩
            refine steps_cons ?_ ?_
            · rintro b a w' ⟨ha, Q_B0, Q_Z6⟩ hb_ hon hoff
              refine ⟨_, rfl, fun K hK => ?_⟩
              have e49 : a.tmps[49]? = some (.pointer (some ⟨h6, 1, none⟩)) := by rw [ha]; exact putSel_on (e := (0, 49, .pointer (some ⟨h6, 1, none⟩))) 0 rfl rfl (hon 0 (by kernel_rfl)) rfl
              replace ha := Aside0.mk ha
              have B0 := Aside0.mk Q_B0
              have Z6 := Aside0.mk Q_Z6
              have c_ := blk_cell Z6.out 1
              refine value_ (w1 := w') (v := .int .i64 x.f1) (by rfl) rfl ?_ ?_
              · go_simp
                (try simp only [i64_w])
                try rfl
              refine hK.out _ _ ⟨(by rw [ha.out]; exact putSel_upk 1 hb_ rfl rfl rfl), Q_B0, Q_Z6⟩
            refine steps_cons ?_ ?_
            · rintro b a w' ⟨ha, Q_B0, Q_Z6⟩ hb_ hon hoff
              refine ⟨_, rfl, fun K hK => ?_⟩
              have e6 : a.tmps[6]? = some (.pointer (some ⟨h6, 0, none⟩)) := by rw [ha]; exact (putSel_off rfl).trans rfl
              replace ha := Aside0.mk ha
              have B0 := Aside0.mk Q_B0
              have Z6 := Aside0.mk Q_Z6
              refine value_ (w1 := w') (v := .pointer (some ⟨h6, 2, none⟩)) (by rfl) rfl ?_ ?_
              · go_simp
                (try simp only [i64_w])
                try rfl
              refine hK.out _ _ ⟨(by rw [ha.out]; exact putSel_upk 2 hb_ rfl rfl rfl), Q_B0, Q_Z6⟩
            refine steps_cons ?_ ?_
            · rintro b a w' ⟨ha, Q_B0, Q_Z6⟩ hb_ hon hoff
              refine ⟨_, rfl, fun K hK => ?_⟩
              have e51 : a.tmps[51]? = some (.pointer (some ⟨h6, 2, none⟩)) := by rw [ha]; exact putSel_on (e := (2, 51, .pointer (some ⟨h6, 2, none⟩))) 2 rfl rfl (hon 2 (by kernel_rfl)) rfl
              replace ha := Aside0.mk ha
              have B0 := Aside0.mk Q_B0
              have Z6 := Aside0.mk Q_Z6
              have c_ := blk_cell Z6.out 2
              refine value_ (w1 := w') (v := .slice A2 x.f2.length c2) (by rfl) rfl ?_ ?_
              · go_simp
                (try simp only [i64_w])
                try rfl
              refine hK.out _ _ ⟨(by rw [ha.out]; exact putSel_upk 3 hb_ rfl rfl rfl), Q_B0, Q_Z6⟩
            refine steps_cons ?_ ?_
            · rintro b a w' ⟨ha, Q_B0, Q_Z6⟩ hb_ hon hoff
              refine ⟨_, rfl, fun K hK => ?_⟩
              have e50 : a.tmps[50]? = some (.int .i64 x.f1) := by rw [ha]; exact putSel_on (e := (1, 50, .int .i64 x.f1)) 1 rfl rfl (hon 1 (by kernel_rfl)) rfl
              replace ha := Aside0.mk ha
              have B0 := Aside0.mk Q_B0
              have Z6 := Aside0.mk Q_Z6
              refine value_ (w1 := w') (v := .int .i64 x.f1) (by rfl) rfl ?_ ?_
              · go_simp
                (try simp only [i64_w])
                try rfl
              refine hK.out _ _ ⟨(by rw [ha.out]; exact putSel_upk 4 hb_ rfl rfl rfl), Q_B0, Q_Z6⟩
            refine steps_cons ?_ ?_
            · rintro b a w' ⟨ha, Q_B0, Q_Z6⟩ hb_ hon hoff
              refine ⟨_, rfl, fun K hK => ?_⟩
              have e52 : a.tmps[52]? = some (.slice A2 x.f2.length c2) := by rw [ha]; exact putSel_on (e := (3, 52, .slice A2 x.f2.length c2)) 3 rfl rfl (hon 3 (by kernel_rfl)) rfl
              replace ha := Aside0.mk ha
              have B0 := Aside0.mk Q_B0
              have Z6 := Aside0.mk Q_Z6
              refine value_ (w1 := w') (v := .slice A2 x.f2.length c2) (by rfl) rfl ?_ ?_
              · go_simp
                (try simp only [i64_w])
                try rfl
              refine hK.out _ _ ⟨(by rw [ha.out]; exact putSel_upk 5 hb_ rfl rfl rfl), Q_B0, Q_Z6⟩
            exact steps_nil
          rintro b a wl hall ⟨ha, Q_B0, Q_Z6⟩
          clear B0 Z6
          have hb0_ := hall 0 (by kernel_rfl)
          have hb1_ := hall 1 (by kernel_rfl)
          have hb2_ := hall 2 (by kernel_rfl)
          have hb3_ := hall 3 (by kernel_rfl)
          have hb4_ := hall 4 (by kernel_rfl)
          have hb5_ := hall 5 (by kernel_rfl)
          subst ha
          simp only [putSel, hb0_, hb1_, hb2_, hb3_, hb4_, hb5_, if_true, Act.put, List.setIfInBounds_toArray, List.set_cons_zero, List.set_cons_succ]
          have B0 := Aside0.mk Q_B0
          clear Q_B0
          have Z6 := Aside0.mk Q_Z6
          clear Q_Z6
          clear hall hb0_ hb1_ hb2_ hb3_ hb4_ hb5_
          go_wp2_with fail
          go_ret2
          have hT := (T1.out.below HB6.out).below B0.out
          have hf := fault_at HI2.out HI.out.2.2 (HX.out.1 ▸ HO.out)
          rw [← HX.out.1] at hf
          rw [hf]
          exact ⟨A2, c2, rfl, HX.out.2.1, Kd.F_mono (Kd.F_below HG6.out B0.out) (fun k hk => .inl hk), (H1.out.below HB6.out).below B0.out, hT⟩
        | false =>
          cases e3 : (x.f1 == 2) with
          | true =>
            have HO : Aside0 (onF x D.ops = true) := ⟨by unfold onF; rw [e1, e2, e3]; rfl⟩
            go_upto_region 8 with fail
            have B0 := Aside0.mk (below_drew1 (Below.refl W6.heap.size W6))
            have Z6 := Aside0.mk (blk_drew HZ6.out)
            clear x0 x1
            refine start_ (n := 6) (S := fun w' => True) (ds := []) #[false, false, false, false, false, false] (by kernel_rfl) rfl rfl trivial (fun hHeld => ?_)
            refine with_tabW xfault8.tab8 xfault8.bits8 (fun HT_ HW_ => ?_)
            generalize W6.drew = wq at B0 Z6 hHeld ⊢
            refine inv_at [0, 1, 2, 3, 4, 5] (fun a0_ b a w' => a = putSel a0_ b [(0, 49, .pointer (some ⟨h6, 1, none⟩)), (1, 50, .int .i64 x.f1), (2, 51, .pointer (some ⟨h6, 2, none⟩)), (3, 52, .slice A2 x.f2.length c2), (4, 2, .int .i64 x.f1), (5, 3, .slice A2 x.f2.length c2)] ∧ (Below W6.heap.size W6 w') ∧ (w'.heap[h6]? = some (.cells #[.int .i64 x.f0, .int .i64 x.f1, .slice A2 x.f2.length c2] 65 (0, 0)))) HT_.out HW_.out (by kernel_rfl) (by kernel_rfl) ?_ ?_ ?_
            · exact ⟨by simp only [putSel, Bool.false_eq_true, if_false], B0.out, Z6.out⟩
            · skip
              clear B0 Z6
              refine steps_cons ?_ ?_
              · rintro b a w' ⟨ha, Q_B0, Q_Z6⟩ hb_ hon hoff
                refine ⟨_, rfl, fun K hK => ?_⟩
                have e6 : a.tmps[6]? = some (.pointer (some ⟨h6, 0, none⟩)) := by rw [ha]; exact (putSel_off rfl).trans rfl
                replace ha := Aside0.mk ha
                have B0 := Aside0.mk Q_B0
                have Z6 := Aside0.mk Q_Z6
                refine value_ (w1 := w') (v := .pointer (some ⟨h6, 1, none⟩)) (by rfl) rfl ?_ ?_
                · go_simp
                  (try simp only [i64_w])
                  try rfl
                refine hK.out _ _ ⟨(by rw [ha.out]; exact putSel_upk 0 hb_ rfl rfl rfl), Q_B0, Q_Z6⟩
              refine steps_cons ?_ ?_
              · rintro b a w' ⟨ha, Q_B0, Q_Z6⟩ hb_ hon hoff
                refine ⟨_, rfl, fun K hK => ?_⟩
                have e49 : a.tmps[49]? = some (.pointer (some ⟨h6, 1, none⟩)) := by rw [ha]; exact putSel_on (e := (0, 49, .pointer (some ⟨h6, 1, none⟩))) 0 rfl rfl (hon 0 (by kernel_rfl)) rfl
                replace ha := Aside0.mk ha
                have B0 := Aside0.mk Q_B0
                have Z6 := Aside0.mk Q_Z6
                have c_ := blk_cell Z6.out 1
                refine value_ (w1 := w') (v := .int .i64 x.f1) (by rfl) rfl ?_ ?_
                · go_simp
                  (try simp only [i64_w])
                  try rfl
                refine hK.out _ _ ⟨(by rw [ha.out]; exact putSel_upk 1 hb_ rfl rfl rfl), Q_B0, Q_Z6⟩
              refine steps_cons ?_ ?_
              · rintro b a w' ⟨ha, Q_B0, Q_Z6⟩ hb_ hon hoff
                refine ⟨_, rfl, fun K hK => ?_⟩
                have e6 : a.tmps[6]? = some (.pointer (some ⟨h6, 0, none⟩)) := by rw [ha]; exact (putSel_off rfl).trans rfl
                replace ha := Aside0.mk ha
                have B0 := Aside0.mk Q_B0
                have Z6 := Aside0.mk Q_Z6
                refine value_ (w1 := w') (v := .pointer (some ⟨h6, 2, none⟩)) (by rfl) rfl ?_ ?_
                · go_simp
                  (try simp only [i64_w])
                  try rfl
                refine hK.out _ _ ⟨(by rw [ha.out]; exact putSel_upk 2 hb_ rfl rfl rfl), Q_B0, Q_Z6⟩
              refine steps_cons ?_ ?_
              · rintro b a w' ⟨ha, Q_B0, Q_Z6⟩ hb_ hon hoff
                refine ⟨_, rfl, fun K hK => ?_⟩
                have e51 : a.tmps[51]? = some (.pointer (some ⟨h6, 2, none⟩)) := by rw [ha]; exact putSel_on (e := (2, 51, .pointer (some ⟨h6, 2, none⟩))) 2 rfl rfl (hon 2 (by kernel_rfl)) rfl
                replace ha := Aside0.mk ha
                have B0 := Aside0.mk Q_B0
                have Z6 := Aside0.mk Q_Z6
                have c_ := blk_cell Z6.out 2
                refine value_ (w1 := w') (v := .slice A2 x.f2.length c2) (by rfl) rfl ?_ ?_
                · go_simp
                  (try simp only [i64_w])
                  try rfl
                refine hK.out _ _ ⟨(by rw [ha.out]; exact putSel_upk 3 hb_ rfl rfl rfl), Q_B0, Q_Z6⟩
              refine steps_cons ?_ ?_
              · rintro b a w' ⟨ha, Q_B0, Q_Z6⟩ hb_ hon hoff
                refine ⟨_, rfl, fun K hK => ?_⟩
                have e50 : a.tmps[50]? = some (.int .i64 x.f1) := by rw [ha]; exact putSel_on (e := (1, 50, .int .i64 x.f1)) 1 rfl rfl (hon 1 (by kernel_rfl)) rfl
                replace ha := Aside0.mk ha
                have B0 := Aside0.mk Q_B0
                have Z6 := Aside0.mk Q_Z6
                refine value_ (w1 := w') (v := .int .i64 x.f1) (by rfl) rfl ?_ ?_
                · go_simp
                  (try simp only [i64_w])
                  try rfl
                refine hK.out _ _ ⟨(by rw [ha.out]; exact putSel_upk 4 hb_ rfl rfl rfl), Q_B0, Q_Z6⟩
              refine steps_cons ?_ ?_
              · rintro b a w' ⟨ha, Q_B0, Q_Z6⟩ hb_ hon hoff
                refine ⟨_, rfl, fun K hK => ?_⟩
                have e52 : a.tmps[52]? = some (.slice A2 x.f2.length c2) := by rw [ha]; exact putSel_on (e := (3, 52, .slice A2 x.f2.length c2)) 3 rfl rfl (hon 3 (by kernel_rfl)) rfl
                replace ha := Aside0.mk ha
                have B0 := Aside0.mk Q_B0
                have Z6 := Aside0.mk Q_Z6
                refine value_ (w1 := w') (v := .slice A2 x.f2.length c2) (by rfl) rfl ?_ ?_
                · go_simp
                  (try simp only [i64_w])
                  try rfl
                refine hK.out _ _ ⟨(by rw [ha.out]; exact putSel_upk 5 hb_ rfl rfl rfl), Q_B0, Q_Z6⟩
              exact steps_nil
            rintro b a wl hall ⟨ha, Q_B0, Q_Z6⟩
            clear B0 Z6
            have hb0_ := hall 0 (by kernel_rfl)
            have hb1_ := hall 1 (by kernel_rfl)
            have hb2_ := hall 2 (by kernel_rfl)
            have hb3_ := hall 3 (by kernel_rfl)
            have hb4_ := hall 4 (by kernel_rfl)
            have hb5_ := hall 5 (by kernel_rfl)
            subst ha
            simp only [putSel, hb0_, hb1_, hb2_, hb3_, hb4_, hb5_, if_true, Act.put, List.setIfInBounds_toArray, List.set_cons_zero, List.set_cons_succ]
            have B0 := Aside0.mk Q_B0
            clear Q_B0
            have Z6 := Aside0.mk Q_Z6
            clear Q_Z6
            clear hall hb0_ hb1_ hb2_ hb3_ hb4_ hb5_
            go_wp2_with fail
            go_ret2
            have hT := (T1.out.below HB6.out).below B0.out
            have hf := fault_at HI2.out HI.out.2.2 (HX.out.1 ▸ HO.out)
            rw [← HX.out.1] at hf
            rw [hf]
            exact ⟨A2, c2, rfl, HX.out.2.1, Kd.F_mono (Kd.F_below HG6.out B0.out) (fun k hk => .inl hk), (H1.out.below HB6.out).below B0.out, hT⟩
          | false =>
            have HO : Aside0 (onF x D.ops = false) := ⟨by unfold onF; rw [e1, e2, e3]; rfl⟩
            go_wp2_with fail
            go_roundg (D.faults.length - i)
            case measure => have := HI.out.2.1; have := HI2.out; omega
            case rel => exact ⟨i + 1, by first | rfl | simp, ⟨HI2.out, by have := HI.out.2.1; have := HI2.out; omega, take_on HI2.out HI.out.2.2 (HX.out.1 ▸ HO.out)⟩, HB6⟩
end Go.Proofs.Ytnchdmidaigheaa.ND
