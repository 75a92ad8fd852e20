import Derived.Test.YtnopjcakilfepaaC13
namespace Go.Proofs.Ytnopjcakilfepaa.QS
set_option linter.unusedVariables false
set_option linter.unusedSimpArgs false
open Go.RowKit Go.Proofs.Ytnopjcakilfepaa.SS Go.Proofs.Ytnopjcakilfepaa.Hp Go.Proofs.YtnopjcakilfepaaW.PrintWords Go.Proofs.YtnopjcakilfepaaW.PrintLast Go.Proofs.YtnopjcakilfepaaW.PrintMore
def cnext.T5 : Bool × List (List Nat × List Nat) := (true, [([], []), ([], []), ([1], [1]), ([0, 0], [0]), ([2, 3, 0, 1, 2, 3], [2]), ([4, 0, 1, 2, 3, 4], [])])
def cnext.B5 : List Nat := [0, 0, 2, 1, 15, 31]
theorem cnext.tab5 : rtab .any (opsOf Try.f46 5) = cnext.T5 := by kernel_rfl
theorem cnext.bits5 : waitsOk cnext.T5.2 cnext.B5 = true := by kernel_rfl
theorem results_ctt {P : Program} {fn : Func} {p q s : Tmp} {ty : TypeId} (h : fn.results = #[.cell p ty, .tmp q, .tmp s]) (tmps : Array Value) (w : World) (g : Nat) (t : TypeId) (cs : Array Value) (fr : Nat × Nat) (d : TypeDesc) (v u : Value)
    (hp : tmps.getD p undef = .pointer (some ⟨g, 0, none⟩)) (hq : tmps.getD q undef = v) (hs : tmps.getD s undef = u) (hg : w.heap[g]? = some (.cells cs t fr))
    (hu : P.underlying ty = some d) (hd : (match d with | .struct _ | .array _ _ => true | _ => false) = true) (hi : (P.info? ty).map (·.size) = some cs.size) :
    (results fn tmps).run P w = .ok (.tuple #[.agg cs, v, u]) w := by
  have hp' : tmps[p]?.getD undef = .pointer (some ⟨g, 0, none⟩) := by simpa using hp
  have hq' : tmps[q]?.getD undef = v := by simpa using hq
  have hs' : tmps[s]?.getD undef = u := by simpa using hs
  simp [results, h, hp', hq', hs', asAddr, run_loadVar_row w g t ty cs fr d hg hu hd hi]
theorem put8_far {W : World} {g g' : Nat} {t : TypeId} {cs : Array Value} (h : W.heap[g']? = some (.cells cs t (0, 0))) (hne : g' ≠ g) (y : R0) (A7 : Option Addr) (c7 : Nat) : ((((((((W.setCell ⟨g, 0, none⟩ (.int .u64 y.f0)).setCell ⟨g, 1, none⟩ (.int .u64 y.f1)).setCell ⟨g, 2, none⟩ (.int .i64 y.f2)).setCell ⟨g, 3, none⟩ (.int .i64 y.f3)).setCell ⟨g, 4, none⟩ (.int .u64 y.f4)).setCell ⟨g, 5, none⟩ (.bool y.f5)).setCell ⟨g, 6, none⟩ (.int .i64 y.f6)).setCell ⟨g, 7, none⟩ (.slice A7 y.f7.length c7)).heap[g']? = some (.cells cs t (0, 0)) :=
  (blk_far (blk_far (blk_far (blk_far (blk_far (blk_far (blk_far (blk_far h (p := ⟨g, 0, none⟩) hne _) (p := ⟨g, 1, none⟩) hne _) (p := ⟨g, 2, none⟩) hne _) (p := ⟨g, 3, none⟩) hne _) (p := ⟨g, 4, none⟩) hne _) (p := ⟨g, 5, none⟩) hne _) (p := ⟨g, 6, none⟩) hne _) (p := ⟨g, 7, none⟩) hne _)
def nextOf (on pa : Bool) (id I : Int) (l : List R0) : R0 × Int × Bool :=
  if pa = true then (z29, 0, false) else match mineOf on id I l with
    | some x => (x, I, true)
    | none => (headOr (orderOf l), 0, !(orderOf l).isEmpty)
set_option maxHeartbeats 1000000 in
set_option maxRecDepth 100000 in
theorem cnext_calls (l : List R0) (hl : lightL l) (on pa : Bool) (id I : Int) (A : Option Addr) (cp : Nat) (w : World) (hC : Kd.C k29 w A l.length l) :
    Calls Try.prog 46 #[.agg #[.bool on, .bool pa, .int .u64 id, .int .i64 I], .slice A l.length cp] w fun e w' => ∃ (A7 : Option Addr) (c7 : Nat) (x : R0) (i : Int) (b : Bool), nextOf on pa id I l = (x, i, b) ∧ e = .returned (.tuple #[.agg #[.int .u64 x.f0, .int .u64 x.f1, .int .i64 x.f2, .int .i64 x.f3, .int .u64 x.f4, .bool x.f5, .int .i64 x.f6, .slice A7 x.f7.length c7], .int .i64 i, .bool b]) ∧
      x.f7.length ≤ c7 ∧ Kd.C (Kd.int .i64) w' A7 x.f7.length x.f7 ∧ Below w.heap.size w w' := by
  have hz0 := heap_alloc_new w (.cells #[.bool on, .bool pa, .int .u64 id, .int .i64 I] 65)
  have hb0 := below_alloc (Below.refl w.heap.size w) (.cells #[.bool on, .bool pa, .int .u64 id, .int .i64 I] 65)
  have hz1 := heap_alloc_new (w.alloc (.cells #[.bool on, .bool pa, .int .u64 id, .int .i64 I] 65)) (.cells #[.int .u64 0, .int .u64 0, .int .i64 0, .int .i64 0, .int .u64 0, .bool false, .int .i64 0, .slice none 0 0] 29)
  have hb1 := below_alloc hb0 (.cells #[.int .u64 0, .int .u64 0, .int .i64 0, .int .i64 0, .int .u64 0, .bool false, .int .i64 0, .slice none 0 0] 29)
  have hz0' := blk_alloc hz0 (.cells #[.int .u64 0, .int .u64 0, .int .i64 0, .int .i64 0, .int .u64 0, .bool false, .int .i64 0, .slice none 0 0] 29)
  have hsz : (w.alloc (.cells #[.bool on, .bool pa, .int .u64 id, .int .i64 I] 65)).heap.size = w.heap.size + 1 := by simp
  rw [hsz] at hz1
  have hgw : w.heap.size + 1 < ((w.alloc (.cells #[.bool on, .bool pa, .int .u64 id, .int .i64 I] 65)).alloc (.cells #[.int .u64 0, .int .u64 0, .int .i64 0, .int .i64 0, .int .u64 0, .bool false, .int .i64 0, .slice none 0 0] 29)).heap.size := by simp
  obtain ⟨y, hy⟩ : ∃ y, y = headOr (orderOf l) := ⟨_, rfl⟩
  have HMI := Aside0.mk (fun W (hW : Below w.heap.size w W) => mine_calls l hl on pa id I A cp W (Kd.C_below hC hW))
  have HNX := Aside0.mk (fun W (hW : Below w.heap.size w W) => next_calls2 l hl A cp W (Kd.C_below hC hW) y hy)
  obtain ⟨g, hg⟩ : ∃ g, g = w.heap.size + 1 := ⟨_, rfl⟩
  obtain ⟨g0, hg0⟩ : ∃ g0, g0 = w.heap.size := ⟨_, rfl⟩
  clear hC hl hz0 hb0 hsz
  go_enter Try.func46, Try.ntmps46
  go_upto_region 1 with fail
  rw [← hg] at hz1 hgw ⊢
  generalize ((w.alloc (.cells #[.bool on, .bool pa, .int .u64 id, .int .i64 I] 65)).alloc (.cells #[.int .u64 0, .int .u64 0, .int .i64 0, .int .i64 0, .int .u64 0, .bool false, .int .i64 0, .slice none 0 0] 29)) = W2 at hz1 hb1 hz0' hgw ⊢
  rw [← hg0] at hz0' ⊢
  have HG := Aside0.mk (And.intro hg0 (And.intro hg hgw))
  clear hg hg0 hgw
  have p0 := blk_cell hz0' 0
  have p1 := blk_cell hz0' 1
  have p2 := blk_cell hz0' 2
  have p3 := blk_cell hz0' 3
  cases pa with
  | true =>
    have HST := Aside0.mk (put8_blk hz1 z29 none 0)
    have HBS := Aside0.mk (put8_below (b := w.heap.size) (g := g) hb1 (by have := HG.out; omega) z29 none 0)
    have d0 := blk_cell hz1 0
    have e0 := blk_frozen hz1 0
    have d1 := blk_cell hz1 1
    have e1 := blk_frozen hz1 1
    have d2 := blk_cell hz1 2
    have e2 := blk_frozen hz1 2
    have d3 := blk_cell hz1 3
    have e3 := blk_frozen hz1 3
    have d4 := blk_cell hz1 4
    have e4 := blk_frozen hz1 4
    have d5 := blk_cell hz1 5
    have e5 := blk_frozen hz1 5
    have d6 := blk_cell hz1 6
    have e6 := blk_frozen hz1 6
    have d7 := blk_cell hz1 7
    have e7 := blk_frozen hz1 7
    clear hz0' hz1 hb1 HMI HNX
    go_wp2_with fail
    refine bodyPost_ret (results_ctt rfl _ _ g 29 _ (0, 0) _ _ _ rfl rfl rfl HST.out Try.underlying29 rfl (by kernel_rfl)) rfl ?_
    exact ⟨none, 0, z29, 0, false, rfl, rfl, Nat.le_refl _, Kd.C_nil _ _, HBS.out⟩
  | false =>
    have HZ0 := Aside0.mk hz0'
    have HZ1 := Aside0.mk hz1
    have HB1 := Aside0.mk hb1
    clear hz0' hz1 hb1
    cases hm : mineOf on id I l with
    | some x0 =>
      rw [hm] at HMI
      have HNO := Aside0.mk (show nextOf on false id I l = (x0, I, true) by unfold nextOf; rw [hm]; rfl)
      clear hm
      go_upto_region 4 with (go_at_call 62; refine (HMI.out _ HB1.out).mono ?_; rintro e w3 ⟨A7, c7, x, rfl, hx, hl7, hC7, hn7, hb3⟩; obtain rfl : x = x0 := hx)
      have HB4 := below_alloc (below_then HB1.out HB1.out.size hb3) (.cells #[.int .u64 x.f0, .int .u64 x.f1, .int .i64 x.f2, .int .i64 x.f3, .int .u64 x.f4, .bool x.f5, .int .i64 x.f6, .slice A7 x.f7.length c7] 29)
      have hz0 := blk_alloc (blk_below HZ0.out hb3) (.cells #[.int .u64 x.f0, .int .u64 x.f1, .int .i64 x.f2, .int .i64 x.f3, .int .u64 x.f4, .bool x.f5, .int .i64 x.f6, .slice A7 x.f7.length c7] 29)
      have hz1 := blk_alloc (blk_below HZ1.out hb3) (.cells #[.int .u64 x.f0, .int .u64 x.f1, .int .i64 x.f2, .int .i64 x.f3, .int .u64 x.f4, .bool x.f5, .int .i64 x.f6, .slice A7 x.f7.length c7] 29)
      have hh := heap_alloc_new w3 (.cells #[.int .u64 x.f0, .int .u64 x.f1, .int .i64 x.f2, .int .i64 x.f3, .int .u64 x.f4, .bool x.f5, .int .i64 x.f6, .slice A7 x.f7.length c7] 29)
      have hC4 := Kd.C_below hC7 (below_alloc (Below.refl w3.heap.size w3) (.cells #[.int .u64 x.f0, .int .u64 x.f1, .int .i64 x.f2, .int .i64 x.f3, .int .u64 x.f4, .bool x.f5, .int .i64 x.f6, .slice A7 x.f7.length c7] 29))
      have hs3 := hb3.size
      go_upto_region 5 with fail
      obtain ⟨h7, hh7⟩ : ∃ h7, h7 = w3.heap.size := ⟨_, rfl⟩
      generalize w3.alloc (.cells #[.int .u64 x.f0, .int .u64 x.f1, .int .i64 x.f2, .int .i64 x.f3, .int .u64 x.f4, .bool x.f5, .int .i64 x.f6, .slice A7 x.f7.length c7] 29) = W4 at HB4 hz0 hz1 hh hC4 ⊢
      rw [← hh7] at hh ⊢
      have NG : Aside0 (w.heap.size ≤ g ∧ h7 ≠ g ∧ g0 ≠ g) := ⟨by have := HG.out; omega⟩
      have NA : Aside0 (∀ ad, 0 < x.f7.length → A7 = some ad → ad.block ≠ g) := ⟨fun ad h1 h2 => by have := hn7 ad h1 h2; have := HG.out; omega⟩
      have HL7 := Aside0.mk hl7
      have B0 := Aside0.mk (below_drew HB4)
      have H7 := Aside0.mk (blk_drew hh)
      have HC := Aside0.mk (blk_drew hz0)
      have ZG := Aside0.mk (blk_drew hz1)
      have RC : Aside0 (Kd.C (Kd.int .i64) W4.drew A7 x.f7.length x.f7) := ⟨Kd.C_below hC4 (below_drew (Below.refl _ _))⟩
      clear HB4 hz0 hz1 hh hC4 hC7 hn7 hl7 hs3 hh7 p0 p1 p2 p3 hb3 HZ0 HZ1 HB1 HMI HNX
      refine start_ (n := 6) (S := fun w' => True) (ds := []) #[false, false, false, false, false, false] (by kernel_rfl) rfl rfl trivial (fun hHeld => ?_)
      refine with_tabW cnext.tab5 cnext.bits5 (fun HT_ HW_ => ?_)
      generalize W4.drew = wq at B0 H7 HC RC ZG hHeld ⊢
      refine inv_at [0, 1, 2, 3, 4, 5] (fun a0_ b a w' => a = putSel a0_ b [(0, 21, .agg #[.int .u64 x.f0, .int .u64 x.f1, .int .i64 x.f2, .int .i64 x.f3, .int .u64 x.f4, .bool x.f5, .int .i64 x.f6, .slice A7 x.f7.length c7]), (1, 22, .pointer (some ⟨g0, 3, none⟩)), (2, 23, .int .i64 I), (4, 5, .int .i64 I), (5, 6, .bool true)] ∧ (Below w.heap.size w w') ∧ (w'.heap[h7]? = some (.cells #[.int .u64 x.f0, .int .u64 x.f1, .int .i64 x.f2, .int .i64 x.f3, .int .u64 x.f4, .bool x.f5, .int .i64 x.f6, .slice A7 x.f7.length c7] 29 (0, 0))) ∧ (w'.heap[g0]? = some (.cells #[.bool on, .bool false, .int .u64 id, .int .i64 I] 65 (0, 0))) ∧ (Kd.C (Kd.int .i64) w' A7 x.f7.length x.f7) ∧ (b 3 = false → w'.heap[g]? = some (.cells #[.int .u64 0, .int .u64 0, .int .i64 0, .int .i64 0, .int .u64 0, .bool false, .int .i64 0, .slice none 0 0] 29 (0, 0))) ∧ (b 3 = true → w'.heap[g]? = some (.cells #[.int .u64 x.f0, .int .u64 x.f1, .int .i64 x.f2, .int .i64 x.f3, .int .u64 x.f4, .bool x.f5, .int .i64 x.f6, .slice A7 x.f7.length c7] 29 (0, 0)))) HT_.out HW_.out (by kernel_rfl) (by kernel_rfl) ?_ ?_ ?_
      · exact ⟨by simp only [putSel, Bool.false_eq_true, if_false], B0.out, H7.out, HC.out, RC.out, fun _ => ZG.out, fun h_ => absurd h_ (by decide)⟩
      · skip
        clear B0 H7 HC RC ZG
        refine steps_cons ?_ ?_
        · rintro b a w' ⟨ha, Q_B0, Q_H7, Q_HC, Q_RC, Q_ZG, Q_ST⟩ hb_ hon hoff
          refine ⟨_, rfl, fun K hK => ?_⟩
          have e7 : a.tmps[7]? = some (.pointer (some ⟨h7, 0, none⟩)) := by rw [ha]; exact (putSel_off rfl).trans rfl
          replace ha := Aside0.mk ha
          have B0 := Aside0.mk Q_B0
          have H7 := Aside0.mk Q_H7
          have HC := Aside0.mk Q_HC
          have RC := Aside0.mk Q_RC
          have ZG := Aside0.mk (Q_ZG (hoff 3 (by kernel_rfl)))
          have y0 := blk_cell H7.out 0
          have y1 := blk_cell H7.out 1
          have y2 := blk_cell H7.out 2
          have y3 := blk_cell H7.out 3
          have y4 := blk_cell H7.out 4
          have y5 := blk_cell H7.out 5
          have y6 := blk_cell H7.out 6
          have y7 := blk_cell H7.out 7
          refine value_ (w1 := w') (v := .agg #[.int .u64 x.f0, .int .u64 x.f1, .int .i64 x.f2, .int .i64 x.f3, .int .u64 x.f4, .bool x.f5, .int .i64 x.f6, .slice A7 x.f7.length c7]) (by rfl) rfl ?_ ?_
          · go_simp
            (try simp only [i64_w])
            try rfl
          refine hK.out _ _ ⟨(by rw [ha.out]; exact putSel_upk 0 hb_ rfl rfl rfl), Q_B0, Q_H7, Q_HC, Q_RC, Q_ZG, fun h0_ => absurd ((hoff 3 (by kernel_rfl)).symm.trans h0_) (by decide)⟩
        refine steps_cons ?_ ?_
        · rintro b a w' ⟨ha, Q_B0, Q_H7, Q_HC, Q_RC, Q_ZG, Q_ST⟩ hb_ hon hoff
          refine ⟨_, rfl, fun K hK => ?_⟩
          have e2 : a.tmps[2]? = some (.pointer (some ⟨g0, 0, none⟩)) := by rw [ha]; exact (putSel_off rfl).trans rfl
          replace ha := Aside0.mk ha
          have B0 := Aside0.mk Q_B0
          have H7 := Aside0.mk Q_H7
          have HC := Aside0.mk Q_HC
          have RC := Aside0.mk Q_RC
          refine value_ (w1 := w') (v := .pointer (some ⟨g0, 3, none⟩)) (by rfl) rfl ?_ ?_
          · go_simp
            (try simp only [i64_w])
            try rfl
          refine hK.out _ _ ⟨(by rw [ha.out]; exact putSel_upk 1 hb_ rfl rfl rfl), Q_B0, Q_H7, Q_HC, Q_RC, Q_ZG, Q_ST⟩
        refine steps_cons ?_ ?_
        · rintro b a w' ⟨ha, Q_B0, Q_H7, Q_HC, Q_RC, Q_ZG, Q_ST⟩ hb_ hon hoff
          refine ⟨_, rfl, fun K hK => ?_⟩
          have e22 : a.tmps[22]? = some (.pointer (some ⟨g0, 3, none⟩)) := by rw [ha]; exact putSel_on (e := (1, 22, .pointer (some ⟨g0, 3, none⟩))) 1 rfl rfl (hon 1 (by kernel_rfl)) rfl
          replace ha := Aside0.mk ha
          have B0 := Aside0.mk Q_B0
          have H7 := Aside0.mk Q_H7
          have HC := Aside0.mk Q_HC
          have RC := Aside0.mk Q_RC
          have c_ := blk_cell HC.out 3
          refine value_ (w1 := w') (v := .int .i64 I) (by rfl) rfl ?_ ?_
          · go_simp
            (try simp only [i64_w])
            try rfl
          refine hK.out _ _ ⟨(by rw [ha.out]; exact putSel_upk 2 hb_ rfl rfl rfl), Q_B0, Q_H7, Q_HC, Q_RC, Q_ZG, Q_ST⟩
        refine steps_cons ?_ ?_
        · rintro b a w' ⟨ha, Q_B0, Q_H7, Q_HC, Q_RC, Q_ZG, Q_ST⟩ hb_ hon hoff
          refine ⟨_, rfl, fun K hK => ?_⟩
          have e4 : a.tmps[4]? = some (.pointer (some ⟨g, 0, none⟩)) := by rw [ha]; exact (putSel_off rfl).trans rfl
          have e21 : a.tmps[21]? = some (.agg #[.int .u64 x.f0, .int .u64 x.f1, .int .i64 x.f2, .int .i64 x.f3, .int .u64 x.f4, .bool x.f5, .int .i64 x.f6, .slice A7 x.f7.length c7]) := by rw [ha]; exact putSel_on (e := (0, 21, .agg #[.int .u64 x.f0, .int .u64 x.f1, .int .i64 x.f2, .int .i64 x.f3, .int .u64 x.f4, .bool x.f5, .int .i64 x.f6, .slice A7 x.f7.length c7])) 0 rfl rfl (hon 0 (by kernel_rfl)) rfl
          replace ha := Aside0.mk ha
          have B0 := Aside0.mk Q_B0
          have H7 := Aside0.mk Q_H7
          have HC := Aside0.mk Q_HC
          have RC := Aside0.mk Q_RC
          have ZG := Aside0.mk (Q_ZG hb_)
          have d0 := blk_cell ZG.out 0
          have d1 := blk_cell ZG.out 1
          have d2 := blk_cell ZG.out 2
          have d3 := blk_cell ZG.out 3
          have d4 := blk_cell ZG.out 4
          have d5 := blk_cell ZG.out 5
          have d6 := blk_cell ZG.out 6
          have d7 := blk_cell ZG.out 7
          have f0 := blk_frozen ZG.out 0
          have f1 := blk_frozen ZG.out 1
          have f2 := blk_frozen ZG.out 2
          have f3 := blk_frozen ZG.out 3
          have f4 := blk_frozen ZG.out 4
          have f5 := blk_frozen ZG.out 5
          have f6 := blk_frozen ZG.out 6
          have f7 := blk_frozen ZG.out 7
          refine skip_ (w1 := ?_) (by rfl) rfl ?_ ?_
          rotate_left
          · go_simp
            rfl
          refine hK.out _ _ ⟨(by rw [ha.out]; exact putSel_none (v := undef) rfl), put8_below B0.out NG.out.1 x A7 c7, put8_far H7.out NG.out.2.1 x A7 c7, put8_far HC.out NG.out.2.2 x A7 c7, c_far8 RC.out NA.out _ _ _ _ _ _ _ _, fun h0_ => absurd ((up_self b 3).symm.trans h0_) (by decide), fun _ => put8_blk ZG.out x A7 c7⟩
        refine steps_cons ?_ ?_
        · rintro b a w' ⟨ha, Q_B0, Q_H7, Q_HC, Q_RC, Q_ZG, Q_ST⟩ hb_ hon hoff
          refine ⟨_, rfl, fun K hK => ?_⟩
          have e23 : a.tmps[23]? = some (.int .i64 I) := by rw [ha]; exact putSel_on (e := (2, 23, .int .i64 I)) 2 rfl rfl (hon 2 (by kernel_rfl)) rfl
          replace ha := Aside0.mk ha
          have B0 := Aside0.mk Q_B0
          have H7 := Aside0.mk Q_H7
          have HC := Aside0.mk Q_HC
          have RC := Aside0.mk Q_RC
          have ST := Aside0.mk (Q_ST (hon 3 (by kernel_rfl)))
          refine value_ (w1 := w') (v := .int .i64 I) (by rfl) rfl ?_ ?_
          · go_simp
            (try simp only [i64_w])
            try rfl
          refine hK.out _ _ ⟨(by rw [ha.out]; exact putSel_upk 3 hb_ rfl rfl rfl), Q_B0, Q_H7, Q_HC, Q_RC, fun h0_ => absurd ((hon 3 (by kernel_rfl)).symm.trans h0_) (by decide), Q_ST⟩
        refine steps_cons ?_ ?_
        · rintro b a w' ⟨ha, Q_B0, Q_H7, Q_HC, Q_RC, Q_ZG, Q_ST⟩ hb_ hon hoff
          refine ⟨_, rfl, fun K hK => ?_⟩
          replace ha := Aside0.mk ha
          have B0 := Aside0.mk Q_B0
          have H7 := Aside0.mk Q_H7
          have HC := Aside0.mk Q_HC
          have RC := Aside0.mk Q_RC
          have ST := Aside0.mk (Q_ST (hon 3 (by kernel_rfl)))
          refine value_ (w1 := w') (v := .bool true) (by rfl) rfl ?_ ?_
          · go_simp
            (try simp only [i64_w])
            try rfl
          refine hK.out _ _ ⟨(by rw [ha.out]; exact putSel_upk 4 hb_ rfl rfl rfl), Q_B0, Q_H7, Q_HC, Q_RC, fun h0_ => absurd ((hon 3 (by kernel_rfl)).symm.trans h0_) (by decide), Q_ST⟩
        exact steps_nil
      rintro b a wl hall ⟨ha, Q_B0, Q_H7, Q_HC, Q_RC, Q_ZG, Q_ST⟩
      clear B0 H7 HC RC ZG
      have hb0_ := hall 0 (by kernel_rfl)
      have hb1_ := hall 1 (by kernel_rfl)
      have hb2_ := hall 2 (by kernel_rfl)
      have hb3_ := hall 3 (by kernel_rfl)
      have hb4_ := hall 4 (by kernel_rfl)
      have hb5_ := hall 5 (by kernel_rfl)
      subst ha
      simp only [putSel, hb0_, hb1_, hb2_, hb3_, hb4_, hb5_, if_true, Act.put, List.setIfInBounds_toArray, List.set_cons_zero, List.set_cons_succ]
      have B0 := Aside0.mk Q_B0
      clear Q_B0
      have H7 := Aside0.mk Q_H7
      clear Q_H7
      have HC := Aside0.mk Q_HC
      clear Q_HC
      have RC := Aside0.mk Q_RC
      clear Q_RC
      clear Q_ZG
      have ST := Aside0.mk (Q_ST hb3_)
      clear Q_ST
      clear hall hb0_ hb1_ hb2_ hb3_ hb4_ hb5_
      go_wp2_with fail
      refine bodyPost_ret (results_ctt rfl _ _ g 29 _ (0, 0) _ _ _ rfl rfl rfl ST.out Try.underlying29 rfl (by kernel_rfl)) rfl ?_
      exact ⟨A7, c7, x, I, true, HNO.out, rfl, HL7.out, RC.out, B0.out⟩
    | none =>
      rw [hm] at HMI
      obtain ⟨ob, hob⟩ : ∃ ob, ob = !(orderOf l).isEmpty := ⟨_, rfl⟩
      rw [← hob] at HNX
      have HNO := Aside0.mk (show nextOf on false id I l = (y, 0, ob) by unfold nextOf; rw [hm, hy, hob]; rfl)
      clear hm hy hob
      go_upto_region 4 with (go_at_call 62; refine (HMI.out _ HB1.out).mono ?_; rintro e w3 ⟨A7, c7, x, rfl, -, hl7, hC7, hn7, hb3⟩)
      have HB4 := below_alloc (below_then HB1.out HB1.out.size hb3) (.cells #[.int .u64 x.f0, .int .u64 x.f1, .int .i64 x.f2, .int .i64 x.f3, .int .u64 x.f4, .bool x.f5, .int .i64 x.f6, .slice A7 x.f7.length c7] 29)
      have hz1 := blk_alloc (blk_below HZ1.out hb3) (.cells #[.int .u64 x.f0, .int .u64 x.f1, .int .i64 x.f2, .int .i64 x.f3, .int .u64 x.f4, .bool x.f5, .int .i64 x.f6, .slice A7 x.f7.length c7] 29)
      have hs4 : W2.heap.size ≤ (w3.alloc (.cells #[.int .u64 x.f0, .int .u64 x.f1, .int .i64 x.f2, .int .i64 x.f3, .int .u64 x.f4, .bool x.f5, .int .i64 x.f6, .slice A7 x.f7.length c7] 29)).heap.size := by have := hb3.size; simp; omega
      go_upto_region 6 with fail
      generalize w3.alloc (.cells #[.int .u64 x.f0, .int .u64 x.f1, .int .i64 x.f2, .int .i64 x.f3, .int .u64 x.f4, .bool x.f5, .int .i64 x.f6, .slice A7 x.f7.length c7] 29) = W4 at HB4 hz1 hs4 ⊢
      clear hl7 hC7 hn7 hb3 HZ0 HZ1 HB1 HMI p0 p1 p2 p3
      replace HNX := Aside0.mk (HNX.out W4 HB4)
      replace HB4 := Aside0.mk HB4
      have HZ4 := Aside0.mk hz1
      have HS4 := Aside0.mk hs4
      clear hz1 hs4
      go_upto_region 7 with (go_at_call 15; refine HNX.out.mono ?_; rintro e w5 ⟨A9, c9, rfl, hl9, hC9, hn9, hb5⟩)
      have HB6 := below_alloc (below_then HB4.out HB4.out.size hb5) (.cells #[.int .u64 y.f0, .int .u64 y.f1, .int .i64 y.f2, .int .i64 y.f3, .int .u64 y.f4, .bool y.f5, .int .i64 y.f6, .slice A9 y.f7.length c9] 29)
      have hz6 := blk_alloc (blk_below HZ4.out hb5) (.cells #[.int .u64 y.f0, .int .u64 y.f1, .int .i64 y.f2, .int .i64 y.f3, .int .u64 y.f4, .bool y.f5, .int .i64 y.f6, .slice A9 y.f7.length c9] 29)
      have hh9 := heap_alloc_new w5 (.cells #[.int .u64 y.f0, .int .u64 y.f1, .int .i64 y.f2, .int .i64 y.f3, .int .u64 y.f4, .bool y.f5, .int .i64 y.f6, .slice A9 y.f7.length c9] 29)
      have hC6 := Kd.C_below hC9 (below_alloc (Below.refl w5.heap.size w5) (.cells #[.int .u64 y.f0, .int .u64 y.f1, .int .i64 y.f2, .int .i64 y.f3, .int .u64 y.f4, .bool y.f5, .int .i64 y.f6, .slice A9 y.f7.length c9] 29))
      generalize w5.alloc (.cells #[.int .u64 y.f0, .int .u64 y.f1, .int .i64 y.f2, .int .i64 y.f3, .int .u64 y.f4, .bool y.f5, .int .i64 y.f6, .slice A9 y.f7.length c9] 29) = W6 at HB6 hz6 hh9 hC6 ⊢
      have HCF := Aside0.mk (c_far8 (g := g) hC6 (fun ad h1 h2 => by have := hn9 ad h1 h2; have := HG.out; have := HS4.out; omega) (.int .u64 y.f0) (.int .u64 y.f1) (.int .i64 y.f2) (.int .i64 y.f3) (.int .u64 y.f4) (.bool y.f5) (.int .i64 y.f6) (.slice A9 y.f7.length c9))
      have HST := Aside0.mk (put8_blk hz6 y A9 c9)
      have HBS := Aside0.mk (put8_below (b := w.heap.size) (g := g) HB6 (by have := HG.out; omega) y A9 c9)
      have HL9 := Aside0.mk hl9
      have H9 := Aside0.mk hh9
      have y0 := blk_cell H9.out 0
      have d0 := blk_cell hz6 0
      have e0 := blk_frozen hz6 0
      have y1 := blk_cell H9.out 1
      have d1 := blk_cell hz6 1
      have e1 := blk_frozen hz6 1
      have y2 := blk_cell H9.out 2
      have d2 := blk_cell hz6 2
      have e2 := blk_frozen hz6 2
      have y3 := blk_cell H9.out 3
      have d3 := blk_cell hz6 3
      have e3 := blk_frozen hz6 3
      have y4 := blk_cell H9.out 4
      have d4 := blk_cell hz6 4
      have e4 := blk_frozen hz6 4
      have y5 := blk_cell H9.out 5
      have d5 := blk_cell hz6 5
      have e5 := blk_frozen hz6 5
      have y6 := blk_cell H9.out 6
      have d6 := blk_cell hz6 6
      have e6 := blk_frozen hz6 6
      have y7 := blk_cell H9.out 7
      have d7 := blk_cell hz6 7
      have e7 := blk_frozen hz6 7
      clear hl9 hC9 hn9 hb5 HB6 hz6 hh9 hC6
      go_wp2_with fail
      refine bodyPost_ret (results_ctt rfl _ _ g 29 _ (0, 0) _ _ _ rfl rfl rfl HST.out Try.underlying29 rfl (by kernel_rfl)) rfl ?_
      exact ⟨A9, c9, y, 0, ob, HNO.out, rfl, HL9.out, HCF.out, HBS.out⟩
end Go.Proofs.Ytnopjcakilfepaa.QS
