import Derived.Test.YtnopjcakilfepaaC7
namespace Go.Proofs.Ytnopjcakilfepaa.QS
set_option linter.unusedVariables false
set_option linter.unusedSimpArgs false
open Go.RowKit Go.Proofs.Ytnopjcakilfepaa.SS Go.Proofs.Ytnopjcakilfepaa.Hp Go.Proofs.YtnopjcakilfepaaW.PrintWords Go.Proofs.YtnopjcakilfepaaW.PrintLast Go.Proofs.YtnopjcakilfepaaW.PrintMore
def orders5.T5 : Bool × List (List Nat × List Nat) := (true, [([], []), ([], []), ([0, 1], [0, 1]), ([2], [2]), ([3, 2], [3]), ([4], [4]), ([4], [4]), ([6, 4], [4, 6]), ([7, 4], [4, 7]), ([5, 8, 4], [4, 5, 8]), ([4, 9], [4, 9]), ([10, 4], [10]), ([11], [11]), ([12, 11, 11], [11, 12]), ([13], [13]), ([13], [13]), ([15, 13], [13, 15]), ([16, 13], [13, 16]), ([14, 17, 13, 13], [13, 14, 17]), ([18, 13], [13, 18]), ([13, 19, 11], [11, 13, 19]), ([11, 20], [11, 20]), ([21, 18], [21]), ([22], [22]), ([23, 22], [22, 23]), ([24, 22, 22], [22, 24]), ([25], [25]), ([25], [25]), ([26, 27, 25, 25], [25, 26, 27]), ([28, 25], [25, 28]), ([25, 29, 22], [22, 25, 29]), ([22, 30], [22, 30])])
def orders5.B5 : List Nat := [0, 0, 3, 7, 15, 31, 31, 95, 223, 511, 1023, 2047, 4095, 8191, 16383, 16383, 49151, 114687, 262143, 524287, 1048575, 2097151, 4194303, 8388607, 16777215, 33554431, 67108863, 67108863, 268435455, 536870911, 1073741823, 2147483647]
theorem orders5.tab5 : rtab .any (opsOf Try.f3 5) = orders5.T5 := by kernel_rfl
theorem orders5.bits5 : waitsOk orders5.T5.2 orders5.B5 = true := by kernel_rfl
def orders10.T10 : Bool × List (List Nat × List Nat) := (true, [([], []), ([], []), ([0, 1], [0, 1]), ([2], [2]), ([], []), ([], []), ([5], [5]), ([4, 6], [4, 6]), ([7], [7]), ([3, 8], [3, 8]), ([9, 9], [9]), ([10], [10]), ([10], [10]), ([11, 12, 10], [10, 11, 12]), ([13, 10], [10, 13]), ([14, 10], [10, 14]), ([10, 15], [10, 15]), ([16, 10], [16]), ([17], [17]), ([17], [17]), ([18, 19, 17], [17, 18, 19]), ([20, 17], [17, 20]), ([21, 17], [17, 21]), ([17], [17]), ([17], [17]), ([24, 17], [17, 24]), ([23, 25, 17], [17, 23, 25]), ([26, 17], [17, 26]), ([27, 17], [17, 27]), ([22, 28, 17], [17, 22, 28]), ([17, 29], [17, 29])])
def orders10.B10 : List Nat := [0, 0, 3, 7, 0, 0, 32, 112, 240, 511, 1023, 2047, 2047, 8191, 16383, 32767, 65535, 131071, 262143, 262143, 1048575, 2097151, 4194303, 262143, 262143, 17039359, 58982399, 126091263, 260308991, 536870911, 1073741823]
theorem orders10.tab10 : rtab .any (opsOf Try.f3 10) = orders10.T10 := by kernel_rfl
theorem orders10.bits10 : waitsOk orders10.T10.2 orders10.B10 = true := by kernel_rfl
def lightB (l : List R0) : Bool := (l.all fun x => decide (x.f7.length ≤ 60)) && decide (l.length ≤ 60)
theorem ev_light (l : List R0) (hm : l.length ≤ 9223372036854775807) : ∀ (d i : Nat), i + d = l.length → Ev (fun k => wagtaillaw30_light.l0 k l (i : Int)) (((l.drop i).all fun x => decide (x.f7.length ≤ 60)) && decide (l.length ≤ 60))
  | 0, i, hd => by
    refine Ev.step (f := fun k => some (decide ((l.length : Int) ≤ 60))) (fun k => ?_) ?_
    · simp only [wagtaillaw30_light.l0]
      rw [if_neg (by omega)]
    · rw [List.drop_of_length_le (by omega), List.all_nil, Bool.true_and, show decide (l.length ≤ 60) = decide ((l.length : Int) ≤ 60) by congr 1; apply propext; omega]
      exact Ev.now _
  | d + 1, i, hd => by
    have hi : i < l.length := by omega
    have e2 : wrap64 ((i : Int) + 1) = ((i + 1 : Nat) : Int) := by unfold wrap64; omega
    refine Ev.step (f := fun k => if ((l[i].f7).length : Int) > 60 then some false else wagtaillaw30_light.l0 k l ((i + 1 : Nat) : Int)) (fun k => ?_) ?_
    · simp only [wagtaillaw30_light.l0]
      rw [if_pos (by omega), if_pos (by omega), rd_nat l i hi, e2]
    · rw [List.drop_eq_getElem_cons hi]
      by_cases hx : ((l[i].f7).length : Int) > 60
      · refine Ev.congr (fun k => if_pos hx) ?_
        rw [List.all_cons, decide_eq_false (by omega), Bool.false_and, Bool.false_and]
        exact Ev.now _
      · refine Ev.congr (fun k => if_neg hx) ?_
        rw [List.all_cons, decide_eq_true (by omega), Bool.true_and]
        exact ev_light l hm d (i + 1) (by omega)
theorem light_calls (l : List R0) (A : Option Addr) (cp : Nat) (hcp : l.length ≤ cp) (W : World) (hC : Kd.C k29 W A l.length l) (hm : l.length ≤ 9223372036854775807) :
    Calls Try.prog 11 #[.slice A l.length cp] W fun e w' => e = .returned (.bool (lightB l)) ∧ Below W.heap.size W w' := by
  obtain ⟨K, hK⟩ := ev_light l hm l.length 0 (by omega)
  refine (wagtaillaw30_light.calls K A cp l _ W hC hcp (hK K (Nat.le_refl _))).mono ?_
  rintro e w' ⟨rfl, ⟨n, rfl⟩⟩
  exact ⟨rfl, pw_below_drewN (Below.refl _ _) n⟩
theorem lightB_L {l : List R0} (h : lightB l = true) : lightL l ∧ l.length ≤ 60 ∧ ∀ x ∈ l, x.f7.length ≤ 60 := by
  unfold lightB at h
  simp only [Bool.and_eq_true, decide_eq_true_eq, List.all_eq_true] at h
  exact ⟨⟨by omega, fun x hx => by have := h.1 x hx; omega⟩, h.2, h.1⟩
theorem order_at (l : List R0) (j : Nat) (x y : R0) (hx : (orderOf l)[j + 1]? = some x) (hy : (orderOf l)[j]? = some y) : ltS x y = false ∧ x.f5 = false ∧ ¬ x.f2 > y.f2 := by
  have hs := ssort_stable ltS_ord (waits l)
  have h1 : ltS x y = false := sorted_get ltS_ord hs.1 hy hx (Nat.le_succ _)
  refine ⟨h1, ?_, ?_⟩
  · have := (hs.2.1 _).1 (List.mem_of_getElem? hx)
    have := (List.mem_filter.1 this).2
    simpa using this
  · unfold ltS at h1
    simp only [decide_eq_false_iff_not] at h1
    omega
set_option maxHeartbeats 8000000 in
set_option maxRecDepth 100000 in
theorem orders_calls (l : List R0) (A : Option Addr) (cp : Nat) (hcp : l.length ≤ cp) (hm : l.length ≤ 9223372036854775807) (w : World) (hC : Kd.C k29 w A l.length l) :
    Calls Try.prog 3 #[.slice A l.length cp] w fun e w' => e = .returned (.bool true) ∧ Below w.heap.size w w' := by
  have HLI := Aside0.mk (fun W hW => light_calls l A cp hcp W (Kd.C_below hC hW) hm)
  have HR := Aside0.mk (And.intro hcp hC)
  have B0 := Aside0.mk (Below.refl w.heap.size w)
  clear hcp hC hm
  cases hlb : lightB l with
  | false =>
    rw [hlb] at HLI
    clear hlb
    go_enter Try.func3, Try.ntmps3
    go_wp2_with (first | (go_at_call 11; refine (HLI.out _ B0.out).mono ?_; rintro e w2 ⟨rfl, hb⟩; replace B0 := Aside0.mk (below_then B0.out B0.out.size hb); clear hb) | (go_at_call 12; refine (awake_calls _).mono ?_; rintro e w2 ⟨rfl, hb⟩; replace B0 := Aside0.mk (below_then B0.out B0.out.size hb); clear hb))
    go_ret
    exact ⟨rfl, B0.out⟩
  | true =>
    obtain ⟨hl, hl60, hp60⟩ := lightB_L hlb
    rw [hlb] at HLI
    have HAW := Aside0.mk (fun W => awake_calls W)
    have HOR := Aside0.mk (fun W hW => order_calls l hl A cp W (Kd.C_below HR.out.2 hW))
    have HRO := Aside0.mk (fun W hW => rorder_calls l hl.1 A cp HR.out.1 W (Kd.C_below HR.out.2 hW))
    have HNX := Aside0.mk (fun W hW => next_calls l hl A cp W (Kd.C_below HR.out.2 hW) (headOr (orderOf l)) rfl)
    have HOL := Aside0.mk (order_light hl)
    have HOA := Aside0.mk (order_at l)
    clear hlb hl hl60 hp60
    obtain ⟨o, ho⟩ : ∃ o, o = orderOf l := ⟨_, rfl⟩
    rw [← ho] at HOR HRO HNX HOL HOA
    clear ho
    go_enter Try.func3, Try.ntmps3
    by_cases h0 : o.length = 0
    case pos =>
      have HNE : Aside0 (∀ W, Below w.heap.size w W → Calls Try.prog 15 #[.slice A l.length cp] W fun e w' => ∃ (A7 : Option Addr) (c7 : Nat), e = .returned (.tuple #[.agg #[.int .u64 0, .int .u64 0, .int .i64 0, .int .i64 0, .int .u64 0, .bool false, .int .i64 0, .slice A7 0 c7], .bool false]) ∧ 0 ≤ c7 ∧ Kd.C (Kd.int .i64) w' A7 ([] : List Int).length [] ∧ Below W.heap.size W w') := ⟨fun W hW => by
        obtain rfl := List.eq_nil_of_length_eq_zero h0
        exact HNX.out W hW⟩
      replace HNX := HNE
      have HLEN : Aside0 (decide ((o.length : Int) > 0) = false ∧ (o = []) = True) := ⟨decide_eq_false (by omega), eq_true (List.eq_nil_of_length_eq_zero h0)⟩
      have HLE1 : Aside0 (decide ((1 : Int) < (o.length : Int)) = false) := ⟨decide_eq_false (by omega)⟩
      clear HNE h0
      go_upto_region 5 with (first | (go_at_call 11; (with_reducible refine (HLI.out _ B0.out).mono ?_); rintro e w2 ⟨rfl, hb⟩; replace B0 := Aside0.mk (below_then B0.out B0.out.size hb); clear hb) | (go_at_call 13; (with_reducible refine (HOR.out _ B0.out).mono ?_); rintro e w3 ⟨v3, rfl, hr3, hb⟩; obtain ⟨Ao, co, rfl, hlo, hCo⟩ := Kd.R_reads hr3; replace B0 := Aside0.mk (below_then B0.out B0.out.size hb); have HO3 := Aside0.mk (And.intro hlo hCo); clear hb hr3 hlo hCo) | (go_at_call 14; (with_reducible refine (HRO.out _ B0.out).mono ?_); rintro e w4 ⟨v4, rfl, hr4, hb⟩; obtain ⟨Aw, cw, rfl, hlw, hCw⟩ := hr4; replace B0 := Aside0.mk (below_then B0.out B0.out.size hb); have HO4 := Aside0.mk (And.intro (Kd.C_below HO3.out.2 hb) (And.intro hlw hCw)); clear hb hlw hCw) | (go_at_call 15; (with_reducible refine (HNX.out _ B0.out).mono ?_); rintro e w5 ⟨A7, c7, rfl, hl7, hC7, hb⟩; replace B0 := Aside0.mk (below_then B0.out B0.out.size hb); have HO5 := Aside0.mk (And.intro HO3.out.1 (And.intro (Kd.C_below HO4.out.1 hb) (And.intro HO4.out.2.1 (Kd.C_below HO4.out.2.2 hb)))); have H7 := Aside0.mk (And.intro hl7 hC7); clear hb hl7 hC7))
      have BW := B0
      have H5W : Aside0 (Below w.heap.size w (w5.alloc (.cells #[.int .u64 0, .int .u64 0, .int .i64 0, .int .i64 0, .int .u64 0, .bool false, .int .i64 0, .slice A7 0 c7] 29))) := ⟨below_alloc B0.out _⟩
      have Z5 : Aside0 ((w5.alloc (.cells #[.int .u64 0, .int .u64 0, .int .i64 0, .int .i64 0, .int .u64 0, .bool false, .int .i64 0, .slice A7 0 c7] 29)).heap[w5.heap.size]? = some (.cells #[.int .u64 0, .int .u64 0, .int .i64 0, .int .i64 0, .int .u64 0, .bool false, .int .i64 0, .slice A7 0 c7] 29 (0, 0))) := ⟨heap_alloc_new w5 _⟩
      have HO6 : Aside0 (o.length ≤ co ∧ Kd.C k29 (w5.alloc (.cells #[.int .u64 0, .int .u64 0, .int .i64 0, .int .i64 0, .int .u64 0, .bool false, .int .i64 0, .slice A7 0 c7] 29)) Ao o.length o ∧ o.length ≤ cw ∧ Kd.C k29 (w5.alloc (.cells #[.int .u64 0, .int .u64 0, .int .i64 0, .int .i64 0, .int .u64 0, .bool false, .int .i64 0, .slice A7 0 c7] 29)) Aw o.length o) := ⟨HO5.out.1, Kd.C_below HO5.out.2.1 (below_alloc (Below.refl _ _) _), HO5.out.2.2.1, Kd.C_below HO5.out.2.2.2 (below_alloc (Below.refl _ _) _)⟩
      have H76 : Aside0 (Kd.C (Kd.int .i64) (w5.alloc (.cells #[.int .u64 0, .int .u64 0, .int .i64 0, .int .i64 0, .int .u64 0, .bool false, .int .i64 0, .slice A7 0 c7] 29)) A7 ([] : List Int).length ([] : List Int)) := ⟨Kd.C_below H7.out.2 (below_alloc (Below.refl _ _) _)⟩
      clear HO3 HO4 HO5 HOR HRO HNX HLI B0
      generalize w5.alloc (.cells #[.int .u64 0, .int .u64 0, .int .i64 0, .int .i64 0, .int .u64 0, .bool false, .int .i64 0, .slice A7 0 c7] 29) = W0 at Z5 H5W HO6 H76 ⊢
      generalize w5.heap.size = b5 at Z5 ⊢
      have B0 := Aside0.mk (below_drew1 (Below.refl W0.heap.size W0))
      replace Z5 := Aside0.mk (blk_drew Z5.out)
      have HSM : Aside0 (∀ W, Below W0.heap.size W0 W → Calls Try.prog 16 #[.slice Ao o.length co, .slice Aw o.length cw] W fun e w' => e = .returned (.bool true) ∧ Below W.heap.size W w') := ⟨fun W hW => rsame_calls o HOL.out Ao co Aw cw W HO6.out.1 (Kd.C_below HO6.out.2.1 hW) HO6.out.2.2.1 (Kd.C_below HO6.out.2.2.2 hW)⟩
      have HS1 : Aside0 (∀ W, Below W0.heap.size W0 W → Calls Try.prog 17 #[.agg #[.int .u64 0, .int .u64 0, .int .i64 0, .int .i64 0, .int .u64 0, .bool false, .int .i64 0, .slice A7 0 c7], .agg #[.int .u64 0, .int .u64 0, .int .i64 0, .int .i64 0, .int .u64 0, .bool false, .int .i64 0, .slice none 0 0]] W fun e w' => e = .returned (.bool true) ∧ Below W.heap.size W w') := ⟨fun W hW => one_same_calls z29 (by decide) A7 c7 none 0 W ⟨Nat.zero_le _, Kd.C_below H76.out hW⟩ ⟨Nat.le_refl _, Kd.C_nil _ _⟩⟩
      refine start_ (n := 32) (S := fun w' => True) (ds := []) #[false, false, false, false, false, false, false, false, false, false, false, false, false, false, false, false, false, false, false, false, false, false, false, false, false, false, false, false, false, false, false, false] (by kernel_rfl) rfl rfl trivial (fun hHeld => ?_)
      refine with_tabW orders5.tab5 orders5.bits5 (fun HT_ HW_ => ?_)
      generalize W0.drew = wq at B0 Z5 hHeld ⊢
      refine inv_at [0, 1, 2, 3, 4, 5, 6, 7, 8, 9, 10, 11, 12, 13, 14, 15, 16, 17, 18, 19, 20, 21, 22, 23, 24, 25, 26, 27, 28, 29, 30, 31] (fun a0_ b a w' => a = putSel a0_ b [(0, 21, .slice Ao o.length co), (1, 22, .slice Aw o.length cw), (2, 23, .bool true), (3, 24, .bool false), (4, 25, .bool false), (5, 26, .bool false), (6, 27, .slice Aw o.length cw), (7, 28, .int .i64 (o.length : Int)), (8, 29, .bool false), (9, 30, .bool false), (10, 31, .bool false), (11, 32, .bool false), (12, 33, .bool false), (13, 34, .bool false), (14, 35, undef), (15, 36, undef), (16, 37, undef), (17, 38, undef), (18, 39, undef), (19, 40, undef), (20, 41, .bool false), (21, 42, .bool false), (22, 43, .bool false), (23, 44, .bool false), (24, 45, .bool true), (25, 46, .bool true), (26, 47, .agg #[.int .u64 0, .int .u64 0, .int .i64 0, .int .i64 0, .int .u64 0, .bool false, .int .i64 0, .slice A7 0 c7]), (27, 48, .agg #[.int .u64 0, .int .u64 0, .int .i64 0, .int .i64 0, .int .u64 0, .bool false, .int .i64 0, .slice none 0 0]), (28, 49, .bool true), (29, 50, .bool false), (30, 51, .bool false), (31, 52, .bool false)] ∧ (Below W0.heap.size W0 w') ∧ (w'.heap[b5]? = some (.cells #[.int .u64 0, .int .u64 0, .int .i64 0, .int .i64 0, .int .u64 0, .bool false, .int .i64 0, .slice A7 0 c7] 29 (0, 0)))) HT_.out HW_.out (by kernel_rfl) (by kernel_rfl) ?_ ?_ ?_
      · exact ⟨by simp only [putSel, Bool.false_eq_true, if_false], B0.out, Z5.out⟩
      · skip
        clear B0 Z5
        refine steps_cons ?_ ?_
        · rintro b a w' ⟨ha, Q_B0, Q_Z5⟩ hb_ hon hoff
          refine ⟨_, rfl, fun K hK => ?_⟩
          have e3 : a.tmps[3]? = some (.slice Ao o.length co) := by rw [ha]; exact (putSel_off rfl).trans rfl
          replace ha := Aside0.mk ha
          have B0 := Aside0.mk Q_B0
          have Z5 := Aside0.mk Q_Z5
          refine value_ (w1 := w') (v := .slice Ao o.length co) (by rfl) rfl ?_ ?_
          · go_simp
            (try simp only [i64_w])
            try rfl
          refine hK.out _ _ ⟨(by rw [ha.out]; exact putSel_upk 0 hb_ rfl rfl rfl), Q_B0, Q_Z5⟩
        refine steps_cons ?_ ?_
        · rintro b a w' ⟨ha, Q_B0, Q_Z5⟩ hb_ hon hoff
          refine ⟨_, rfl, fun K hK => ?_⟩
          have e4 : a.tmps[4]? = some (.slice Aw o.length cw) := by rw [ha]; exact (putSel_off rfl).trans rfl
          replace ha := Aside0.mk ha
          have B0 := Aside0.mk Q_B0
          have Z5 := Aside0.mk Q_Z5
          refine value_ (w1 := w') (v := .slice Aw o.length cw) (by rfl) rfl ?_ ?_
          · go_simp
            (try simp only [i64_w])
            try rfl
          refine hK.out _ _ ⟨(by rw [ha.out]; exact putSel_upk 1 hb_ rfl rfl rfl), Q_B0, Q_Z5⟩
        refine steps_cons ?_ ?_
        · rintro b a w' ⟨ha, Q_B0, Q_Z5⟩ hb_ hon hoff
          refine ⟨_, rfl, fun K hK => ?_⟩
          have e21 : a.tmps[21]? = some (.slice Ao o.length co) := by rw [ha]; exact putSel_on (e := (0, 21, .slice Ao o.length co)) 0 rfl rfl (hon 0 (by kernel_rfl)) rfl
          have e22 : a.tmps[22]? = some (.slice Aw o.length cw) := by rw [ha]; exact putSel_on (e := (1, 22, .slice Aw o.length cw)) 1 rfl rfl (hon 1 (by kernel_rfl)) rfl
          replace ha := Aside0.mk ha
          have B0 := Aside0.mk Q_B0
          have Z5 := Aside0.mk Q_Z5
          refine goes_ Try.func16 (by kernel_rfl) rfl #[.slice Ao o.length co, .slice Aw o.length cw] (by rfl) rfl rfl (by first | (simp only [List.map_toArray, List.map_cons, List.map_nil, Act.eval, Array.getD_eq_getD_getElem?, Option.getD_some, e21, e22]; done) | (simp only [List.map_toArray, List.map_cons, List.map_nil, Act.eval, Array.getD_eq_getD_getElem?, Option.getD_some, e21, e22]; rfl)) ?_
          with_reducible refine (HSM.out _ B0.out).mono ?_
          rintro e w2 ⟨rfl, hb⟩
          refine ⟨_, rfl, ?_⟩
          refine hK.out _ _ ⟨(by rw [ha.out]; exact putSel_upk 2 hb_ rfl rfl rfl), below_then B0.out B0.out.size hb, blk_below Z5.out hb⟩
        refine steps_cons ?_ ?_
        · rintro b a w' ⟨ha, Q_B0, Q_Z5⟩ hb_ hon hoff
          refine ⟨_, rfl, fun K hK => ?_⟩
          have e23 : a.tmps[23]? = some (.bool true) := by rw [ha]; exact putSel_on (e := (2, 23, .bool true)) 2 rfl rfl (hon 2 (by kernel_rfl)) rfl
          replace ha := Aside0.mk ha
          have B0 := Aside0.mk Q_B0
          have Z5 := Aside0.mk Q_Z5
          refine value_ (w1 := w') (v := .bool false) (by rfl) rfl ?_ ?_
          · go_simp
            (try simp only [i64_w])
            try rfl
          refine hK.out _ _ ⟨(by rw [ha.out]; exact putSel_upk 3 hb_ rfl rfl rfl), Q_B0, Q_Z5⟩
        refine steps_cons ?_ ?_
        · rintro b a w' ⟨ha, Q_B0, Q_Z5⟩ hb_ hon hoff
          refine ⟨_, rfl, fun K hK => ?_⟩
          have e24 : a.tmps[24]? = some (.bool false) := by rw [ha]; exact putSel_on (e := (3, 24, .bool false)) 3 rfl rfl (hon 3 (by kernel_rfl)) rfl
          replace ha := Aside0.mk ha
          have B0 := Aside0.mk Q_B0
          have Z5 := Aside0.mk Q_Z5
          refine value_ (w1 := w') (v := .bool false) (by rfl) rfl ?_ ?_
          · go_simp
            (try simp only [i64_w])
            try rfl
          refine hK.out _ _ ⟨(by rw [ha.out]; exact putSel_upk 4 hb_ rfl rfl rfl), Q_B0, Q_Z5⟩
        refine steps_cons ?_ ?_
        · rintro b a w' ⟨ha, Q_B0, Q_Z5⟩ hb_ hon hoff
          refine ⟨_, rfl, fun K hK => ?_⟩
          have e6 : a.tmps[6]? = some (.bool false) := by rw [ha]; exact (putSel_off rfl).trans rfl
          have e25 : a.tmps[25]? = some (.bool false) := by rw [ha]; exact putSel_on (e := (4, 25, .bool false)) 4 rfl rfl (hon 4 (by kernel_rfl)) rfl
          replace ha := Aside0.mk ha
          have B0 := Aside0.mk Q_B0
          have Z5 := Aside0.mk Q_Z5
          refine value_ (w1 := w') (v := .bool false) (wanted_on rfl rfl rfl (e25.trans (by first | rfl | (simp [*]; done)))) rfl ?_ ?_
          · go_simp
            (try simp only [i64_w])
            try rfl
          refine hK.out _ _ ⟨(by rw [ha.out]; exact putSel_upk 5 hb_ rfl rfl rfl), Q_B0, Q_Z5⟩
        refine steps_cons ?_ ?_
        · rintro b a w' ⟨ha, Q_B0, Q_Z5⟩ hb_ hon hoff
          refine ⟨_, rfl, fun K hK => ?_⟩
          have e4 : a.tmps[4]? = some (.slice Aw o.length cw) := by rw [ha]; exact (putSel_off rfl).trans rfl
          have e25 : a.tmps[25]? = some (.bool false) := by rw [ha]; exact putSel_on (e := (4, 25, .bool false)) 4 rfl rfl (hon 4 (by kernel_rfl)) rfl
          replace ha := Aside0.mk ha
          have B0 := Aside0.mk Q_B0
          have Z5 := Aside0.mk Q_Z5
          refine value_ (w1 := w') (v := .slice Aw o.length cw) (wanted_on rfl rfl rfl (e25.trans (by first | rfl | (simp [*]; done)))) rfl ?_ ?_
          · go_simp
            (try simp only [i64_w])
            try rfl
          refine hK.out _ _ ⟨(by rw [ha.out]; exact putSel_upk 6 hb_ rfl rfl rfl), Q_B0, Q_Z5⟩
        refine steps_cons ?_ ?_
        · rintro b a w' ⟨ha, Q_B0, Q_Z5⟩ hb_ hon hoff
          refine ⟨_, rfl, fun K hK => ?_⟩
          have e27 : a.tmps[27]? = some (.slice Aw o.length cw) := by rw [ha]; exact putSel_on (e := (6, 27, .slice Aw o.length cw)) 6 rfl rfl (hon 6 (by kernel_rfl)) rfl
          have e25 : a.tmps[25]? = some (.bool false) := by rw [ha]; exact putSel_on (e := (4, 25, .bool false)) 4 rfl rfl (hon 4 (by kernel_rfl)) rfl
          replace ha := Aside0.mk ha
          have B0 := Aside0.mk Q_B0
          have Z5 := Aside0.mk Q_Z5
          refine value_ (w1 := w') (v := .int .i64 (o.length : Int)) (wanted_on rfl rfl rfl (e25.trans (by first | rfl | (simp [*]; done)))) rfl ?_ ?_
          · go_simp
            (try simp only [i64_w])
            try rfl
          refine hK.out _ _ ⟨(by rw [ha.out]; exact putSel_upk 7 hb_ rfl rfl rfl), Q_B0, Q_Z5⟩
        refine steps_cons ?_ ?_
        · rintro b a w' ⟨ha, Q_B0, Q_Z5⟩ hb_ hon hoff
          refine ⟨_, rfl, fun K hK => ?_⟩
          have e28 : a.tmps[28]? = some (.int .i64 (o.length : Int)) := by rw [ha]; exact putSel_on (e := (7, 28, .int .i64 (o.length : Int))) 7 rfl rfl (hon 7 (by kernel_rfl)) rfl
          have e25 : a.tmps[25]? = some (.bool false) := by rw [ha]; exact putSel_on (e := (4, 25, .bool false)) 4 rfl rfl (hon 4 (by kernel_rfl)) rfl
          replace ha := Aside0.mk ha
          have B0 := Aside0.mk Q_B0
          have Z5 := Aside0.mk Q_Z5
          have t_ := HLEN.out.1
          have t2_ := HLEN.out.2
          refine value_ (w1 := w') (v := .bool false) (wanted_on rfl rfl rfl (e25.trans (by first | rfl | (simp [*]; done)))) rfl ?_ ?_
          · go_simp
            (try simp only [i64_w])
            try rfl
          refine hK.out _ _ ⟨(by rw [ha.out]; exact putSel_upk 8 hb_ rfl rfl rfl), Q_B0, Q_Z5⟩
        refine steps_cons ?_ ?_
        · rintro b a w' ⟨ha, Q_B0, Q_Z5⟩ hb_ hon hoff
          refine ⟨_, rfl, fun K hK => ?_⟩
          have e26 : a.tmps[26]? = some (.bool false) := by rw [ha]; exact putSel_on (e := (5, 26, .bool false)) 5 rfl rfl (hon 5 (by kernel_rfl)) rfl
          have e29 : a.tmps[29]? = some (.bool false) := by rw [ha]; exact putSel_on (e := (8, 29, .bool false)) 8 rfl rfl (hon 8 (by kernel_rfl)) rfl
          have e25 : a.tmps[25]? = some (.bool false) := by rw [ha]; exact putSel_on (e := (4, 25, .bool false)) 4 rfl rfl (hon 4 (by kernel_rfl)) rfl
          replace ha := Aside0.mk ha
          have B0 := Aside0.mk Q_B0
          have Z5 := Aside0.mk Q_Z5
          refine value_ (w1 := w') (v := .bool false) (wanted_on rfl rfl rfl (e25.trans (by first | rfl | (simp [*]; done)))) rfl ?_ ?_
          · go_simp
            (try simp only [i64_w])
            try rfl
          refine hK.out _ _ ⟨(by rw [ha.out]; exact putSel_upk 9 hb_ rfl rfl rfl), Q_B0, Q_Z5⟩
        refine steps_cons ?_ ?_
        · rintro b a w' ⟨ha, Q_B0, Q_Z5⟩ hb_ hon hoff
          refine ⟨_, rfl, fun K hK => ?_⟩
          have e25 : a.tmps[25]? = some (.bool false) := by rw [ha]; exact putSel_on (e := (4, 25, .bool false)) 4 rfl rfl (hon 4 (by kernel_rfl)) rfl
          have e30 : a.tmps[30]? = some (.bool false) := by rw [ha]; exact putSel_on (e := (9, 30, .bool false)) 9 rfl rfl (hon 9 (by kernel_rfl)) rfl
          replace ha := Aside0.mk ha
          have B0 := Aside0.mk Q_B0
          have Z5 := Aside0.mk Q_Z5
          refine value_ (w1 := w') (v := .bool false) (by rfl) rfl ?_ ?_
          · go_simp
            (try simp only [i64_w])
            try rfl
          refine hK.out _ _ ⟨(by rw [ha.out]; exact putSel_upk 10 hb_ rfl rfl rfl), Q_B0, Q_Z5⟩
        refine steps_cons ?_ ?_
        · rintro b a w' ⟨ha, Q_B0, Q_Z5⟩ hb_ hon hoff
          refine ⟨_, rfl, fun K hK => ?_⟩
          have e31 : a.tmps[31]? = some (.bool false) := by rw [ha]; exact putSel_on (e := (10, 31, .bool false)) 10 rfl rfl (hon 10 (by kernel_rfl)) rfl
          replace ha := Aside0.mk ha
          have B0 := Aside0.mk Q_B0
          have Z5 := Aside0.mk Q_Z5
          refine value_ (w1 := w') (v := .bool false) (by rfl) rfl ?_ ?_
          · go_simp
            (try simp only [i64_w])
            try rfl
          refine hK.out _ _ ⟨(by rw [ha.out]; exact putSel_upk 11 hb_ rfl rfl rfl), Q_B0, Q_Z5⟩
        refine steps_cons ?_ ?_
        · rintro b a w' ⟨ha, Q_B0, Q_Z5⟩ hb_ hon hoff
          refine ⟨_, rfl, fun K hK => ?_⟩
          have e6 : a.tmps[6]? = some (.bool false) := by rw [ha]; exact (putSel_off rfl).trans rfl
          have e32 : a.tmps[32]? = some (.bool false) := by rw [ha]; exact putSel_on (e := (11, 32, .bool false)) 11 rfl rfl (hon 11 (by kernel_rfl)) rfl
          replace ha := Aside0.mk ha
          have B0 := Aside0.mk Q_B0
          have Z5 := Aside0.mk Q_Z5
          refine value_ (w1 := w') (v := .bool false) (wanted_on rfl rfl rfl (e32.trans (by first | rfl | (simp [*]; done)))) rfl ?_ ?_
          · go_simp
            (try simp only [i64_w])
            try rfl
          refine hK.out _ _ ⟨(by rw [ha.out]; exact putSel_upk 12 hb_ rfl rfl rfl), Q_B0, Q_Z5⟩
        refine steps_cons ?_ ?_
        · rintro b a w' ⟨ha, Q_B0, Q_Z5⟩ hb_ hon hoff
          refine ⟨_, rfl, fun K hK => ?_⟩
          have e33 : a.tmps[33]? = some (.bool false) := by rw [ha]; exact putSel_on (e := (12, 33, .bool false)) 12 rfl rfl (hon 12 (by kernel_rfl)) rfl
          have e32 : a.tmps[32]? = some (.bool false) := by rw [ha]; exact putSel_on (e := (11, 32, .bool false)) 11 rfl rfl (hon 11 (by kernel_rfl)) rfl
          replace ha := Aside0.mk ha
          have B0 := Aside0.mk Q_B0
          have Z5 := Aside0.mk Q_Z5
          refine value_ (w1 := w') (v := .bool false) (wanted_on rfl rfl rfl (e32.trans (by first | rfl | (simp [*]; done)))) rfl ?_ ?_
          · go_simp
            (try simp only [i64_w])
            try rfl
          refine hK.out _ _ ⟨(by rw [ha.out]; exact putSel_upk 13 hb_ rfl rfl rfl), Q_B0, Q_Z5⟩
        refine steps_cons ?_ ?_
        · rintro b a w' ⟨ha, Q_B0, Q_Z5⟩ hb_ hon hoff
          refine ⟨_, rfl, fun K hK => ?_⟩
          have e34 : a.tmps[34]? = some (.bool false) := by rw [ha]; exact putSel_on (e := (13, 34, .bool false)) 13 rfl rfl (hon 13 (by kernel_rfl)) rfl
          replace ha := Aside0.mk ha
          have B0 := Aside0.mk Q_B0
          have Z5 := Aside0.mk Q_Z5
          refine off_ (wanted_off rfl rfl rfl (e34.trans (by first | rfl | (simp [*]; done)))) ?_
          refine hK.out _ _ ⟨(by rw [ha.out]; exact putSel_upk 14 hb_ rfl rfl rfl), Q_B0, Q_Z5⟩
        refine steps_cons ?_ ?_
        · rintro b a w' ⟨ha, Q_B0, Q_Z5⟩ hb_ hon hoff
          refine ⟨_, rfl, fun K hK => ?_⟩
          have e34 : a.tmps[34]? = some (.bool false) := by rw [ha]; exact putSel_on (e := (13, 34, .bool false)) 13 rfl rfl (hon 13 (by kernel_rfl)) rfl
          replace ha := Aside0.mk ha
          have B0 := Aside0.mk Q_B0
          have Z5 := Aside0.mk Q_Z5
          refine off_ (wanted_off rfl rfl rfl (e34.trans (by first | rfl | (simp [*]; done)))) ?_
          refine hK.out _ _ ⟨(by rw [ha.out]; exact putSel_upk 15 hb_ rfl rfl rfl), Q_B0, Q_Z5⟩
        refine steps_cons ?_ ?_
        · rintro b a w' ⟨ha, Q_B0, Q_Z5⟩ hb_ hon hoff
          refine ⟨_, rfl, fun K hK => ?_⟩
          have e34 : a.tmps[34]? = some (.bool false) := by rw [ha]; exact putSel_on (e := (13, 34, .bool false)) 13 rfl rfl (hon 13 (by kernel_rfl)) rfl
          replace ha := Aside0.mk ha
          have B0 := Aside0.mk Q_B0
          have Z5 := Aside0.mk Q_Z5
          refine off_ (wanted_off rfl rfl rfl (e34.trans (by first | rfl | (simp [*]; done)))) ?_
          refine hK.out _ _ ⟨(by rw [ha.out]; exact putSel_upk 16 hb_ rfl rfl rfl), Q_B0, Q_Z5⟩
        refine steps_cons ?_ ?_
        · rintro b a w' ⟨ha, Q_B0, Q_Z5⟩ hb_ hon hoff
          refine ⟨_, rfl, fun K hK => ?_⟩
          have e34 : a.tmps[34]? = some (.bool false) := by rw [ha]; exact putSel_on (e := (13, 34, .bool false)) 13 rfl rfl (hon 13 (by kernel_rfl)) rfl
          replace ha := Aside0.mk ha
          have B0 := Aside0.mk Q_B0
          have Z5 := Aside0.mk Q_Z5
          refine off_ (wanted_off rfl rfl rfl (e34.trans (by first | rfl | (simp [*]; done)))) ?_
          refine hK.out _ _ ⟨(by rw [ha.out]; exact putSel_upk 17 hb_ rfl rfl rfl), Q_B0, Q_Z5⟩
        refine steps_cons ?_ ?_
        · rintro b a w' ⟨ha, Q_B0, Q_Z5⟩ hb_ hon hoff
          refine ⟨_, rfl, fun K hK => ?_⟩
          have e34 : a.tmps[34]? = some (.bool false) := by rw [ha]; exact putSel_on (e := (13, 34, .bool false)) 13 rfl rfl (hon 13 (by kernel_rfl)) rfl
          replace ha := Aside0.mk ha
          have B0 := Aside0.mk Q_B0
          have Z5 := Aside0.mk Q_Z5
          refine off_ (wanted_off rfl rfl rfl (e34.trans (by first | rfl | (simp [*]; done)))) ?_
          refine hK.out _ _ ⟨(by rw [ha.out]; exact putSel_upk 18 hb_ rfl rfl rfl), Q_B0, Q_Z5⟩
        refine steps_cons ?_ ?_
        · rintro b a w' ⟨ha, Q_B0, Q_Z5⟩ hb_ hon hoff
          refine ⟨_, rfl, fun K hK => ?_⟩
          have e34 : a.tmps[34]? = some (.bool false) := by rw [ha]; exact putSel_on (e := (13, 34, .bool false)) 13 rfl rfl (hon 13 (by kernel_rfl)) rfl
          replace ha := Aside0.mk ha
          have B0 := Aside0.mk Q_B0
          have Z5 := Aside0.mk Q_Z5
          refine off_ (wanted_off rfl rfl rfl (e34.trans (by first | rfl | (simp [*]; done)))) ?_
          refine hK.out _ _ ⟨(by rw [ha.out]; exact putSel_upk 19 hb_ rfl rfl rfl), Q_B0, Q_Z5⟩
        refine steps_cons ?_ ?_
        · rintro b a w' ⟨ha, Q_B0, Q_Z5⟩ hb_ hon hoff
          refine ⟨_, rfl, fun K hK => ?_⟩
          have e34 : a.tmps[34]? = some (.bool false) := by rw [ha]; exact putSel_on (e := (13, 34, .bool false)) 13 rfl rfl (hon 13 (by kernel_rfl)) rfl
          have e40 : a.tmps[40]? = some (undef) := by rw [ha]; exact putSel_on (e := (19, 40, undef)) 19 rfl rfl (hon 19 (by kernel_rfl)) rfl
          have e32 : a.tmps[32]? = some (.bool false) := by rw [ha]; exact putSel_on (e := (11, 32, .bool false)) 11 rfl rfl (hon 11 (by kernel_rfl)) rfl
          replace ha := Aside0.mk ha
          have B0 := Aside0.mk Q_B0
          have Z5 := Aside0.mk Q_Z5
          refine value_ (w1 := w') (v := .bool false) (wanted_on rfl rfl rfl (e32.trans (by first | rfl | (simp [*]; done)))) rfl ?_ ?_
          · go_simp
            (try simp only [i64_w])
            try rfl
          refine hK.out _ _ ⟨(by rw [ha.out]; exact putSel_upk 20 hb_ rfl rfl rfl), Q_B0, Q_Z5⟩
        refine steps_cons ?_ ?_
        · rintro b a w' ⟨ha, Q_B0, Q_Z5⟩ hb_ hon hoff
          refine ⟨_, rfl, fun K hK => ?_⟩
          have e32 : a.tmps[32]? = some (.bool false) := by rw [ha]; exact putSel_on (e := (11, 32, .bool false)) 11 rfl rfl (hon 11 (by kernel_rfl)) rfl
          have e41 : a.tmps[41]? = some (.bool false) := by rw [ha]; exact putSel_on (e := (20, 41, .bool false)) 20 rfl rfl (hon 20 (by kernel_rfl)) rfl
          replace ha := Aside0.mk ha
          have B0 := Aside0.mk Q_B0
          have Z5 := Aside0.mk Q_Z5
          refine value_ (w1 := w') (v := .bool false) (by rfl) rfl ?_ ?_
          · go_simp
            (try simp only [i64_w])
            try rfl
          refine hK.out _ _ ⟨(by rw [ha.out]; exact putSel_upk 21 hb_ rfl rfl rfl), Q_B0, Q_Z5⟩
        refine steps_cons ?_ ?_
        · rintro b a w' ⟨ha, Q_B0, Q_Z5⟩ hb_ hon hoff
          refine ⟨_, rfl, fun K hK => ?_⟩
          have e42 : a.tmps[42]? = some (.bool false) := by rw [ha]; exact putSel_on (e := (21, 42, .bool false)) 21 rfl rfl (hon 21 (by kernel_rfl)) rfl
          replace ha := Aside0.mk ha
          have B0 := Aside0.mk Q_B0
          have Z5 := Aside0.mk Q_Z5
          refine value_ (w1 := w') (v := .bool false) (by rfl) rfl ?_ ?_
          · go_simp
            (try simp only [i64_w])
            try rfl
          refine hK.out _ _ ⟨(by rw [ha.out]; exact putSel_upk 22 hb_ rfl rfl rfl), Q_B0, Q_Z5⟩
        refine steps_cons ?_ ?_
        · rintro b a w' ⟨ha, Q_B0, Q_Z5⟩ hb_ hon hoff
          refine ⟨_, rfl, fun K hK => ?_⟩
          have e6 : a.tmps[6]? = some (.bool false) := by rw [ha]; exact (putSel_off rfl).trans rfl
          have e43 : a.tmps[43]? = some (.bool false) := by rw [ha]; exact putSel_on (e := (22, 43, .bool false)) 22 rfl rfl (hon 22 (by kernel_rfl)) rfl
          replace ha := Aside0.mk ha
          have B0 := Aside0.mk Q_B0
          have Z5 := Aside0.mk Q_Z5
          refine value_ (w1 := w') (v := .bool false) (wanted_on rfl rfl rfl (e43.trans (by first | rfl | (simp [*]; done)))) rfl ?_ ?_
          · go_simp
            (try simp only [i64_w])
            try rfl
          refine hK.out _ _ ⟨(by rw [ha.out]; exact putSel_upk 23 hb_ rfl rfl rfl), Q_B0, Q_Z5⟩
        refine steps_cons ?_ ?_
        · rintro b a w' ⟨ha, Q_B0, Q_Z5⟩ hb_ hon hoff
          refine ⟨_, rfl, fun K hK => ?_⟩
          have e44 : a.tmps[44]? = some (.bool false) := by rw [ha]; exact putSel_on (e := (23, 44, .bool false)) 23 rfl rfl (hon 23 (by kernel_rfl)) rfl
          have e43 : a.tmps[43]? = some (.bool false) := by rw [ha]; exact putSel_on (e := (22, 43, .bool false)) 22 rfl rfl (hon 22 (by kernel_rfl)) rfl
          replace ha := Aside0.mk ha
          have B0 := Aside0.mk Q_B0
          have Z5 := Aside0.mk Q_Z5
          refine value_ (w1 := w') (v := .bool true) (wanted_on rfl rfl rfl (e43.trans (by first | rfl | (simp [*]; done)))) rfl ?_ ?_
          · go_simp
            (try simp only [i64_w])
            try rfl
          refine hK.out _ _ ⟨(by rw [ha.out]; exact putSel_upk 24 hb_ rfl rfl rfl), Q_B0, Q_Z5⟩
        refine steps_cons ?_ ?_
        · rintro b a w' ⟨ha, Q_B0, Q_Z5⟩ hb_ hon hoff
          refine ⟨_, rfl, fun K hK => ?_⟩
          have e45 : a.tmps[45]? = some (.bool true) := by rw [ha]; exact putSel_on (e := (24, 45, .bool true)) 24 rfl rfl (hon 24 (by kernel_rfl)) rfl
          have e43 : a.tmps[43]? = some (.bool false) := by rw [ha]; exact putSel_on (e := (22, 43, .bool false)) 22 rfl rfl (hon 22 (by kernel_rfl)) rfl
          replace ha := Aside0.mk ha
          have B0 := Aside0.mk Q_B0
          have Z5 := Aside0.mk Q_Z5
          refine value_ (w1 := w') (v := .bool true) (wanted_on rfl rfl rfl (e43.trans (by first | rfl | (simp [*]; done)))) rfl ?_ ?_
          · go_simp
            (try simp only [i64_w])
            try rfl
          refine hK.out _ _ ⟨(by rw [ha.out]; exact putSel_upk 25 hb_ rfl rfl rfl), Q_B0, Q_Z5⟩
        refine steps_cons ?_ ?_
        · rintro b a w' ⟨ha, Q_B0, Q_Z5⟩ hb_ hon hoff
          refine ⟨_, rfl, fun K hK => ?_⟩
          have e5 : a.tmps[5]? = some (.pointer (some ⟨b5, 0, none⟩)) := by rw [ha]; exact (putSel_off rfl).trans rfl
          have e46 : a.tmps[46]? = some (.bool true) := by rw [ha]; exact putSel_on (e := (25, 46, .bool true)) 25 rfl rfl (hon 25 (by kernel_rfl)) rfl
          replace ha := Aside0.mk ha
          have B0 := Aside0.mk Q_B0
          have Z5 := Aside0.mk Q_Z5
          have c0_ := blk_cell Z5.out 0
          have c1_ := blk_cell Z5.out 1
          have c2_ := blk_cell Z5.out 2
          have c3_ := blk_cell Z5.out 3
          have c4_ := blk_cell Z5.out 4
          have c5_ := blk_cell Z5.out 5
          have c6_ := blk_cell Z5.out 6
          have c7_ := blk_cell Z5.out 7
          refine value_ (w1 := w') (v := .agg #[.int .u64 0, .int .u64 0, .int .i64 0, .int .i64 0, .int .u64 0, .bool false, .int .i64 0, .slice A7 0 c7]) (wanted_on rfl rfl rfl (e46.trans (by first | rfl | (simp [*]; done)))) rfl ?_ ?_
          · go_simp
            (try simp only [i64_w])
            try rfl
          refine hK.out _ _ ⟨(by rw [ha.out]; exact putSel_upk 26 hb_ rfl rfl rfl), Q_B0, Q_Z5⟩
        refine steps_cons ?_ ?_
        · rintro b a w' ⟨ha, Q_B0, Q_Z5⟩ hb_ hon hoff
          refine ⟨_, rfl, fun K hK => ?_⟩
          have e46 : a.tmps[46]? = some (.bool true) := by rw [ha]; exact putSel_on (e := (25, 46, .bool true)) 25 rfl rfl (hon 25 (by kernel_rfl)) rfl
          replace ha := Aside0.mk ha
          have B0 := Aside0.mk Q_B0
          have Z5 := Aside0.mk Q_Z5
          refine value_ (w1 := w') (v := .agg #[.int .u64 0, .int .u64 0, .int .i64 0, .int .i64 0, .int .u64 0, .bool false, .int .i64 0, .slice none 0 0]) (wanted_on rfl rfl rfl (e46.trans (by first | rfl | (simp [*]; done)))) rfl ?_ ?_
          · go_simp
            (try simp only [i64_w])
            try rfl
          refine hK.out _ _ ⟨(by rw [ha.out]; exact putSel_upk 27 hb_ rfl rfl rfl), Q_B0, Q_Z5⟩
        refine steps_cons ?_ ?_
        · rintro b a w' ⟨ha, Q_B0, Q_Z5⟩ hb_ hon hoff
          refine ⟨_, rfl, fun K hK => ?_⟩
          have e47 : a.tmps[47]? = some (.agg #[.int .u64 0, .int .u64 0, .int .i64 0, .int .i64 0, .int .u64 0, .bool false, .int .i64 0, .slice A7 0 c7]) := by rw [ha]; exact putSel_on (e := (26, 47, .agg #[.int .u64 0, .int .u64 0, .int .i64 0, .int .i64 0, .int .u64 0, .bool false, .int .i64 0, .slice A7 0 c7])) 26 rfl rfl (hon 26 (by kernel_rfl)) rfl
          have e48 : a.tmps[48]? = some (.agg #[.int .u64 0, .int .u64 0, .int .i64 0, .int .i64 0, .int .u64 0, .bool false, .int .i64 0, .slice none 0 0]) := by rw [ha]; exact putSel_on (e := (27, 48, .agg #[.int .u64 0, .int .u64 0, .int .i64 0, .int .i64 0, .int .u64 0, .bool false, .int .i64 0, .slice none 0 0])) 27 rfl rfl (hon 27 (by kernel_rfl)) rfl
          have e46 : a.tmps[46]? = some (.bool true) := by rw [ha]; exact putSel_on (e := (25, 46, .bool true)) 25 rfl rfl (hon 25 (by kernel_rfl)) rfl
          replace ha := Aside0.mk ha
          have B0 := Aside0.mk Q_B0
          have Z5 := Aside0.mk Q_Z5
          refine goes_ Try.func17 (by kernel_rfl) rfl #[.agg #[.int .u64 0, .int .u64 0, .int .i64 0, .int .i64 0, .int .u64 0, .bool false, .int .i64 0, .slice A7 0 c7], .agg #[.int .u64 0, .int .u64 0, .int .i64 0, .int .i64 0, .int .u64 0, .bool false, .int .i64 0, .slice none 0 0]] (wanted_on rfl rfl rfl (e46.trans rfl)) rfl rfl (by first | (simp only [List.map_toArray, List.map_cons, List.map_nil, Act.eval, Array.getD_eq_getD_getElem?, Option.getD_some, e47, e48, e46]; done) | (simp only [List.map_toArray, List.map_cons, List.map_nil, Act.eval, Array.getD_eq_getD_getElem?, Option.getD_some, e47, e48, e46]; rfl)) ?_
          with_reducible refine (HS1.out _ B0.out).mono ?_
          rintro e w2 ⟨rfl, hb⟩
          refine ⟨_, rfl, ?_⟩
          refine hK.out _ _ ⟨(by rw [ha.out]; exact putSel_upk 28 hb_ rfl rfl rfl), below_then B0.out B0.out.size hb, blk_below Z5.out hb⟩
        refine steps_cons ?_ ?_
        · rintro b a w' ⟨ha, Q_B0, Q_Z5⟩ hb_ hon hoff
          refine ⟨_, rfl, fun K hK => ?_⟩
          have e49 : a.tmps[49]? = some (.bool true) := by rw [ha]; exact putSel_on (e := (28, 49, .bool true)) 28 rfl rfl (hon 28 (by kernel_rfl)) rfl
          have e46 : a.tmps[46]? = some (.bool true) := by rw [ha]; exact putSel_on (e := (25, 46, .bool true)) 25 rfl rfl (hon 25 (by kernel_rfl)) rfl
          replace ha := Aside0.mk ha
          have B0 := Aside0.mk Q_B0
          have Z5 := Aside0.mk Q_Z5
          refine value_ (w1 := w') (v := .bool false) (wanted_on rfl rfl rfl (e46.trans (by first | rfl | (simp [*]; done)))) rfl ?_ ?_
          · go_simp
            (try simp only [i64_w])
            try rfl
          refine hK.out _ _ ⟨(by rw [ha.out]; exact putSel_upk 29 hb_ rfl rfl rfl), Q_B0, Q_Z5⟩
        refine steps_cons ?_ ?_
        · rintro b a w' ⟨ha, Q_B0, Q_Z5⟩ hb_ hon hoff
          refine ⟨_, rfl, fun K hK => ?_⟩
          have e46 : a.tmps[46]? = some (.bool true) := by rw [ha]; exact putSel_on (e := (25, 46, .bool true)) 25 rfl rfl (hon 25 (by kernel_rfl)) rfl
          have e50 : a.tmps[50]? = some (.bool false) := by rw [ha]; exact putSel_on (e := (29, 50, .bool false)) 29 rfl rfl (hon 29 (by kernel_rfl)) rfl
          have e43 : a.tmps[43]? = some (.bool false) := by rw [ha]; exact putSel_on (e := (22, 43, .bool false)) 22 rfl rfl (hon 22 (by kernel_rfl)) rfl
          replace ha := Aside0.mk ha
          have B0 := Aside0.mk Q_B0
          have Z5 := Aside0.mk Q_Z5
          refine value_ (w1 := w') (v := .bool false) (wanted_on rfl rfl rfl (e43.trans (by first | rfl | (simp [*]; done)))) rfl ?_ ?_
          · go_simp
            (try simp only [i64_w])
            try rfl
          refine hK.out _ _ ⟨(by rw [ha.out]; exact putSel_upk 30 hb_ rfl rfl rfl), Q_B0, Q_Z5⟩
        refine steps_cons ?_ ?_
        · rintro b a w' ⟨ha, Q_B0, Q_Z5⟩ hb_ hon hoff
          refine ⟨_, rfl, fun K hK => ?_⟩
          have e43 : a.tmps[43]? = some (.bool false) := by rw [ha]; exact putSel_on (e := (22, 43, .bool false)) 22 rfl rfl (hon 22 (by kernel_rfl)) rfl
          have e51 : a.tmps[51]? = some (.bool false) := by rw [ha]; exact putSel_on (e := (30, 51, .bool false)) 30 rfl rfl (hon 30 (by kernel_rfl)) rfl
          replace ha := Aside0.mk ha
          have B0 := Aside0.mk Q_B0
          have Z5 := Aside0.mk Q_Z5
          refine value_ (w1 := w') (v := .bool false) (by rfl) rfl ?_ ?_
          · go_simp
            (try simp only [i64_w])
            try rfl
          refine hK.out _ _ ⟨(by rw [ha.out]; exact putSel_upk 31 hb_ rfl rfl rfl), Q_B0, Q_Z5⟩
        exact steps_nil
      rintro b a wl hall ⟨ha, Q_B0, Q_Z5⟩
      clear B0 Z5
      have hb0_ := hall 0 (by kernel_rfl)
      have hb1_ := hall 1 (by kernel_rfl)
      have hb2_ := hall 2 (by kernel_rfl)
      have hb3_ := hall 3 (by kernel_rfl)
      have hb4_ := hall 4 (by kernel_rfl)
      have hb5_ := hall 5 (by kernel_rfl)
      have hb6_ := hall 6 (by kernel_rfl)
      have hb7_ := hall 7 (by kernel_rfl)
      have hb8_ := hall 8 (by kernel_rfl)
      have hb9_ := hall 9 (by kernel_rfl)
      have hb10_ := hall 10 (by kernel_rfl)
      have hb11_ := hall 11 (by kernel_rfl)
      have hb12_ := hall 12 (by kernel_rfl)
      have hb13_ := hall 13 (by kernel_rfl)
      have hb14_ := hall 14 (by kernel_rfl)
      have hb15_ := hall 15 (by kernel_rfl)
      have hb16_ := hall 16 (by kernel_rfl)
      have hb17_ := hall 17 (by kernel_rfl)
      have hb18_ := hall 18 (by kernel_rfl)
      have hb19_ := hall 19 (by kernel_rfl)
      have hb20_ := hall 20 (by kernel_rfl)
      have hb21_ := hall 21 (by kernel_rfl)
      have hb22_ := hall 22 (by kernel_rfl)
      have hb23_ := hall 23 (by kernel_rfl)
      have hb24_ := hall 24 (by kernel_rfl)
      have hb25_ := hall 25 (by kernel_rfl)
      have hb26_ := hall 26 (by kernel_rfl)
      have hb27_ := hall 27 (by kernel_rfl)
      have hb28_ := hall 28 (by kernel_rfl)
      have hb29_ := hall 29 (by kernel_rfl)
      have hb30_ := hall 30 (by kernel_rfl)
      have hb31_ := hall 31 (by kernel_rfl)
      subst ha
      simp only [putSel, hb0_, hb1_, hb2_, hb3_, hb4_, hb5_, hb6_, hb7_, hb8_, hb9_, hb10_, hb11_, hb12_, hb13_, hb14_, hb15_, hb16_, hb17_, hb18_, hb19_, hb20_, hb21_, hb22_, hb23_, hb24_, hb25_, hb26_, hb27_, hb28_, hb29_, hb30_, hb31_, if_true, Act.put, List.setIfInBounds_toArray, List.set_cons_zero, List.set_cons_succ]
      have B0 := Aside0.mk Q_B0
      clear Q_B0
      have Z5 := Aside0.mk Q_Z5
      clear Q_Z5
      clear hall hb0_ hb1_ hb2_ hb3_ hb4_ hb5_ hb6_ hb7_ hb8_ hb9_ hb10_ hb11_ hb12_ hb13_ hb14_ hb15_ hb16_ hb17_ hb18_ hb19_ hb20_ hb21_ hb22_ hb23_ hb24_ hb25_ hb26_ hb27_ hb28_ hb29_ hb30_ hb31_
      have HW := Aside0.mk (below_then H5W.out H5W.out.size B0.out)
      clear B0 Z5 HSM HS1 H5W
      go_wp2_with fail
      go_loopg [7] 2 (fun kq v7 w' => v7 = .int .i64 1 ∧ Aside0 (Below w.heap.size w w'))
      case atStart => exact ⟨rfl, HW⟩
      case round =>
        clear HW
        obtain ⟨rfl, HW⟩ := hrel
        have t1 := HLE1.out
        go_wp2_with (go_at_call 12; (with_reducible refine (HAW.out _).mono ?_); rintro e w6 ⟨rfl, hb⟩; replace HW := Aside0.mk (below_then HW.out HW.out.size hb); clear hb)
        go_ret
        exact ⟨rfl, HW.out⟩
    case neg =>
      have hpos : 0 < o.length := by omega
      obtain ⟨y, hy⟩ : ∃ y, y = headOr o := ⟨_, rfl⟩
      have hy0 : y = o[0] := by
        rw [hy]
        cases o with
        | nil => exact absurd hpos (by simp)
        | cons a b => rfl
      have hne : (!o.isEmpty) = true := by
        cases o with
        | nil => exact absurd hpos (by simp)
        | cons a b => rfl
      have HNE : Aside0 (∀ W, Below w.heap.size w W → Calls Try.prog 15 #[.slice A l.length cp] W fun e w' => ∃ (A7 : Option Addr) (c7 : Nat), e = .returned (.tuple #[.agg #[.int .u64 y.f0, .int .u64 y.f1, .int .i64 y.f2, .int .i64 y.f3, .int .u64 y.f4, .bool y.f5, .int .i64 y.f6, .slice A7 y.f7.length c7], .bool true]) ∧ y.f7.length ≤ c7 ∧ Kd.C (Kd.int .i64) w' A7 y.f7.length y.f7 ∧ Below W.heap.size W w') := ⟨fun W hW => by
        have := HNX.out W hW
        rw [← hy, hne] at this
        exact this⟩
      replace HNX := HNE
      have HLEN : Aside0 (decide ((o.length : Int) > 0) = true ∧ decide (0 < o.length) = true ∧ (o = []) = False ∧ (0 < o.length) = True) := ⟨decide_eq_true (by omega), decide_eq_true (by omega), eq_false (fun h => by rw [h] at hpos; exact absurd hpos (by simp)), eq_true hpos⟩
      have HY0 : Aside0 (0 < o.length ∧ o[0]? = some y) := ⟨hpos, by rw [hy0]; exact List.getElem?_eq_getElem hpos⟩
      clear HNE h0 hy hne hpos hy0
      go_upto_region 5 with (first | (go_at_call 11; (with_reducible refine (HLI.out _ B0.out).mono ?_); rintro e w2 ⟨rfl, hb⟩; replace B0 := Aside0.mk (below_then B0.out B0.out.size hb); clear hb) | (go_at_call 13; (with_reducible refine (HOR.out _ B0.out).mono ?_); rintro e w3 ⟨v3, rfl, hr3, hb⟩; obtain ⟨Ao, co, rfl, hlo, hCo⟩ := Kd.R_reads hr3; replace B0 := Aside0.mk (below_then B0.out B0.out.size hb); have HO3 := Aside0.mk (And.intro hlo hCo); clear hb hr3 hlo hCo) | (go_at_call 14; (with_reducible refine (HRO.out _ B0.out).mono ?_); rintro e w4 ⟨v4, rfl, hr4, hb⟩; obtain ⟨Aw, cw, rfl, hlw, hCw⟩ := hr4; replace B0 := Aside0.mk (below_then B0.out B0.out.size hb); have HO4 := Aside0.mk (And.intro (Kd.C_below HO3.out.2 hb) (And.intro hlw hCw)); clear hb hlw hCw) | (go_at_call 15; (with_reducible refine (HNX.out _ B0.out).mono ?_); rintro e w5 ⟨A7, c7, rfl, hl7, hC7, hb⟩; replace B0 := Aside0.mk (below_then B0.out B0.out.size hb); have HO5 := Aside0.mk (And.intro HO3.out.1 (And.intro (Kd.C_below HO4.out.1 hb) (And.intro HO4.out.2.1 (Kd.C_below HO4.out.2.2 hb)))); have H7 := Aside0.mk (And.intro hl7 hC7); clear hb hl7 hC7))
      have BW := B0
      have H5W : Aside0 (Below w.heap.size w (w5.alloc (.cells #[.int .u64 y.f0, .int .u64 y.f1, .int .i64 y.f2, .int .i64 y.f3, .int .u64 y.f4, .bool y.f5, .int .i64 y.f6, .slice A7 y.f7.length c7] 29))) := ⟨below_alloc B0.out _⟩
      have Z5 : Aside0 ((w5.alloc (.cells #[.int .u64 y.f0, .int .u64 y.f1, .int .i64 y.f2, .int .i64 y.f3, .int .u64 y.f4, .bool y.f5, .int .i64 y.f6, .slice A7 y.f7.length c7] 29)).heap[w5.heap.size]? = some (.cells #[.int .u64 y.f0, .int .u64 y.f1, .int .i64 y.f2, .int .i64 y.f3, .int .u64 y.f4, .bool y.f5, .int .i64 y.f6, .slice A7 y.f7.length c7] 29 (0, 0))) := ⟨heap_alloc_new w5 _⟩
      have HO6 : Aside0 (o.length ≤ co ∧ Kd.C k29 (w5.alloc (.cells #[.int .u64 y.f0, .int .u64 y.f1, .int .i64 y.f2, .int .i64 y.f3, .int .u64 y.f4, .bool y.f5, .int .i64 y.f6, .slice A7 y.f7.length c7] 29)) Ao o.length o ∧ o.length ≤ cw ∧ Kd.C k29 (w5.alloc (.cells #[.int .u64 y.f0, .int .u64 y.f1, .int .i64 y.f2, .int .i64 y.f3, .int .u64 y.f4, .bool y.f5, .int .i64 y.f6, .slice A7 y.f7.length c7] 29)) Aw o.length o) := ⟨HO5.out.1, Kd.C_below HO5.out.2.1 (below_alloc (Below.refl _ _) _), HO5.out.2.2.1, Kd.C_below HO5.out.2.2.2 (below_alloc (Below.refl _ _) _)⟩
      have H76 : Aside0 (Kd.C (Kd.int .i64) (w5.alloc (.cells #[.int .u64 y.f0, .int .u64 y.f1, .int .i64 y.f2, .int .i64 y.f3, .int .u64 y.f4, .bool y.f5, .int .i64 y.f6, .slice A7 y.f7.length c7] 29)) A7 y.f7.length y.f7) := ⟨Kd.C_below H7.out.2 (below_alloc (Below.refl _ _) _)⟩
      clear HO3 HO4 HO5 HOR HRO HNX HLI B0
      generalize w5.alloc (.cells #[.int .u64 y.f0, .int .u64 y.f1, .int .i64 y.f2, .int .i64 y.f3, .int .u64 y.f4, .bool y.f5, .int .i64 y.f6, .slice A7 y.f7.length c7] 29) = W0 at Z5 H5W HO6 H76 ⊢
      generalize w5.heap.size = b5 at Z5 ⊢
      have B0 := Aside0.mk (below_drew1 (Below.refl W0.heap.size W0))
      replace Z5 := Aside0.mk (blk_drew Z5.out)
      have HSM : Aside0 (∀ W, Below W0.heap.size W0 W → Calls Try.prog 16 #[.slice Ao o.length co, .slice Aw o.length cw] W fun e w' => e = .returned (.bool true) ∧ Below W.heap.size W w') := ⟨fun W hW => rsame_calls o HOL.out Ao co Aw cw W HO6.out.1 (Kd.C_below HO6.out.2.1 hW) HO6.out.2.2.1 (Kd.C_below HO6.out.2.2.2 hW)⟩
      obtain ⟨aw, Ay, cy, rfl, hAty, hPgy⟩ := at_nat HO6.out.2.2.2 0 HY0.out.1
      have hy0 : o[0]'HY0.out.1 = y := Option.some.inj ((List.getElem?_eq_getElem HY0.out.1).symm.trans HY0.out.2)
      rw [hy0] at hAty hPgy
      have HY : Aside0 (At W0 aw y Ay cy) := ⟨hAty⟩
      have HS1 : Aside0 (∀ W, Below W0.heap.size W0 W → Calls Try.prog 17 #[.agg #[.int .u64 y.f0, .int .u64 y.f1, .int .i64 y.f2, .int .i64 y.f3, .int .u64 y.f4, .bool y.f5, .int .i64 y.f6, .slice A7 y.f7.length c7], .agg #[.int .u64 y.f0, .int .u64 y.f1, .int .i64 y.f2, .int .i64 y.f3, .int .u64 y.f4, .bool y.f5, .int .i64 y.f6, .slice Ay y.f7.length cy]] W fun e w' => e = .returned (.bool true) ∧ Below W.heap.size W w') := ⟨fun W hW => one_same_calls y (HOL.out.2 y (List.mem_of_getElem? HY0.out.2)) A7 c7 Ay cy W ⟨H7.out.1, Kd.C_below H76.out hW⟩ (hPgy.below hW)⟩
      clear hAty hPgy hy0
      refine start_ (n := 32) (S := fun w' => True) (ds := []) #[false, false, false, false, false, false, false, false, false, false, false, false, false, false, false, false, false, false, false, false, false, false, false, false, false, false, false, false, false, false, false, false] (by kernel_rfl) rfl rfl trivial (fun hHeld => ?_)
      refine with_tabW orders5.tab5 orders5.bits5 (fun HT_ HW_ => ?_)
      generalize W0.drew = wq at B0 Z5 hHeld ⊢
      refine inv_at [0, 1, 2, 3, 4, 5, 6, 7, 8, 9, 10, 11, 12, 13, 14, 15, 16, 17, 18, 19, 20, 21, 22, 23, 24, 25, 26, 27, 28, 29, 30, 31] (fun a0_ b a w' => a = putSel a0_ b [(0, 21, .slice Ao o.length co), (1, 22, .slice (some aw) o.length cw), (2, 23, .bool true), (3, 24, .bool false), (4, 25, .bool false), (5, 26, .bool true), (6, 27, .slice (some aw) o.length cw), (7, 28, .int .i64 (o.length : Int)), (8, 29, .bool true), (9, 30, .bool false), (10, 31, .bool false), (11, 32, .bool false), (12, 33, .bool true), (13, 34, .bool true), (14, 35, .agg #[.int .u64 y.f0, .int .u64 y.f1, .int .i64 y.f2, .int .i64 y.f3, .int .u64 y.f4, .bool y.f5, .int .i64 y.f6, .slice A7 y.f7.length c7]), (15, 36, .slice (some aw) o.length cw), (16, 37, .pointer (some aw)), (17, 38, .agg #[.int .u64 y.f0, .int .u64 y.f1, .int .i64 y.f2, .int .i64 y.f3, .int .u64 y.f4, .bool y.f5, .int .i64 y.f6, .slice Ay y.f7.length cy]), (18, 39, .bool true), (19, 40, .bool false), (20, 41, .bool false), (21, 42, .bool false), (22, 43, .bool false), (23, 44, .bool true), (24, 45, .bool false), (25, 46, .bool false), (26, 47, undef), (27, 48, undef), (28, 49, undef), (29, 50, undef), (30, 51, .bool false), (31, 52, .bool false)] ∧ (Below W0.heap.size W0 w') ∧ (w'.heap[b5]? = some (.cells #[.int .u64 y.f0, .int .u64 y.f1, .int .i64 y.f2, .int .i64 y.f3, .int .u64 y.f4, .bool y.f5, .int .i64 y.f6, .slice A7 y.f7.length c7] 29 (0, 0)))) HT_.out HW_.out (by kernel_rfl) (by kernel_rfl) ?_ ?_ ?_
      · exact ⟨by simp only [putSel, Bool.false_eq_true, if_false], B0.out, Z5.out⟩
      · skip
        clear B0 Z5
        refine steps_cons ?_ ?_
        · rintro b a w' ⟨ha, Q_B0, Q_Z5⟩ hb_ hon hoff
          refine ⟨_, rfl, fun K hK => ?_⟩
          have e3 : a.tmps[3]? = some (.slice Ao o.length co) := by rw [ha]; exact (putSel_off rfl).trans rfl
          replace ha := Aside0.mk ha
          have B0 := Aside0.mk Q_B0
          have Z5 := Aside0.mk Q_Z5
          refine value_ (w1 := w') (v := .slice Ao o.length co) (by rfl) rfl ?_ ?_
          · go_simp
            (try simp only [i64_w])
            try rfl
          refine hK.out _ _ ⟨(by rw [ha.out]; exact putSel_upk 0 hb_ rfl rfl rfl), Q_B0, Q_Z5⟩
        refine steps_cons ?_ ?_
        · rintro b a w' ⟨ha, Q_B0, Q_Z5⟩ hb_ hon hoff
          refine ⟨_, rfl, fun K hK => ?_⟩
          have e4 : a.tmps[4]? = some (.slice (some aw) o.length cw) := by rw [ha]; exact (putSel_off rfl).trans rfl
          replace ha := Aside0.mk ha
          have B0 := Aside0.mk Q_B0
          have Z5 := Aside0.mk Q_Z5
          refine value_ (w1 := w') (v := .slice (some aw) o.length cw) (by rfl) rfl ?_ ?_
          · go_simp
            (try simp only [i64_w])
            try rfl
          refine hK.out _ _ ⟨(by rw [ha.out]; exact putSel_upk 1 hb_ rfl rfl rfl), Q_B0, Q_Z5⟩
        refine steps_cons ?_ ?_
        · rintro b a w' ⟨ha, Q_B0, Q_Z5⟩ hb_ hon hoff
          refine ⟨_, rfl, fun K hK => ?_⟩
          have e21 : a.tmps[21]? = some (.slice Ao o.length co) := by rw [ha]; exact putSel_on (e := (0, 21, .slice Ao o.length co)) 0 rfl rfl (hon 0 (by kernel_rfl)) rfl
          have e22 : a.tmps[22]? = some (.slice (some aw) o.length cw) := by rw [ha]; exact putSel_on (e := (1, 22, .slice (some aw) o.length cw)) 1 rfl rfl (hon 1 (by kernel_rfl)) rfl
          replace ha := Aside0.mk ha
          have B0 := Aside0.mk Q_B0
          have Z5 := Aside0.mk Q_Z5
          refine goes_ Try.func16 (by kernel_rfl) rfl #[.slice Ao o.length co, .slice (some aw) o.length cw] (by rfl) rfl rfl (by first | (simp only [List.map_toArray, List.map_cons, List.map_nil, Act.eval, Array.getD_eq_getD_getElem?, Option.getD_some, e21, e22]; done) | (simp only [List.map_toArray, List.map_cons, List.map_nil, Act.eval, Array.getD_eq_getD_getElem?, Option.getD_some, e21, e22]; rfl)) ?_
          with_reducible refine (HSM.out _ B0.out).mono ?_
          rintro e w2 ⟨rfl, hb⟩
          refine ⟨_, rfl, ?_⟩
          refine hK.out _ _ ⟨(by rw [ha.out]; exact putSel_upk 2 hb_ rfl rfl rfl), below_then B0.out B0.out.size hb, blk_below Z5.out hb⟩
        refine steps_cons ?_ ?_
        · rintro b a w' ⟨ha, Q_B0, Q_Z5⟩ hb_ hon hoff
          refine ⟨_, rfl, fun K hK => ?_⟩
          have e23 : a.tmps[23]? = some (.bool true) := by rw [ha]; exact putSel_on (e := (2, 23, .bool true)) 2 rfl rfl (hon 2 (by kernel_rfl)) rfl
          replace ha := Aside0.mk ha
          have B0 := Aside0.mk Q_B0
          have Z5 := Aside0.mk Q_Z5
          refine value_ (w1 := w') (v := .bool false) (by rfl) rfl ?_ ?_
          · go_simp
            (try simp only [i64_w])
            try rfl
          refine hK.out _ _ ⟨(by rw [ha.out]; exact putSel_upk 3 hb_ rfl rfl rfl), Q_B0, Q_Z5⟩
        refine steps_cons ?_ ?_
        · rintro b a w' ⟨ha, Q_B0, Q_Z5⟩ hb_ hon hoff
          refine ⟨_, rfl, fun K hK => ?_⟩
          have e24 : a.tmps[24]? = some (.bool false) := by rw [ha]; exact putSel_on (e := (3, 24, .bool false)) 3 rfl rfl (hon 3 (by kernel_rfl)) rfl
          replace ha := Aside0.mk ha
          have B0 := Aside0.mk Q_B0
          have Z5 := Aside0.mk Q_Z5
          refine value_ (w1 := w') (v := .bool false) (by rfl) rfl ?_ ?_
          · go_simp
            (try simp only [i64_w])
            try rfl
          refine hK.out _ _ ⟨(by rw [ha.out]; exact putSel_upk 4 hb_ rfl rfl rfl), Q_B0, Q_Z5⟩
        refine steps_cons ?_ ?_
        · rintro b a w' ⟨ha, Q_B0, Q_Z5⟩ hb_ hon hoff
          refine ⟨_, rfl, fun K hK => ?_⟩
          have e6 : a.tmps[6]? = some (.bool true) := by rw [ha]; exact (putSel_off rfl).trans rfl
          have e25 : a.tmps[25]? = some (.bool false) := by rw [ha]; exact putSel_on (e := (4, 25, .bool false)) 4 rfl rfl (hon 4 (by kernel_rfl)) rfl
          replace ha := Aside0.mk ha
          have B0 := Aside0.mk Q_B0
          have Z5 := Aside0.mk Q_Z5
          refine value_ (w1 := w') (v := .bool true) (wanted_on rfl rfl rfl (e25.trans (by first | rfl | (simp [*]; done)))) rfl ?_ ?_
          · go_simp
            (try simp only [i64_w])
            try rfl
          refine hK.out _ _ ⟨(by rw [ha.out]; exact putSel_upk 5 hb_ rfl rfl rfl), Q_B0, Q_Z5⟩
        refine steps_cons ?_ ?_
        · rintro b a w' ⟨ha, Q_B0, Q_Z5⟩ hb_ hon hoff
          refine ⟨_, rfl, fun K hK => ?_⟩
          have e4 : a.tmps[4]? = some (.slice (some aw) o.length cw) := by rw [ha]; exact (putSel_off rfl).trans rfl
          have e25 : a.tmps[25]? = some (.bool false) := by rw [ha]; exact putSel_on (e := (4, 25, .bool false)) 4 rfl rfl (hon 4 (by kernel_rfl)) rfl
          replace ha := Aside0.mk ha
          have B0 := Aside0.mk Q_B0
          have Z5 := Aside0.mk Q_Z5
          refine value_ (w1 := w') (v := .slice (some aw) o.length cw) (wanted_on rfl rfl rfl (e25.trans (by first | rfl | (simp [*]; done)))) rfl ?_ ?_
          · go_simp
            (try simp only [i64_w])
            try rfl
          refine hK.out _ _ ⟨(by rw [ha.out]; exact putSel_upk 6 hb_ rfl rfl rfl), Q_B0, Q_Z5⟩
        refine steps_cons ?_ ?_
        · rintro b a w' ⟨ha, Q_B0, Q_Z5⟩ hb_ hon hoff
          refine ⟨_, rfl, fun K hK => ?_⟩
          have e27 : a.tmps[27]? = some (.slice (some aw) o.length cw) := by rw [ha]; exact putSel_on (e := (6, 27, .slice (some aw) o.length cw)) 6 rfl rfl (hon 6 (by kernel_rfl)) rfl
          have e25 : a.tmps[25]? = some (.bool false) := by rw [ha]; exact putSel_on (e := (4, 25, .bool false)) 4 rfl rfl (hon 4 (by kernel_rfl)) rfl
          replace ha := Aside0.mk ha
          have B0 := Aside0.mk Q_B0
          have Z5 := Aside0.mk Q_Z5
          refine value_ (w1 := w') (v := .int .i64 (o.length : Int)) (wanted_on rfl rfl rfl (e25.trans (by first | rfl | (simp [*]; done)))) rfl ?_ ?_
          · go_simp
            (try simp only [i64_w])
            try rfl
          refine hK.out _ _ ⟨(by rw [ha.out]; exact putSel_upk 7 hb_ rfl rfl rfl), Q_B0, Q_Z5⟩
        refine steps_cons ?_ ?_
        · rintro b a w' ⟨ha, Q_B0, Q_Z5⟩ hb_ hon hoff
          refine ⟨_, rfl, fun K hK => ?_⟩
          have e28 : a.tmps[28]? = some (.int .i64 (o.length : Int)) := by rw [ha]; exact putSel_on (e := (7, 28, .int .i64 (o.length : Int))) 7 rfl rfl (hon 7 (by kernel_rfl)) rfl
          have e25 : a.tmps[25]? = some (.bool false) := by rw [ha]; exact putSel_on (e := (4, 25, .bool false)) 4 rfl rfl (hon 4 (by kernel_rfl)) rfl
          replace ha := Aside0.mk ha
          have B0 := Aside0.mk Q_B0
          have Z5 := Aside0.mk Q_Z5
          have t_ := HLEN.out.1
          have t2_ := HLEN.out.2.2.1
          have t3_ := HLEN.out.2.2.2
          refine value_ (w1 := w') (v := .bool true) (wanted_on rfl rfl rfl (e25.trans (by first | rfl | (simp [*]; done)))) rfl ?_ ?_
          · go_simp
            (try simp only [i64_w])
            try rfl
          refine hK.out _ _ ⟨(by rw [ha.out]; exact putSel_upk 8 hb_ rfl rfl rfl), Q_B0, Q_Z5⟩
        refine steps_cons ?_ ?_
        · rintro b a w' ⟨ha, Q_B0, Q_Z5⟩ hb_ hon hoff
          refine ⟨_, rfl, fun K hK => ?_⟩
          have e26 : a.tmps[26]? = some (.bool true) := by rw [ha]; exact putSel_on (e := (5, 26, .bool true)) 5 rfl rfl (hon 5 (by kernel_rfl)) rfl
          have e29 : a.tmps[29]? = some (.bool true) := by rw [ha]; exact putSel_on (e := (8, 29, .bool true)) 8 rfl rfl (hon 8 (by kernel_rfl)) rfl
          have e25 : a.tmps[25]? = some (.bool false) := by rw [ha]; exact putSel_on (e := (4, 25, .bool false)) 4 rfl rfl (hon 4 (by kernel_rfl)) rfl
          replace ha := Aside0.mk ha
          have B0 := Aside0.mk Q_B0
          have Z5 := Aside0.mk Q_Z5
          refine value_ (w1 := w') (v := .bool false) (wanted_on rfl rfl rfl (e25.trans (by first | rfl | (simp [*]; done)))) rfl ?_ ?_
          · go_simp
            (try simp only [i64_w])
            try rfl
          refine hK.out _ _ ⟨(by rw [ha.out]; exact putSel_upk 9 hb_ rfl rfl rfl), Q_B0, Q_Z5⟩
        refine steps_cons ?_ ?_
        · rintro b a w' ⟨ha, Q_B0, Q_Z5⟩ hb_ hon hoff
          refine ⟨_, rfl, fun K hK => ?_⟩
          have e25 : a.tmps[25]? = some (.bool false) := by rw [ha]; exact putSel_on (e := (4, 25, .bool false)) 4 rfl rfl (hon 4 (by kernel_rfl)) rfl
          have e30 : a.tmps[30]? = some (.bool false) := by rw [ha]; exact putSel_on (e := (9, 30, .bool false)) 9 rfl rfl (hon 9 (by kernel_rfl)) rfl
          replace ha := Aside0.mk ha
          have B0 := Aside0.mk Q_B0
          have Z5 := Aside0.mk Q_Z5
          refine value_ (w1 := w') (v := .bool false) (by rfl) rfl ?_ ?_
          · go_simp
            (try simp only [i64_w])
            try rfl
          refine hK.out _ _ ⟨(by rw [ha.out]; exact putSel_upk 10 hb_ rfl rfl rfl), Q_B0, Q_Z5⟩
        refine steps_cons ?_ ?_
        · rintro b a w' ⟨ha, Q_B0, Q_Z5⟩ hb_ hon hoff
          refine ⟨_, rfl, fun K hK => ?_⟩
          have e31 : a.tmps[31]? = some (.bool false) := by rw [ha]; exact putSel_on (e := (10, 31, .bool false)) 10 rfl rfl (hon 10 (by kernel_rfl)) rfl
          replace ha := Aside0.mk ha
          have B0 := Aside0.mk Q_B0
          have Z5 := Aside0.mk Q_Z5
          refine value_ (w1 := w') (v := .bool false) (by rfl) rfl ?_ ?_
          · go_simp
            (try simp only [i64_w])
            try rfl
          refine hK.out _ _ ⟨(by rw [ha.out]; exact putSel_upk 11 hb_ rfl rfl rfl), Q_B0, Q_Z5⟩
        refine steps_cons ?_ ?_
        · rintro b a w' ⟨ha, Q_B0, Q_Z5⟩ hb_ hon hoff
          refine ⟨_, rfl, fun K hK => ?_⟩
          have e6 : a.tmps[6]? = some (.bool true) := by rw [ha]; exact (putSel_off rfl).trans rfl
          have e32 : a.tmps[32]? = some (.bool false) := by rw [ha]; exact putSel_on (e := (11, 32, .bool false)) 11 rfl rfl (hon 11 (by kernel_rfl)) rfl
          replace ha := Aside0.mk ha
          have B0 := Aside0.mk Q_B0
          have Z5 := Aside0.mk Q_Z5
          refine value_ (w1 := w') (v := .bool true) (wanted_on rfl rfl rfl (e32.trans (by first | rfl | (simp [*]; done)))) rfl ?_ ?_
          · go_simp
            (try simp only [i64_w])
            try rfl
          refine hK.out _ _ ⟨(by rw [ha.out]; exact putSel_upk 12 hb_ rfl rfl rfl), Q_B0, Q_Z5⟩
        refine steps_cons ?_ ?_
        · rintro b a w' ⟨ha, Q_B0, Q_Z5⟩ hb_ hon hoff
          refine ⟨_, rfl, fun K hK => ?_⟩
          have e33 : a.tmps[33]? = some (.bool true) := by rw [ha]; exact putSel_on (e := (12, 33, .bool true)) 12 rfl rfl (hon 12 (by kernel_rfl)) rfl
          have e32 : a.tmps[32]? = some (.bool false) := by rw [ha]; exact putSel_on (e := (11, 32, .bool false)) 11 rfl rfl (hon 11 (by kernel_rfl)) rfl
          replace ha := Aside0.mk ha
          have B0 := Aside0.mk Q_B0
          have Z5 := Aside0.mk Q_Z5
          refine value_ (w1 := w') (v := .bool true) (wanted_on rfl rfl rfl (e32.trans (by first | rfl | (simp [*]; done)))) rfl ?_ ?_
          · go_simp
            (try simp only [i64_w])
            try rfl
          refine hK.out _ _ ⟨(by rw [ha.out]; exact putSel_upk 13 hb_ rfl rfl rfl), Q_B0, Q_Z5⟩
        refine steps_cons ?_ ?_
        · rintro b a w' ⟨ha, Q_B0, Q_Z5⟩ hb_ hon hoff
          refine ⟨_, rfl, fun K hK => ?_⟩
          have e5 : a.tmps[5]? = some (.pointer (some ⟨b5, 0, none⟩)) := by rw [ha]; exact (putSel_off rfl).trans rfl
          have e34 : a.tmps[34]? = some (.bool true) := by rw [ha]; exact putSel_on (e := (13, 34, .bool true)) 13 rfl rfl (hon 13 (by kernel_rfl)) rfl
          replace ha := Aside0.mk ha
          have B0 := Aside0.mk Q_B0
          have Z5 := Aside0.mk Q_Z5
          have c0_ := blk_cell Z5.out 0
          have c1_ := blk_cell Z5.out 1
          have c2_ := blk_cell Z5.out 2
          have c3_ := blk_cell Z5.out 3
          have c4_ := blk_cell Z5.out 4
          have c5_ := blk_cell Z5.out 5
          have c6_ := blk_cell Z5.out 6
          have c7_ := blk_cell Z5.out 7
          refine value_ (w1 := w') (v := .agg #[.int .u64 y.f0, .int .u64 y.f1, .int .i64 y.f2, .int .i64 y.f3, .int .u64 y.f4, .bool y.f5, .int .i64 y.f6, .slice A7 y.f7.length c7]) (wanted_on rfl rfl rfl (e34.trans (by first | rfl | (simp [*]; done)))) rfl ?_ ?_
          · go_simp
            (try simp only [i64_w])
            try rfl
          refine hK.out _ _ ⟨(by rw [ha.out]; exact putSel_upk 14 hb_ rfl rfl rfl), Q_B0, Q_Z5⟩
        refine steps_cons ?_ ?_
        · rintro b a w' ⟨ha, Q_B0, Q_Z5⟩ hb_ hon hoff
          refine ⟨_, rfl, fun K hK => ?_⟩
          have e4 : a.tmps[4]? = some (.slice (some aw) o.length cw) := by rw [ha]; exact (putSel_off rfl).trans rfl
          have e34 : a.tmps[34]? = some (.bool true) := by rw [ha]; exact putSel_on (e := (13, 34, .bool true)) 13 rfl rfl (hon 13 (by kernel_rfl)) rfl
          replace ha := Aside0.mk ha
          have B0 := Aside0.mk Q_B0
          have Z5 := Aside0.mk Q_Z5
          refine value_ (w1 := w') (v := .slice (some aw) o.length cw) (wanted_on rfl rfl rfl (e34.trans (by first | rfl | (simp [*]; done)))) rfl ?_ ?_
          · go_simp
            (try simp only [i64_w])
            try rfl
          refine hK.out _ _ ⟨(by rw [ha.out]; exact putSel_upk 15 hb_ rfl rfl rfl), Q_B0, Q_Z5⟩
        refine steps_cons ?_ ?_
        · rintro b a w' ⟨ha, Q_B0, Q_Z5⟩ hb_ hon hoff
          refine ⟨_, rfl, fun K hK => ?_⟩
          have e36 : a.tmps[36]? = some (.slice (some aw) o.length cw) := by rw [ha]; exact putSel_on (e := (15, 36, .slice (some aw) o.length cw)) 15 rfl rfl (hon 15 (by kernel_rfl)) rfl
          have e34 : a.tmps[34]? = some (.bool true) := by rw [ha]; exact putSel_on (e := (13, 34, .bool true)) 13 rfl rfl (hon 13 (by kernel_rfl)) rfl
          replace ha := Aside0.mk ha
          have B0 := Aside0.mk Q_B0
          have Z5 := Aside0.mk Q_Z5
          have q_ := HLEN.out.2.1
          have q2_ := HLEN.out.1
          have q3_ := HLEN.out.2.2.1
          have q4_ := HLEN.out.2.2.2
          refine value_ (w1 := w') (v := .pointer (some aw)) (wanted_on rfl rfl rfl (e34.trans (by first | rfl | (simp [*]; done)))) rfl ?_ ?_
          · go_simp
            (try simp only [i64_w])
            try rfl
          refine hK.out _ _ ⟨(by rw [ha.out]; exact putSel_upk 16 hb_ rfl rfl rfl), Q_B0, Q_Z5⟩
        refine steps_cons ?_ ?_
        · rintro b a w' ⟨ha, Q_B0, Q_Z5⟩ hb_ hon hoff
          refine ⟨_, rfl, fun K hK => ?_⟩
          have e37 : a.tmps[37]? = some (.pointer (some aw)) := by rw [ha]; exact putSel_on (e := (16, 37, .pointer (some aw))) 16 rfl rfl (hon 16 (by kernel_rfl)) rfl
          have e34 : a.tmps[34]? = some (.bool true) := by rw [ha]; exact putSel_on (e := (13, 34, .bool true)) 13 rfl rfl (hon 13 (by kernel_rfl)) rfl
          replace ha := Aside0.mk ha
          have B0 := Aside0.mk Q_B0
          have Z5 := Aside0.mk Q_Z5
          obtain ⟨x0_, x1_, x2_, x3_, x4_, x5_, x6_, x7_⟩ := HY.out.below B0.out
          refine value_ (w1 := w') (v := .agg #[.int .u64 y.f0, .int .u64 y.f1, .int .i64 y.f2, .int .i64 y.f3, .int .u64 y.f4, .bool y.f5, .int .i64 y.f6, .slice Ay y.f7.length cy]) (wanted_on rfl rfl rfl (e34.trans (by first | rfl | (simp [*]; done)))) rfl ?_ ?_
          · go_simp
            (try simp only [i64_w])
            try rfl
          refine hK.out _ _ ⟨(by rw [ha.out]; exact putSel_upk 17 hb_ rfl rfl rfl), Q_B0, Q_Z5⟩
        refine steps_cons ?_ ?_
        · rintro b a w' ⟨ha, Q_B0, Q_Z5⟩ hb_ hon hoff
          refine ⟨_, rfl, fun K hK => ?_⟩
          have e35 : a.tmps[35]? = some (.agg #[.int .u64 y.f0, .int .u64 y.f1, .int .i64 y.f2, .int .i64 y.f3, .int .u64 y.f4, .bool y.f5, .int .i64 y.f6, .slice A7 y.f7.length c7]) := by rw [ha]; exact putSel_on (e := (14, 35, .agg #[.int .u64 y.f0, .int .u64 y.f1, .int .i64 y.f2, .int .i64 y.f3, .int .u64 y.f4, .bool y.f5, .int .i64 y.f6, .slice A7 y.f7.length c7])) 14 rfl rfl (hon 14 (by kernel_rfl)) rfl
          have e38 : a.tmps[38]? = some (.agg #[.int .u64 y.f0, .int .u64 y.f1, .int .i64 y.f2, .int .i64 y.f3, .int .u64 y.f4, .bool y.f5, .int .i64 y.f6, .slice Ay y.f7.length cy]) := by rw [ha]; exact putSel_on (e := (17, 38, .agg #[.int .u64 y.f0, .int .u64 y.f1, .int .i64 y.f2, .int .i64 y.f3, .int .u64 y.f4, .bool y.f5, .int .i64 y.f6, .slice Ay y.f7.length cy])) 17 rfl rfl (hon 17 (by kernel_rfl)) rfl
          have e34 : a.tmps[34]? = some (.bool true) := by rw [ha]; exact putSel_on (e := (13, 34, .bool true)) 13 rfl rfl (hon 13 (by kernel_rfl)) rfl
          replace ha := Aside0.mk ha
          have B0 := Aside0.mk Q_B0
          have Z5 := Aside0.mk Q_Z5
          refine goes_ Try.func17 (by kernel_rfl) rfl #[.agg #[.int .u64 y.f0, .int .u64 y.f1, .int .i64 y.f2, .int .i64 y.f3, .int .u64 y.f4, .bool y.f5, .int .i64 y.f6, .slice A7 y.f7.length c7], .agg #[.int .u64 y.f0, .int .u64 y.f1, .int .i64 y.f2, .int .i64 y.f3, .int .u64 y.f4, .bool y.f5, .int .i64 y.f6, .slice Ay y.f7.length cy]] (wanted_on rfl rfl rfl (e34.trans rfl)) rfl rfl (by first | (simp only [List.map_toArray, List.map_cons, List.map_nil, Act.eval, Array.getD_eq_getD_getElem?, Option.getD_some, e35, e38, e34]; done) | (simp only [List.map_toArray, List.map_cons, List.map_nil, Act.eval, Array.getD_eq_getD_getElem?, Option.getD_some, e35, e38, e34]; rfl)) ?_
          with_reducible refine (HS1.out _ B0.out).mono ?_
          rintro e w2 ⟨rfl, hb⟩
          refine ⟨_, rfl, ?_⟩
          refine hK.out _ _ ⟨(by rw [ha.out]; exact putSel_upk 18 hb_ rfl rfl rfl), below_then B0.out B0.out.size hb, blk_below Z5.out hb⟩
        refine steps_cons ?_ ?_
        · rintro b a w' ⟨ha, Q_B0, Q_Z5⟩ hb_ hon hoff
          refine ⟨_, rfl, fun K hK => ?_⟩
          have e39 : a.tmps[39]? = some (.bool true) := by rw [ha]; exact putSel_on (e := (18, 39, .bool true)) 18 rfl rfl (hon 18 (by kernel_rfl)) rfl
          have e34 : a.tmps[34]? = some (.bool true) := by rw [ha]; exact putSel_on (e := (13, 34, .bool true)) 13 rfl rfl (hon 13 (by kernel_rfl)) rfl
          replace ha := Aside0.mk ha
          have B0 := Aside0.mk Q_B0
          have Z5 := Aside0.mk Q_Z5
          refine value_ (w1 := w') (v := .bool false) (wanted_on rfl rfl rfl (e34.trans (by first | rfl | (simp [*]; done)))) rfl ?_ ?_
          · go_simp
            (try simp only [i64_w])
            try rfl
          refine hK.out _ _ ⟨(by rw [ha.out]; exact putSel_upk 19 hb_ rfl rfl rfl), Q_B0, Q_Z5⟩
        refine steps_cons ?_ ?_
        · rintro b a w' ⟨ha, Q_B0, Q_Z5⟩ hb_ hon hoff
          refine ⟨_, rfl, fun K hK => ?_⟩
          have e34 : a.tmps[34]? = some (.bool true) := by rw [ha]; exact putSel_on (e := (13, 34, .bool true)) 13 rfl rfl (hon 13 (by kernel_rfl)) rfl
          have e40 : a.tmps[40]? = some (.bool false) := by rw [ha]; exact putSel_on (e := (19, 40, .bool false)) 19 rfl rfl (hon 19 (by kernel_rfl)) rfl
          have e32 : a.tmps[32]? = some (.bool false) := by rw [ha]; exact putSel_on (e := (11, 32, .bool false)) 11 rfl rfl (hon 11 (by kernel_rfl)) rfl
          replace ha := Aside0.mk ha
          have B0 := Aside0.mk Q_B0
          have Z5 := Aside0.mk Q_Z5
          refine value_ (w1 := w') (v := .bool false) (wanted_on rfl rfl rfl (e32.trans (by first | rfl | (simp [*]; done)))) rfl ?_ ?_
          · go_simp
            (try simp only [i64_w])
            try rfl
          refine hK.out _ _ ⟨(by rw [ha.out]; exact putSel_upk 20 hb_ rfl rfl rfl), Q_B0, Q_Z5⟩
        refine steps_cons ?_ ?_
        · rintro b a w' ⟨ha, Q_B0, Q_Z5⟩ hb_ hon hoff
          refine ⟨_, rfl, fun K hK => ?_⟩
          have e32 : a.tmps[32]? = some (.bool false) := by rw [ha]; exact putSel_on (e := (11, 32, .bool false)) 11 rfl rfl (hon 11 (by kernel_rfl)) rfl
          have e41 : a.tmps[41]? = some (.bool false) := by rw [ha]; exact putSel_on (e := (20, 41, .bool false)) 20 rfl rfl (hon 20 (by kernel_rfl)) rfl
          replace ha := Aside0.mk ha
          have B0 := Aside0.mk Q_B0
          have Z5 := Aside0.mk Q_Z5
          refine value_ (w1 := w') (v := .bool false) (by rfl) rfl ?_ ?_
          · go_simp
            (try simp only [i64_w])
            try rfl
          refine hK.out _ _ ⟨(by rw [ha.out]; exact putSel_upk 21 hb_ rfl rfl rfl), Q_B0, Q_Z5⟩
        refine steps_cons ?_ ?_
        · rintro b a w' ⟨ha, Q_B0, Q_Z5⟩ hb_ hon hoff
          refine ⟨_, rfl, fun K hK => ?_⟩
          have e42 : a.tmps[42]? = some (.bool false) := by rw [ha]; exact putSel_on (e := (21, 42, .bool false)) 21 rfl rfl (hon 21 (by kernel_rfl)) rfl
          replace ha := Aside0.mk ha
          have B0 := Aside0.mk Q_B0
          have Z5 := Aside0.mk Q_Z5
          refine value_ (w1 := w') (v := .bool false) (by rfl) rfl ?_ ?_
          · go_simp
            (try simp only [i64_w])
            try rfl
          refine hK.out _ _ ⟨(by rw [ha.out]; exact putSel_upk 22 hb_ rfl rfl rfl), Q_B0, Q_Z5⟩
        refine steps_cons ?_ ?_
        · rintro b a w' ⟨ha, Q_B0, Q_Z5⟩ hb_ hon hoff
          refine ⟨_, rfl, fun K hK => ?_⟩
          have e6 : a.tmps[6]? = some (.bool true) := by rw [ha]; exact (putSel_off rfl).trans rfl
          have e43 : a.tmps[43]? = some (.bool false) := by rw [ha]; exact putSel_on (e := (22, 43, .bool false)) 22 rfl rfl (hon 22 (by kernel_rfl)) rfl
          replace ha := Aside0.mk ha
          have B0 := Aside0.mk Q_B0
          have Z5 := Aside0.mk Q_Z5
          refine value_ (w1 := w') (v := .bool true) (wanted_on rfl rfl rfl (e43.trans (by first | rfl | (simp [*]; done)))) rfl ?_ ?_
          · go_simp
            (try simp only [i64_w])
            try rfl
          refine hK.out _ _ ⟨(by rw [ha.out]; exact putSel_upk 23 hb_ rfl rfl rfl), Q_B0, Q_Z5⟩
        refine steps_cons ?_ ?_
        · rintro b a w' ⟨ha, Q_B0, Q_Z5⟩ hb_ hon hoff
          refine ⟨_, rfl, fun K hK => ?_⟩
          have e44 : a.tmps[44]? = some (.bool true) := by rw [ha]; exact putSel_on (e := (23, 44, .bool true)) 23 rfl rfl (hon 23 (by kernel_rfl)) rfl
          have e43 : a.tmps[43]? = some (.bool false) := by rw [ha]; exact putSel_on (e := (22, 43, .bool false)) 22 rfl rfl (hon 22 (by kernel_rfl)) rfl
          replace ha := Aside0.mk ha
          have B0 := Aside0.mk Q_B0
          have Z5 := Aside0.mk Q_Z5
          refine value_ (w1 := w') (v := .bool false) (wanted_on rfl rfl rfl (e43.trans (by first | rfl | (simp [*]; done)))) rfl ?_ ?_
          · go_simp
            (try simp only [i64_w])
            try rfl
          refine hK.out _ _ ⟨(by rw [ha.out]; exact putSel_upk 24 hb_ rfl rfl rfl), Q_B0, Q_Z5⟩
        refine steps_cons ?_ ?_
        · rintro b a w' ⟨ha, Q_B0, Q_Z5⟩ hb_ hon hoff
          refine ⟨_, rfl, fun K hK => ?_⟩
          have e45 : a.tmps[45]? = some (.bool false) := by rw [ha]; exact putSel_on (e := (24, 45, .bool false)) 24 rfl rfl (hon 24 (by kernel_rfl)) rfl
          have e43 : a.tmps[43]? = some (.bool false) := by rw [ha]; exact putSel_on (e := (22, 43, .bool false)) 22 rfl rfl (hon 22 (by kernel_rfl)) rfl
          replace ha := Aside0.mk ha
          have B0 := Aside0.mk Q_B0
          have Z5 := Aside0.mk Q_Z5
          refine value_ (w1 := w') (v := .bool false) (wanted_on rfl rfl rfl (e43.trans (by first | rfl | (simp [*]; done)))) rfl ?_ ?_
          · go_simp
            (try simp only [i64_w])
            try rfl
          refine hK.out _ _ ⟨(by rw [ha.out]; exact putSel_upk 25 hb_ rfl rfl rfl), Q_B0, Q_Z5⟩
        refine steps_cons ?_ ?_
        · rintro b a w' ⟨ha, Q_B0, Q_Z5⟩ hb_ hon hoff
          refine ⟨_, rfl, fun K hK => ?_⟩
          have e46 : a.tmps[46]? = some (.bool false) := by rw [ha]; exact putSel_on (e := (25, 46, .bool false)) 25 rfl rfl (hon 25 (by kernel_rfl)) rfl
          replace ha := Aside0.mk ha
          have B0 := Aside0.mk Q_B0
          have Z5 := Aside0.mk Q_Z5
          refine off_ (wanted_off rfl rfl rfl (e46.trans (by first | rfl | (simp [*]; done)))) ?_
          refine hK.out _ _ ⟨(by rw [ha.out]; exact putSel_upk 26 hb_ rfl rfl rfl), Q_B0, Q_Z5⟩
        refine steps_cons ?_ ?_
        · rintro b a w' ⟨ha, Q_B0, Q_Z5⟩ hb_ hon hoff
          refine ⟨_, rfl, fun K hK => ?_⟩
          have e46 : a.tmps[46]? = some (.bool false) := by rw [ha]; exact putSel_on (e := (25, 46, .bool false)) 25 rfl rfl (hon 25 (by kernel_rfl)) rfl
          replace ha := Aside0.mk ha
          have B0 := Aside0.mk Q_B0
          have Z5 := Aside0.mk Q_Z5
          refine off_ (wanted_off rfl rfl rfl (e46.trans (by first | rfl | (simp [*]; done)))) ?_
          refine hK.out _ _ ⟨(by rw [ha.out]; exact putSel_upk 27 hb_ rfl rfl rfl), Q_B0, Q_Z5⟩
        refine steps_cons ?_ ?_
        · rintro b a w' ⟨ha, Q_B0, Q_Z5⟩ hb_ hon hoff
          refine ⟨_, rfl, fun K hK => ?_⟩
          have e46 : a.tmps[46]? = some (.bool false) := by rw [ha]; exact putSel_on (e := (25, 46, .bool false)) 25 rfl rfl (hon 25 (by kernel_rfl)) rfl
          replace ha := Aside0.mk ha
          have B0 := Aside0.mk Q_B0
          have Z5 := Aside0.mk Q_Z5
          refine off_ (wanted_off rfl rfl rfl (e46.trans (by first | rfl | (simp [*]; done)))) ?_
          refine hK.out _ _ ⟨(by rw [ha.out]; exact putSel_upk 28 hb_ rfl rfl rfl), Q_B0, Q_Z5⟩
        refine steps_cons ?_ ?_
        · rintro b a w' ⟨ha, Q_B0, Q_Z5⟩ hb_ hon hoff
          refine ⟨_, rfl, fun K hK => ?_⟩
          have e46 : a.tmps[46]? = some (.bool false) := by rw [ha]; exact putSel_on (e := (25, 46, .bool false)) 25 rfl rfl (hon 25 (by kernel_rfl)) rfl
          replace ha := Aside0.mk ha
          have B0 := Aside0.mk Q_B0
          have Z5 := Aside0.mk Q_Z5
          refine off_ (wanted_off rfl rfl rfl (e46.trans (by first | rfl | (simp [*]; done)))) ?_
          refine hK.out _ _ ⟨(by rw [ha.out]; exact putSel_upk 29 hb_ rfl rfl rfl), Q_B0, Q_Z5⟩
        refine steps_cons ?_ ?_
        · rintro b a w' ⟨ha, Q_B0, Q_Z5⟩ hb_ hon hoff
          refine ⟨_, rfl, fun K hK => ?_⟩
          have e46 : a.tmps[46]? = some (.bool false) := by rw [ha]; exact putSel_on (e := (25, 46, .bool false)) 25 rfl rfl (hon 25 (by kernel_rfl)) rfl
          have e50 : a.tmps[50]? = some (undef) := by rw [ha]; exact putSel_on (e := (29, 50, undef)) 29 rfl rfl (hon 29 (by kernel_rfl)) rfl
          have e43 : a.tmps[43]? = some (.bool false) := by rw [ha]; exact putSel_on (e := (22, 43, .bool false)) 22 rfl rfl (hon 22 (by kernel_rfl)) rfl
          replace ha := Aside0.mk ha
          have B0 := Aside0.mk Q_B0
          have Z5 := Aside0.mk Q_Z5
          refine value_ (w1 := w') (v := .bool false) (wanted_on rfl rfl rfl (e43.trans (by first | rfl | (simp [*]; done)))) rfl ?_ ?_
          · go_simp
            (try simp only [i64_w])
            try rfl
          refine hK.out _ _ ⟨(by rw [ha.out]; exact putSel_upk 30 hb_ rfl rfl rfl), Q_B0, Q_Z5⟩
        refine steps_cons ?_ ?_
        · rintro b a w' ⟨ha, Q_B0, Q_Z5⟩ hb_ hon hoff
          refine ⟨_, rfl, fun K hK => ?_⟩
          have e43 : a.tmps[43]? = some (.bool false) := by rw [ha]; exact putSel_on (e := (22, 43, .bool false)) 22 rfl rfl (hon 22 (by kernel_rfl)) rfl
          have e51 : a.tmps[51]? = some (.bool false) := by rw [ha]; exact putSel_on (e := (30, 51, .bool false)) 30 rfl rfl (hon 30 (by kernel_rfl)) rfl
          replace ha := Aside0.mk ha
          have B0 := Aside0.mk Q_B0
          have Z5 := Aside0.mk Q_Z5
          refine value_ (w1 := w') (v := .bool false) (by rfl) rfl ?_ ?_
          · go_simp
            (try simp only [i64_w])
            try rfl
          refine hK.out _ _ ⟨(by rw [ha.out]; exact putSel_upk 31 hb_ rfl rfl rfl), Q_B0, Q_Z5⟩
        exact steps_nil
      rintro b a wl hall ⟨ha, Q_B0, Q_Z5⟩
      clear B0 Z5
      have hb0_ := hall 0 (by kernel_rfl)
      have hb1_ := hall 1 (by kernel_rfl)
      have hb2_ := hall 2 (by kernel_rfl)
      have hb3_ := hall 3 (by kernel_rfl)
      have hb4_ := hall 4 (by kernel_rfl)
      have hb5_ := hall 5 (by kernel_rfl)
      have hb6_ := hall 6 (by kernel_rfl)
      have hb7_ := hall 7 (by kernel_rfl)
      have hb8_ := hall 8 (by kernel_rfl)
      have hb9_ := hall 9 (by kernel_rfl)
      have hb10_ := hall 10 (by kernel_rfl)
      have hb11_ := hall 11 (by kernel_rfl)
      have hb12_ := hall 12 (by kernel_rfl)
      have hb13_ := hall 13 (by kernel_rfl)
      have hb14_ := hall 14 (by kernel_rfl)
      have hb15_ := hall 15 (by kernel_rfl)
      have hb16_ := hall 16 (by kernel_rfl)
      have hb17_ := hall 17 (by kernel_rfl)
      have hb18_ := hall 18 (by kernel_rfl)
      have hb19_ := hall 19 (by kernel_rfl)
      have hb20_ := hall 20 (by kernel_rfl)
      have hb21_ := hall 21 (by kernel_rfl)
      have hb22_ := hall 22 (by kernel_rfl)
      have hb23_ := hall 23 (by kernel_rfl)
      have hb24_ := hall 24 (by kernel_rfl)
      have hb25_ := hall 25 (by kernel_rfl)
      have hb26_ := hall 26 (by kernel_rfl)
      have hb27_ := hall 27 (by kernel_rfl)
      have hb28_ := hall 28 (by kernel_rfl)
      have hb29_ := hall 29 (by kernel_rfl)
      have hb30_ := hall 30 (by kernel_rfl)
      have hb31_ := hall 31 (by kernel_rfl)
      subst ha
      simp only [putSel, hb0_, hb1_, hb2_, hb3_, hb4_, hb5_, hb6_, hb7_, hb8_, hb9_, hb10_, hb11_, hb12_, hb13_, hb14_, hb15_, hb16_, hb17_, hb18_, hb19_, hb20_, hb21_, hb22_, hb23_, hb24_, hb25_, hb26_, hb27_, hb28_, hb29_, hb30_, hb31_, if_true, Act.put, List.setIfInBounds_toArray, List.set_cons_zero, List.set_cons_succ]
      have B0 := Aside0.mk Q_B0
      clear Q_B0
      have Z5 := Aside0.mk Q_Z5
      clear Q_Z5
      clear hall hb0_ hb1_ hb2_ hb3_ hb4_ hb5_ hb6_ hb7_ hb8_ hb9_ hb10_ hb11_ hb12_ hb13_ hb14_ hb15_ hb16_ hb17_ hb18_ hb19_ hb20_ hb21_ hb22_ hb23_ hb24_ hb25_ hb26_ hb27_ hb28_ hb29_ hb30_ hb31_
      have HW := Aside0.mk (below_then H5W.out H5W.out.size B0.out)
      have HO7 := Aside0.mk (And.intro HO6.out.1 (Kd.C_below HO6.out.2.1 B0.out))
      clear B0 Z5 HSM HS1 H5W HY HO6 H76 H7
      go_wp2_with fail
      generalize wl = W1 at HW HO7 ⊢
      go_loopg [7] (o.length + 1) (fun kq v7 w' => ∃ j : Nat, v7 = .int .i64 ((j + 1 : Nat) : Int) ∧ Aside0 (j + 1 ≤ o.length ∧ kq + j = o.length + 1) ∧ Aside0 (Below W1.heap.size W1 w'))
      case atStart => exact ⟨0, rfl, ⟨by have := HY0.out.1; omega, rfl⟩, ⟨Below.refl _ _⟩⟩
      case round =>
        obtain ⟨j, rfl, HJ, B0⟩ := hrel
        by_cases hj : j + 1 < o.length
        case neg =>
          have t1 : decide ((j : Int) + 1 < (o.length : Int)) = false := decide_eq_false (by omega)
          have t2 : decide (j + 1 < o.length) = false := decide_eq_false hj
          replace HW := Aside0.mk (below_then HW.out HW.out.size B0.out)
          clear hj
          go_wp2_with (go_at_call 12; (with_reducible refine (HAW.out _).mono ?_); rintro e w6 ⟨rfl, hb⟩; replace HW := Aside0.mk (below_then HW.out HW.out.size hb); clear hb)
          go_ret
          exact ⟨rfl, HW.out⟩
        case pos =>
          have t1 : decide ((j : Int) + 1 < (o.length : Int)) = true := decide_eq_true (by omega)
          have t2 : decide (j + 1 < o.length) = true := decide_eq_true hj
          obtain ⟨ao, Ax, cx, rfl, hAx, hPx⟩ := at_nat HO7.out.2 (j + 1) hj
          obtain ⟨ao', Ay', cy', hao, hAy, hPy⟩ := at_nat HO7.out.2 j (by omega)
          obtain rfl := Option.some.inj hao
          obtain ⟨x, hx⟩ : ∃ x, x = o[j + 1] := ⟨_, rfl⟩
          obtain ⟨y', hy'⟩ : ∃ y', y' = o[j]'(by omega) := ⟨_, rfl⟩
          rw [← hx] at hAx hPx
          rw [← hy'] at hAy hPy
          have hfa := HOA.out j x y' (by rw [hx]; exact List.getElem?_eq_getElem hj) (by rw [hy']; exact List.getElem?_eq_getElem (by omega))
          have HX := Aside0.mk hAx
          have HY := Aside0.mk hAy
          have HPF := Aside0.mk hfa.2.1
          have HGT : Aside0 (decide (x.f2 > y'.f2) = false) := ⟨decide_eq_false (by have := hfa.2.2; omega)⟩
          have HAH : Aside0 (∀ W, Below W1.heap.size W1 W → Calls Try.prog 18 #[.agg #[.int .u64 x.f0, .int .u64 x.f1, .int .i64 x.f2, .int .i64 x.f3, .int .u64 x.f4, .bool x.f5, .int .i64 x.f6, .slice Ax x.f7.length cx], .agg #[.int .u64 y'.f0, .int .u64 y'.f1, .int .i64 y'.f2, .int .i64 y'.f3, .int .u64 y'.f4, .bool y'.f5, .int .i64 y'.f6, .slice Ay' y'.f7.length cy']] W fun e w' => e = .returned (.bool false) ∧ Below W.heap.size W w') := ⟨fun W hW => by have := ahead_calls x y' Ax cx Ay' cy' W (hPx.below hW) (hPy.below hW); rwa [hfa.1] at this⟩
          have HPI := Aside0.mk (eq_true (show (0 : Int) ≤ (j : Int) + 1 by omega))
          have HQI := Aside0.mk (eq_true (show (j : Int) + 1 < (o.length : Int) by omega))
          have HPJ := Aside0.mk (eq_true (show (0 : Int) ≤ (j : Int) by omega))
          have HQJ := Aside0.mk (eq_true (show (j : Int) < (o.length : Int) by omega))
          have HOB := HOL.out.1
          have HSUB : Aside0 (IntKind.i64.wrap (j : Int) = (j : Int)) := ⟨by rw [i64_w]; unfold wrap64; omega⟩
          have HWI : IntKind.i64.wrap (((j + 1 : Nat) : Int) + 1) = ((j + 1 + 1 : Nat) : Int) := by rw [i64_w]; unfold wrap64; omega
          have HJ2 := Aside0.mk hj
          replace HOB := Aside0.mk HOB
          clear hAx hPx hAy hPy hfa hx hy' hao hj
          go_upto_region 10 with fail
          replace B0 := Aside0.mk (below_drew B0.out)
          refine start_ (n := 31) (S := fun w' => True) (ds := []) #[false, false, false, false, false, false, false, false, false, false, false, false, false, false, false, false, false, false, false, false, false, false, false, false, false, false, false, false, false, false, false] (by kernel_rfl) rfl rfl trivial (fun hHeld => ?_)
          refine with_tabW orders10.tab10 orders10.bits10 (fun HT_ HW_ => ?_)
          generalize wr.drew = wq at B0 hHeld ⊢
          refine inv_at [0, 1, 2, 3, 4, 5, 6, 7, 8, 9, 10, 11, 12, 13, 14, 15, 16, 17, 18, 19, 20, 21, 22, 23, 24, 25, 26, 27, 28, 29, 30] (fun a0_ b a w' => a = putSel a0_ b [(0, 59, .slice (some ao) o.length co), (1, 60, .int .i64 ((j + 1 : Nat) : Int)), (2, 61, .pointer (some (ao.add ((j + 1) * 8)))), (3, 62, .agg #[.int .u64 x.f0, .int .u64 x.f1, .int .i64 x.f2, .int .i64 x.f3, .int .u64 x.f4, .bool x.f5, .int .i64 x.f6, .slice Ax x.f7.length cx]), (4, 63, .slice (some ao) o.length co), (5, 64, .int .i64 ((j + 1 : Nat) : Int)), (6, 65, .int .i64 (j : Int)), (7, 66, .pointer (some (ao.add (j * 8)))), (8, 67, .agg #[.int .u64 y'.f0, .int .u64 y'.f1, .int .i64 y'.f2, .int .i64 y'.f3, .int .u64 y'.f4, .bool y'.f5, .int .i64 y'.f6, .slice Ay' y'.f7.length cy']), (9, 68, .bool false), (10, 69, .bool false), (11, 70, .slice (some ao) o.length co), (12, 71, .int .i64 ((j + 1 : Nat) : Int)), (13, 72, .pointer (some (ao.add ((j + 1) * 8)))), (14, 73, .pointer (some ⟨(ao.add ((j + 1) * 8)).block, (ao.add ((j + 1) * 8)).off + 5, none⟩)), (15, 74, .bool false), (16, 75, .bool false), (17, 76, .bool false), (18, 77, .slice (some ao) o.length co), (19, 78, .int .i64 ((j + 1 : Nat) : Int)), (20, 79, .pointer (some (ao.add ((j + 1) * 8)))), (21, 80, .pointer (some ⟨(ao.add ((j + 1) * 8)).block, (ao.add ((j + 1) * 8)).off + 2, none⟩)), (22, 81, .int .i64 x.f2), (23, 82, .slice (some ao) o.length co), (24, 83, .int .i64 ((j + 1 : Nat) : Int)), (25, 84, .int .i64 (j : Int)), (26, 85, .pointer (some (ao.add (j * 8)))), (27, 86, .pointer (some ⟨(ao.add (j * 8)).block, (ao.add (j * 8)).off + 2, none⟩)), (28, 87, .int .i64 y'.f2), (29, 88, .bool false), (30, 89, .bool false)] ∧ (Below W1.heap.size W1 w')) HT_.out HW_.out (by kernel_rfl) (by kernel_rfl) ?_ ?_ ?_
          · exact ⟨by simp only [putSel, Bool.false_eq_true, if_false], B0.out⟩
          · skip
            clear B0
            refine steps_cons ?_ ?_
            · rintro b a w' ⟨ha, Q_B0⟩ hb_ hon hoff
              refine ⟨_, rfl, fun K hK => ?_⟩
              have e3 : a.tmps[3]? = some (.slice (some ao) o.length co) := by rw [ha]; exact (putSel_off rfl).trans rfl
              replace ha := Aside0.mk ha
              have B0 := Aside0.mk Q_B0
              refine value_ (w1 := w') (v := .slice (some ao) o.length co) (by rfl) rfl ?_ ?_
              · go_simp
                (try simp only [i64_w])
                try rfl
              refine hK.out _ _ ⟨(by rw [ha.out]; exact putSel_upk 0 hb_ rfl rfl rfl), Q_B0⟩
            refine steps_cons ?_ ?_
            · rintro b a w' ⟨ha, Q_B0⟩ hb_ hon hoff
              refine ⟨_, rfl, fun K hK => ?_⟩
              have e7 : a.tmps[7]? = some (.int .i64 ((j + 1 : Nat) : Int)) := by rw [ha]; exact (putSel_off rfl).trans rfl
              replace ha := Aside0.mk ha
              have B0 := Aside0.mk Q_B0
              refine value_ (w1 := w') (v := .int .i64 ((j + 1 : Nat) : Int)) (by rfl) rfl ?_ ?_
              · go_simp
                (try simp only [i64_w])
                try rfl
              refine hK.out _ _ ⟨(by rw [ha.out]; exact putSel_upk 1 hb_ rfl rfl rfl), Q_B0⟩
            refine steps_cons ?_ ?_
            · rintro b a w' ⟨ha, Q_B0⟩ hb_ hon hoff
              refine ⟨_, rfl, fun K hK => ?_⟩
              have e59 : a.tmps[59]? = some (.slice (some ao) o.length co) := by rw [ha]; exact putSel_on (e := (0, 59, .slice (some ao) o.length co)) 0 rfl rfl (hon 0 (by kernel_rfl)) rfl
              have e60 : a.tmps[60]? = some (.int .i64 ((j + 1 : Nat) : Int)) := by rw [ha]; exact putSel_on (e := (1, 60, .int .i64 ((j + 1 : Nat) : Int))) 1 rfl rfl (hon 1 (by kernel_rfl)) rfl
              replace ha := Aside0.mk ha
              have B0 := Aside0.mk Q_B0
              have p_ := HPI.out
              have q_ := HQI.out
              refine value_ (w1 := w') (v := .pointer (some (ao.add ((j + 1) * 8)))) (by rfl) rfl ?_ ?_
              · go_simp
                (try simp only [i64_w])
                try rfl
              refine hK.out _ _ ⟨(by rw [ha.out]; exact putSel_upk 2 hb_ rfl rfl rfl), Q_B0⟩
            refine steps_cons ?_ ?_
            · rintro b a w' ⟨ha, Q_B0⟩ hb_ hon hoff
              refine ⟨_, rfl, fun K hK => ?_⟩
              have e61 : a.tmps[61]? = some (.pointer (some (ao.add ((j + 1) * 8)))) := by rw [ha]; exact putSel_on (e := (2, 61, .pointer (some (ao.add ((j + 1) * 8))))) 2 rfl rfl (hon 2 (by kernel_rfl)) rfl
              replace ha := Aside0.mk ha
              have B0 := Aside0.mk Q_B0
              obtain ⟨x0_, x1_, x2_, x3_, x4_, x5_, x6_, x7_⟩ := HX.out.below B0.out
              refine value_ (w1 := w') (v := .agg #[.int .u64 x.f0, .int .u64 x.f1, .int .i64 x.f2, .int .i64 x.f3, .int .u64 x.f4, .bool x.f5, .int .i64 x.f6, .slice Ax x.f7.length cx]) (by rfl) rfl ?_ ?_
              · go_simp
                (try simp only [i64_w])
                try rfl
              refine hK.out _ _ ⟨(by rw [ha.out]; exact putSel_upk 3 hb_ rfl rfl rfl), Q_B0⟩
            refine steps_cons ?_ ?_
            · rintro b a w' ⟨ha, Q_B0⟩ hb_ hon hoff
              refine ⟨_, rfl, fun K hK => ?_⟩
              have e3 : a.tmps[3]? = some (.slice (some ao) o.length co) := by rw [ha]; exact (putSel_off rfl).trans rfl
              replace ha := Aside0.mk ha
              have B0 := Aside0.mk Q_B0
              refine value_ (w1 := w') (v := .slice (some ao) o.length co) (by rfl) rfl ?_ ?_
              · go_simp
                (try simp only [i64_w])
                try rfl
              refine hK.out _ _ ⟨(by rw [ha.out]; exact putSel_upk 4 hb_ rfl rfl rfl), Q_B0⟩
            refine steps_cons ?_ ?_
            · rintro b a w' ⟨ha, Q_B0⟩ hb_ hon hoff
              refine ⟨_, rfl, fun K hK => ?_⟩
              have e7 : a.tmps[7]? = some (.int .i64 ((j + 1 : Nat) : Int)) := by rw [ha]; exact (putSel_off rfl).trans rfl
              replace ha := Aside0.mk ha
              have B0 := Aside0.mk Q_B0
              refine value_ (w1 := w') (v := .int .i64 ((j + 1 : Nat) : Int)) (by rfl) rfl ?_ ?_
              · go_simp
                (try simp only [i64_w])
                try rfl
              refine hK.out _ _ ⟨(by rw [ha.out]; exact putSel_upk 5 hb_ rfl rfl rfl), Q_B0⟩
            refine steps_cons ?_ ?_
            · rintro b a w' ⟨ha, Q_B0⟩ hb_ hon hoff
              refine ⟨_, rfl, fun K hK => ?_⟩
              have e64 : a.tmps[64]? = some (.int .i64 ((j + 1 : Nat) : Int)) := by rw [ha]; exact putSel_on (e := (5, 64, .int .i64 ((j + 1 : Nat) : Int))) 5 rfl rfl (hon 5 (by kernel_rfl)) rfl
              replace ha := Aside0.mk ha
              have B0 := Aside0.mk Q_B0
              have hw_ := HSUB.out
              refine value_ (w1 := w') (v := .int .i64 (j : Int)) (by rfl) rfl ?_ ?_
              · go_simp
                (try simp only [i64_w])
                try rfl
              refine hK.out _ _ ⟨(by rw [ha.out]; exact putSel_upk 6 hb_ rfl rfl rfl), Q_B0⟩
            refine steps_cons ?_ ?_
            · rintro b a w' ⟨ha, Q_B0⟩ hb_ hon hoff
              refine ⟨_, rfl, fun K hK => ?_⟩
              have e63 : a.tmps[63]? = some (.slice (some ao) o.length co) := by rw [ha]; exact putSel_on (e := (4, 63, .slice (some ao) o.length co)) 4 rfl rfl (hon 4 (by kernel_rfl)) rfl
              have e65 : a.tmps[65]? = some (.int .i64 (j : Int)) := by rw [ha]; exact putSel_on (e := (6, 65, .int .i64 (j : Int))) 6 rfl rfl (hon 6 (by kernel_rfl)) rfl
              replace ha := Aside0.mk ha
              have B0 := Aside0.mk Q_B0
              have p_ := HPJ.out
              have q_ := HQJ.out
              refine value_ (w1 := w') (v := .pointer (some (ao.add (j * 8)))) (by rfl) rfl ?_ ?_
              · go_simp
                (try simp only [i64_w])
                try rfl
              refine hK.out _ _ ⟨(by rw [ha.out]; exact putSel_upk 7 hb_ rfl rfl rfl), Q_B0⟩
            refine steps_cons ?_ ?_
            · rintro b a w' ⟨ha, Q_B0⟩ hb_ hon hoff
              refine ⟨_, rfl, fun K hK => ?_⟩
              have e66 : a.tmps[66]? = some (.pointer (some (ao.add (j * 8)))) := by rw [ha]; exact putSel_on (e := (7, 66, .pointer (some (ao.add (j * 8))))) 7 rfl rfl (hon 7 (by kernel_rfl)) rfl
              replace ha := Aside0.mk ha
              have B0 := Aside0.mk Q_B0
              obtain ⟨x0_, x1_, x2_, x3_, x4_, x5_, x6_, x7_⟩ := HY.out.below B0.out
              refine value_ (w1 := w') (v := .agg #[.int .u64 y'.f0, .int .u64 y'.f1, .int .i64 y'.f2, .int .i64 y'.f3, .int .u64 y'.f4, .bool y'.f5, .int .i64 y'.f6, .slice Ay' y'.f7.length cy']) (by rfl) rfl ?_ ?_
              · go_simp
                (try simp only [i64_w])
                try rfl
              refine hK.out _ _ ⟨(by rw [ha.out]; exact putSel_upk 8 hb_ rfl rfl rfl), Q_B0⟩
            refine steps_cons ?_ ?_
            · rintro b a w' ⟨ha, Q_B0⟩ hb_ hon hoff
              refine ⟨_, rfl, fun K hK => ?_⟩
              have e62 : a.tmps[62]? = some (.agg #[.int .u64 x.f0, .int .u64 x.f1, .int .i64 x.f2, .int .i64 x.f3, .int .u64 x.f4, .bool x.f5, .int .i64 x.f6, .slice Ax x.f7.length cx]) := by rw [ha]; exact putSel_on (e := (3, 62, .agg #[.int .u64 x.f0, .int .u64 x.f1, .int .i64 x.f2, .int .i64 x.f3, .int .u64 x.f4, .bool x.f5, .int .i64 x.f6, .slice Ax x.f7.length cx])) 3 rfl rfl (hon 3 (by kernel_rfl)) rfl
              have e67 : a.tmps[67]? = some (.agg #[.int .u64 y'.f0, .int .u64 y'.f1, .int .i64 y'.f2, .int .i64 y'.f3, .int .u64 y'.f4, .bool y'.f5, .int .i64 y'.f6, .slice Ay' y'.f7.length cy']) := by rw [ha]; exact putSel_on (e := (8, 67, .agg #[.int .u64 y'.f0, .int .u64 y'.f1, .int .i64 y'.f2, .int .i64 y'.f3, .int .u64 y'.f4, .bool y'.f5, .int .i64 y'.f6, .slice Ay' y'.f7.length cy'])) 8 rfl rfl (hon 8 (by kernel_rfl)) rfl
              replace ha := Aside0.mk ha
              have B0 := Aside0.mk Q_B0
              refine goes_ Try.func18 (by kernel_rfl) rfl #[.agg #[.int .u64 x.f0, .int .u64 x.f1, .int .i64 x.f2, .int .i64 x.f3, .int .u64 x.f4, .bool x.f5, .int .i64 x.f6, .slice Ax x.f7.length cx], .agg #[.int .u64 y'.f0, .int .u64 y'.f1, .int .i64 y'.f2, .int .i64 y'.f3, .int .u64 y'.f4, .bool y'.f5, .int .i64 y'.f6, .slice Ay' y'.f7.length cy']] (by rfl) rfl rfl (by first | (simp only [List.map_toArray, List.map_cons, List.map_nil, Act.eval, Array.getD_eq_getD_getElem?, Option.getD_some, e62, e67]; done) | (simp only [List.map_toArray, List.map_cons, List.map_nil, Act.eval, Array.getD_eq_getD_getElem?, Option.getD_some, e62, e67]; rfl)) ?_
              with_reducible refine (HAH.out _ B0.out).mono ?_
              rintro e w2 ⟨rfl, hb⟩
              refine ⟨_, rfl, ?_⟩
              refine hK.out _ _ ⟨(by rw [ha.out]; exact putSel_upk 9 hb_ rfl rfl rfl), below_then B0.out B0.out.size hb⟩
            refine steps_cons ?_ ?_
            · rintro b a w' ⟨ha, Q_B0⟩ hb_ hon hoff
              refine ⟨_, rfl, fun K hK => ?_⟩
              have e68 : a.tmps[68]? = some (.bool false) := by rw [ha]; exact putSel_on (e := (9, 68, .bool false)) 9 rfl rfl (hon 9 (by kernel_rfl)) rfl
              replace ha := Aside0.mk ha
              have B0 := Aside0.mk Q_B0
              refine value_ (w1 := w') (v := .bool false) (by rfl) rfl ?_ ?_
              · go_simp
                (try simp only [i64_w])
                try rfl
              refine hK.out _ _ ⟨(by rw [ha.out]; exact putSel_upk 10 hb_ rfl rfl rfl), Q_B0⟩
            refine steps_cons ?_ ?_
            · rintro b a w' ⟨ha, Q_B0⟩ hb_ hon hoff
              refine ⟨_, rfl, fun K hK => ?_⟩
              have e3 : a.tmps[3]? = some (.slice (some ao) o.length co) := by rw [ha]; exact (putSel_off rfl).trans rfl
              have e69 : a.tmps[69]? = some (.bool false) := by rw [ha]; exact putSel_on (e := (10, 69, .bool false)) 10 rfl rfl (hon 10 (by kernel_rfl)) rfl
              replace ha := Aside0.mk ha
              have B0 := Aside0.mk Q_B0
              refine value_ (w1 := w') (v := .slice (some ao) o.length co) (wanted_on rfl rfl rfl (e69.trans (by first | rfl | (simp [*]; done)))) rfl ?_ ?_
              · go_simp
                (try simp only [i64_w])
                try rfl
              refine hK.out _ _ ⟨(by rw [ha.out]; exact putSel_upk 11 hb_ rfl rfl rfl), Q_B0⟩
            refine steps_cons ?_ ?_
            · rintro b a w' ⟨ha, Q_B0⟩ hb_ hon hoff
              refine ⟨_, rfl, fun K hK => ?_⟩
              have e7 : a.tmps[7]? = some (.int .i64 ((j + 1 : Nat) : Int)) := by rw [ha]; exact (putSel_off rfl).trans rfl
              have e69 : a.tmps[69]? = some (.bool false) := by rw [ha]; exact putSel_on (e := (10, 69, .bool false)) 10 rfl rfl (hon 10 (by kernel_rfl)) rfl
              replace ha := Aside0.mk ha
              have B0 := Aside0.mk Q_B0
              refine value_ (w1 := w') (v := .int .i64 ((j + 1 : Nat) : Int)) (wanted_on rfl rfl rfl (e69.trans (by first | rfl | (simp [*]; done)))) rfl ?_ ?_
              · go_simp
                (try simp only [i64_w])
                try rfl
              refine hK.out _ _ ⟨(by rw [ha.out]; exact putSel_upk 12 hb_ rfl rfl rfl), Q_B0⟩
            refine steps_cons ?_ ?_
            · rintro b a w' ⟨ha, Q_B0⟩ hb_ hon hoff
              refine ⟨_, rfl, fun K hK => ?_⟩
              have e70 : a.tmps[70]? = some (.slice (some ao) o.length co) := by rw [ha]; exact putSel_on (e := (11, 70, .slice (some ao) o.length co)) 11 rfl rfl (hon 11 (by kernel_rfl)) rfl
              have e71 : a.tmps[71]? = some (.int .i64 ((j + 1 : Nat) : Int)) := by rw [ha]; exact putSel_on (e := (12, 71, .int .i64 ((j + 1 : Nat) : Int))) 12 rfl rfl (hon 12 (by kernel_rfl)) rfl
              have e69 : a.tmps[69]? = some (.bool false) := by rw [ha]; exact putSel_on (e := (10, 69, .bool false)) 10 rfl rfl (hon 10 (by kernel_rfl)) rfl
              replace ha := Aside0.mk ha
              have B0 := Aside0.mk Q_B0
              have p_ := HPI.out
              have q_ := HQI.out
              refine value_ (w1 := w') (v := .pointer (some (ao.add ((j + 1) * 8)))) (wanted_on rfl rfl rfl (e69.trans (by first | rfl | (simp [*]; done)))) rfl ?_ ?_
              · go_simp
                (try simp only [i64_w])
                try rfl
              refine hK.out _ _ ⟨(by rw [ha.out]; exact putSel_upk 13 hb_ rfl rfl rfl), Q_B0⟩
            refine steps_cons ?_ ?_
            · rintro b a w' ⟨ha, Q_B0⟩ hb_ hon hoff
              refine ⟨_, rfl, fun K hK => ?_⟩
              have e72 : a.tmps[72]? = some (.pointer (some (ao.add ((j + 1) * 8)))) := by rw [ha]; exact putSel_on (e := (13, 72, .pointer (some (ao.add ((j + 1) * 8))))) 13 rfl rfl (hon 13 (by kernel_rfl)) rfl
              have e69 : a.tmps[69]? = some (.bool false) := by rw [ha]; exact putSel_on (e := (10, 69, .bool false)) 10 rfl rfl (hon 10 (by kernel_rfl)) rfl
              replace ha := Aside0.mk ha
              have B0 := Aside0.mk Q_B0
              refine value_ (w1 := w') (v := .pointer (some ⟨(ao.add ((j + 1) * 8)).block, (ao.add ((j + 1) * 8)).off + 5, none⟩)) (wanted_on rfl rfl rfl (e69.trans (by first | rfl | (simp [*]; done)))) rfl ?_ ?_
              · go_simp
                (try simp only [i64_w])
                try rfl
              refine hK.out _ _ ⟨(by rw [ha.out]; exact putSel_upk 14 hb_ rfl rfl rfl), Q_B0⟩
            refine steps_cons ?_ ?_
            · rintro b a w' ⟨ha, Q_B0⟩ hb_ hon hoff
              refine ⟨_, rfl, fun K hK => ?_⟩
              have e73 : a.tmps[73]? = some (.pointer (some ⟨(ao.add ((j + 1) * 8)).block, (ao.add ((j + 1) * 8)).off + 5, none⟩)) := by rw [ha]; exact putSel_on (e := (14, 73, .pointer (some ⟨(ao.add ((j + 1) * 8)).block, (ao.add ((j + 1) * 8)).off + 5, none⟩))) 14 rfl rfl (hon 14 (by kernel_rfl)) rfl
              have e69 : a.tmps[69]? = some (.bool false) := by rw [ha]; exact putSel_on (e := (10, 69, .bool false)) 10 rfl rfl (hon 10 (by kernel_rfl)) rfl
              replace ha := Aside0.mk ha
              have B0 := Aside0.mk Q_B0
              obtain ⟨x0_, x1_, x2_, x3_, x4_, x5_, x6_, x7_⟩ := HX.out.below B0.out
              rw [HPF.out] at x5_
              refine value_ (w1 := w') (v := .bool false) (wanted_on rfl rfl rfl (e69.trans (by first | rfl | (simp [*]; done)))) rfl ?_ ?_
              · go_simp
                (try simp only [i64_w])
                try rfl
              refine hK.out _ _ ⟨(by rw [ha.out]; exact putSel_upk 15 hb_ rfl rfl rfl), Q_B0⟩
            refine steps_cons ?_ ?_
            · rintro b a w' ⟨ha, Q_B0⟩ hb_ hon hoff
              refine ⟨_, rfl, fun K hK => ?_⟩
              have e69 : a.tmps[69]? = some (.bool false) := by rw [ha]; exact putSel_on (e := (10, 69, .bool false)) 10 rfl rfl (hon 10 (by kernel_rfl)) rfl
              have e74 : a.tmps[74]? = some (.bool false) := by rw [ha]; exact putSel_on (e := (15, 74, .bool false)) 15 rfl rfl (hon 15 (by kernel_rfl)) rfl
              replace ha := Aside0.mk ha
              have B0 := Aside0.mk Q_B0
              refine value_ (w1 := w') (v := .bool false) (by rfl) rfl ?_ ?_
              · go_simp
                (try simp only [i64_w])
                try rfl
              refine hK.out _ _ ⟨(by rw [ha.out]; exact putSel_upk 16 hb_ rfl rfl rfl), Q_B0⟩
            refine steps_cons ?_ ?_
            · rintro b a w' ⟨ha, Q_B0⟩ hb_ hon hoff
              refine ⟨_, rfl, fun K hK => ?_⟩
              have e75 : a.tmps[75]? = some (.bool false) := by rw [ha]; exact putSel_on (e := (16, 75, .bool false)) 16 rfl rfl (hon 16 (by kernel_rfl)) rfl
              replace ha := Aside0.mk ha
              have B0 := Aside0.mk Q_B0
              refine value_ (w1 := w') (v := .bool false) (by rfl) rfl ?_ ?_
              · go_simp
                (try simp only [i64_w])
                try rfl
              refine hK.out _ _ ⟨(by rw [ha.out]; exact putSel_upk 17 hb_ rfl rfl rfl), Q_B0⟩
            refine steps_cons ?_ ?_
            · rintro b a w' ⟨ha, Q_B0⟩ hb_ hon hoff
              refine ⟨_, rfl, fun K hK => ?_⟩
              have e3 : a.tmps[3]? = some (.slice (some ao) o.length co) := by rw [ha]; exact (putSel_off rfl).trans rfl
              have e76 : a.tmps[76]? = some (.bool false) := by rw [ha]; exact putSel_on (e := (17, 76, .bool false)) 17 rfl rfl (hon 17 (by kernel_rfl)) rfl
              replace ha := Aside0.mk ha
              have B0 := Aside0.mk Q_B0
              refine value_ (w1 := w') (v := .slice (some ao) o.length co) (wanted_on rfl rfl rfl (e76.trans (by first | rfl | (simp [*]; done)))) rfl ?_ ?_
              · go_simp
                (try simp only [i64_w])
                try rfl
              refine hK.out _ _ ⟨(by rw [ha.out]; exact putSel_upk 18 hb_ rfl rfl rfl), Q_B0⟩
            refine steps_cons ?_ ?_
            · rintro b a w' ⟨ha, Q_B0⟩ hb_ hon hoff
              refine ⟨_, rfl, fun K hK => ?_⟩
              have e7 : a.tmps[7]? = some (.int .i64 ((j + 1 : Nat) : Int)) := by rw [ha]; exact (putSel_off rfl).trans rfl
              have e76 : a.tmps[76]? = some (.bool false) := by rw [ha]; exact putSel_on (e := (17, 76, .bool false)) 17 rfl rfl (hon 17 (by kernel_rfl)) rfl
              replace ha := Aside0.mk ha
              have B0 := Aside0.mk Q_B0
              refine value_ (w1 := w') (v := .int .i64 ((j + 1 : Nat) : Int)) (wanted_on rfl rfl rfl (e76.trans (by first | rfl | (simp [*]; done)))) rfl ?_ ?_
              · go_simp
                (try simp only [i64_w])
                try rfl
              refine hK.out _ _ ⟨(by rw [ha.out]; exact putSel_upk 19 hb_ rfl rfl rfl), Q_B0⟩
            refine steps_cons ?_ ?_
            · rintro b a w' ⟨ha, Q_B0⟩ hb_ hon hoff
              refine ⟨_, rfl, fun K hK => ?_⟩
              have e77 : a.tmps[77]? = some (.slice (some ao) o.length co) := by rw [ha]; exact putSel_on (e := (18, 77, .slice (some ao) o.length co)) 18 rfl rfl (hon 18 (by kernel_rfl)) rfl
              have e78 : a.tmps[78]? = some (.int .i64 ((j + 1 : Nat) : Int)) := by rw [ha]; exact putSel_on (e := (19, 78, .int .i64 ((j + 1 : Nat) : Int))) 19 rfl rfl (hon 19 (by kernel_rfl)) rfl
              have e76 : a.tmps[76]? = some (.bool false) := by rw [ha]; exact putSel_on (e := (17, 76, .bool false)) 17 rfl rfl (hon 17 (by kernel_rfl)) rfl
              replace ha := Aside0.mk ha
              have B0 := Aside0.mk Q_B0
              have p_ := HPI.out
              have q_ := HQI.out
              refine value_ (w1 := w') (v := .pointer (some (ao.add ((j + 1) * 8)))) (wanted_on rfl rfl rfl (e76.trans (by first | rfl | (simp [*]; done)))) rfl ?_ ?_
              · go_simp
                (try simp only [i64_w])
                try rfl
              refine hK.out _ _ ⟨(by rw [ha.out]; exact putSel_upk 20 hb_ rfl rfl rfl), Q_B0⟩
            refine steps_cons ?_ ?_
            · rintro b a w' ⟨ha, Q_B0⟩ hb_ hon hoff
              refine ⟨_, rfl, fun K hK => ?_⟩
              have e79 : a.tmps[79]? = some (.pointer (some (ao.add ((j + 1) * 8)))) := by rw [ha]; exact putSel_on (e := (20, 79, .pointer (some (ao.add ((j + 1) * 8))))) 20 rfl rfl (hon 20 (by kernel_rfl)) rfl
              have e76 : a.tmps[76]? = some (.bool false) := by rw [ha]; exact putSel_on (e := (17, 76, .bool false)) 17 rfl rfl (hon 17 (by kernel_rfl)) rfl
              replace ha := Aside0.mk ha
              have B0 := Aside0.mk Q_B0
              refine value_ (w1 := w') (v := .pointer (some ⟨(ao.add ((j + 1) * 8)).block, (ao.add ((j + 1) * 8)).off + 2, none⟩)) (wanted_on rfl rfl rfl (e76.trans (by first | rfl | (simp [*]; done)))) rfl ?_ ?_
              · go_simp
                (try simp only [i64_w])
                try rfl
              refine hK.out _ _ ⟨(by rw [ha.out]; exact putSel_upk 21 hb_ rfl rfl rfl), Q_B0⟩
            refine steps_cons ?_ ?_
            · rintro b a w' ⟨ha, Q_B0⟩ hb_ hon hoff
              refine ⟨_, rfl, fun K hK => ?_⟩
              have e80 : a.tmps[80]? = some (.pointer (some ⟨(ao.add ((j + 1) * 8)).block, (ao.add ((j + 1) * 8)).off + 2, none⟩)) := by rw [ha]; exact putSel_on (e := (21, 80, .pointer (some ⟨(ao.add ((j + 1) * 8)).block, (ao.add ((j + 1) * 8)).off + 2, none⟩))) 21 rfl rfl (hon 21 (by kernel_rfl)) rfl
              have e76 : a.tmps[76]? = some (.bool false) := by rw [ha]; exact putSel_on (e := (17, 76, .bool false)) 17 rfl rfl (hon 17 (by kernel_rfl)) rfl
              replace ha := Aside0.mk ha
              have B0 := Aside0.mk Q_B0
              obtain ⟨x0_, x1_, x2_, x3_, x4_, x5_, x6_, x7_⟩ := HX.out.below B0.out
              refine value_ (w1 := w') (v := .int .i64 x.f2) (wanted_on rfl rfl rfl (e76.trans (by first | rfl | (simp [*]; done)))) rfl ?_ ?_
              · go_simp
                (try simp only [i64_w])
                try rfl
              refine hK.out _ _ ⟨(by rw [ha.out]; exact putSel_upk 22 hb_ rfl rfl rfl), Q_B0⟩
            refine steps_cons ?_ ?_
            · rintro b a w' ⟨ha, Q_B0⟩ hb_ hon hoff
              refine ⟨_, rfl, fun K hK => ?_⟩
              have e3 : a.tmps[3]? = some (.slice (some ao) o.length co) := by rw [ha]; exact (putSel_off rfl).trans rfl
              have e76 : a.tmps[76]? = some (.bool false) := by rw [ha]; exact putSel_on (e := (17, 76, .bool false)) 17 rfl rfl (hon 17 (by kernel_rfl)) rfl
              replace ha := Aside0.mk ha
              have B0 := Aside0.mk Q_B0
              refine value_ (w1 := w') (v := .slice (some ao) o.length co) (wanted_on rfl rfl rfl (e76.trans (by first | rfl | (simp [*]; done)))) rfl ?_ ?_
              · go_simp
                (try simp only [i64_w])
                try rfl
              refine hK.out _ _ ⟨(by rw [ha.out]; exact putSel_upk 23 hb_ rfl rfl rfl), Q_B0⟩
            refine steps_cons ?_ ?_
            · rintro b a w' ⟨ha, Q_B0⟩ hb_ hon hoff
              refine ⟨_, rfl, fun K hK => ?_⟩
              have e7 : a.tmps[7]? = some (.int .i64 ((j + 1 : Nat) : Int)) := by rw [ha]; exact (putSel_off rfl).trans rfl
              have e76 : a.tmps[76]? = some (.bool false) := by rw [ha]; exact putSel_on (e := (17, 76, .bool false)) 17 rfl rfl (hon 17 (by kernel_rfl)) rfl
              replace ha := Aside0.mk ha
              have B0 := Aside0.mk Q_B0
              refine value_ (w1 := w') (v := .int .i64 ((j + 1 : Nat) : Int)) (wanted_on rfl rfl rfl (e76.trans (by first | rfl | (simp [*]; done)))) rfl ?_ ?_
              · go_simp
                (try simp only [i64_w])
                try rfl
              refine hK.out _ _ ⟨(by rw [ha.out]; exact putSel_upk 24 hb_ rfl rfl rfl), Q_B0⟩
            refine steps_cons ?_ ?_
            · rintro b a w' ⟨ha, Q_B0⟩ hb_ hon hoff
              refine ⟨_, rfl, fun K hK => ?_⟩
              have e83 : a.tmps[83]? = some (.int .i64 ((j + 1 : Nat) : Int)) := by rw [ha]; exact putSel_on (e := (24, 83, .int .i64 ((j + 1 : Nat) : Int))) 24 rfl rfl (hon 24 (by kernel_rfl)) rfl
              have e76 : a.tmps[76]? = some (.bool false) := by rw [ha]; exact putSel_on (e := (17, 76, .bool false)) 17 rfl rfl (hon 17 (by kernel_rfl)) rfl
              replace ha := Aside0.mk ha
              have B0 := Aside0.mk Q_B0
              have hw_ := HSUB.out
              refine value_ (w1 := w') (v := .int .i64 (j : Int)) (wanted_on rfl rfl rfl (e76.trans (by first | rfl | (simp [*]; done)))) rfl ?_ ?_
              · go_simp
                (try simp only [i64_w])
                try rfl
              refine hK.out _ _ ⟨(by rw [ha.out]; exact putSel_upk 25 hb_ rfl rfl rfl), Q_B0⟩
            refine steps_cons ?_ ?_
            · rintro b a w' ⟨ha, Q_B0⟩ hb_ hon hoff
              refine ⟨_, rfl, fun K hK => ?_⟩
              have e82 : a.tmps[82]? = some (.slice (some ao) o.length co) := by rw [ha]; exact putSel_on (e := (23, 82, .slice (some ao) o.length co)) 23 rfl rfl (hon 23 (by kernel_rfl)) rfl
              have e84 : a.tmps[84]? = some (.int .i64 (j : Int)) := by rw [ha]; exact putSel_on (e := (25, 84, .int .i64 (j : Int))) 25 rfl rfl (hon 25 (by kernel_rfl)) rfl
              have e76 : a.tmps[76]? = some (.bool false) := by rw [ha]; exact putSel_on (e := (17, 76, .bool false)) 17 rfl rfl (hon 17 (by kernel_rfl)) rfl
              replace ha := Aside0.mk ha
              have B0 := Aside0.mk Q_B0
              have p_ := HPJ.out
              have q_ := HQJ.out
              refine value_ (w1 := w') (v := .pointer (some (ao.add (j * 8)))) (wanted_on rfl rfl rfl (e76.trans (by first | rfl | (simp [*]; done)))) rfl ?_ ?_
              · go_simp
                (try simp only [i64_w])
                try rfl
              refine hK.out _ _ ⟨(by rw [ha.out]; exact putSel_upk 26 hb_ rfl rfl rfl), Q_B0⟩
            refine steps_cons ?_ ?_
            · rintro b a w' ⟨ha, Q_B0⟩ hb_ hon hoff
              refine ⟨_, rfl, fun K hK => ?_⟩
              have e85 : a.tmps[85]? = some (.pointer (some (ao.add (j * 8)))) := by rw [ha]; exact putSel_on (e := (26, 85, .pointer (some (ao.add (j * 8))))) 26 rfl rfl (hon 26 (by kernel_rfl)) rfl
              have e76 : a.tmps[76]? = some (.bool false) := by rw [ha]; exact putSel_on (e := (17, 76, .bool false)) 17 rfl rfl (hon 17 (by kernel_rfl)) rfl
              replace ha := Aside0.mk ha
              have B0 := Aside0.mk Q_B0
              refine value_ (w1 := w') (v := .pointer (some ⟨(ao.add (j * 8)).block, (ao.add (j * 8)).off + 2, none⟩)) (wanted_on rfl rfl rfl (e76.trans (by first | rfl | (simp [*]; done)))) rfl ?_ ?_
              · go_simp
                (try simp only [i64_w])
                try rfl
              refine hK.out _ _ ⟨(by rw [ha.out]; exact putSel_upk 27 hb_ rfl rfl rfl), Q_B0⟩
            refine steps_cons ?_ ?_
            · rintro b a w' ⟨ha, Q_B0⟩ hb_ hon hoff
              refine ⟨_, rfl, fun K hK => ?_⟩
              have e86 : a.tmps[86]? = some (.pointer (some ⟨(ao.add (j * 8)).block, (ao.add (j * 8)).off + 2, none⟩)) := by rw [ha]; exact putSel_on (e := (27, 86, .pointer (some ⟨(ao.add (j * 8)).block, (ao.add (j * 8)).off + 2, none⟩))) 27 rfl rfl (hon 27 (by kernel_rfl)) rfl
              have e76 : a.tmps[76]? = some (.bool false) := by rw [ha]; exact putSel_on (e := (17, 76, .bool false)) 17 rfl rfl (hon 17 (by kernel_rfl)) rfl
              replace ha := Aside0.mk ha
              have B0 := Aside0.mk Q_B0
              obtain ⟨x0_, x1_, x2_, x3_, x4_, x5_, x6_, x7_⟩ := HY.out.below B0.out
              refine value_ (w1 := w') (v := .int .i64 y'.f2) (wanted_on rfl rfl rfl (e76.trans (by first | rfl | (simp [*]; done)))) rfl ?_ ?_
              · go_simp
                (try simp only [i64_w])
                try rfl
              refine hK.out _ _ ⟨(by rw [ha.out]; exact putSel_upk 28 hb_ rfl rfl rfl), Q_B0⟩
            refine steps_cons ?_ ?_
            · rintro b a w' ⟨ha, Q_B0⟩ hb_ hon hoff
              refine ⟨_, rfl, fun K hK => ?_⟩
              have e81 : a.tmps[81]? = some (.int .i64 x.f2) := by rw [ha]; exact putSel_on (e := (22, 81, .int .i64 x.f2)) 22 rfl rfl (hon 22 (by kernel_rfl)) rfl
              have e87 : a.tmps[87]? = some (.int .i64 y'.f2) := by rw [ha]; exact putSel_on (e := (28, 87, .int .i64 y'.f2)) 28 rfl rfl (hon 28 (by kernel_rfl)) rfl
              have e76 : a.tmps[76]? = some (.bool false) := by rw [ha]; exact putSel_on (e := (17, 76, .bool false)) 17 rfl rfl (hon 17 (by kernel_rfl)) rfl
              replace ha := Aside0.mk ha
              have B0 := Aside0.mk Q_B0
              have t_ := HGT.out
              refine value_ (w1 := w') (v := .bool false) (wanted_on rfl rfl rfl (e76.trans (by first | rfl | (simp [*]; done)))) rfl ?_ ?_
              · go_simp
                (try simp only [i64_w])
                try rfl
              refine hK.out _ _ ⟨(by rw [ha.out]; exact putSel_upk 29 hb_ rfl rfl rfl), Q_B0⟩
            refine steps_cons ?_ ?_
            · rintro b a w' ⟨ha, Q_B0⟩ hb_ hon hoff
              refine ⟨_, rfl, fun K hK => ?_⟩
              have e76 : a.tmps[76]? = some (.bool false) := by rw [ha]; exact putSel_on (e := (17, 76, .bool false)) 17 rfl rfl (hon 17 (by kernel_rfl)) rfl
              have e88 : a.tmps[88]? = some (.bool false) := by rw [ha]; exact putSel_on (e := (29, 88, .bool false)) 29 rfl rfl (hon 29 (by kernel_rfl)) rfl
              replace ha := Aside0.mk ha
              have B0 := Aside0.mk Q_B0
              refine value_ (w1 := w') (v := .bool false) (by rfl) rfl ?_ ?_
              · go_simp
                (try simp only [i64_w])
                try rfl
              refine hK.out _ _ ⟨(by rw [ha.out]; exact putSel_upk 30 hb_ rfl rfl rfl), Q_B0⟩
            exact steps_nil
          rintro b a wl hall ⟨ha, Q_B0⟩
          clear B0
          have hb0_ := hall 0 (by kernel_rfl)
          have hb1_ := hall 1 (by kernel_rfl)
          have hb2_ := hall 2 (by kernel_rfl)
          have hb3_ := hall 3 (by kernel_rfl)
          have hb4_ := hall 4 (by kernel_rfl)
          have hb5_ := hall 5 (by kernel_rfl)
          have hb6_ := hall 6 (by kernel_rfl)
          have hb7_ := hall 7 (by kernel_rfl)
          have hb8_ := hall 8 (by kernel_rfl)
          have hb9_ := hall 9 (by kernel_rfl)
          have hb10_ := hall 10 (by kernel_rfl)
          have hb11_ := hall 11 (by kernel_rfl)
          have hb12_ := hall 12 (by kernel_rfl)
          have hb13_ := hall 13 (by kernel_rfl)
          have hb14_ := hall 14 (by kernel_rfl)
          have hb15_ := hall 15 (by kernel_rfl)
          have hb16_ := hall 16 (by kernel_rfl)
          have hb17_ := hall 17 (by kernel_rfl)
          have hb18_ := hall 18 (by kernel_rfl)
          have hb19_ := hall 19 (by kernel_rfl)
          have hb20_ := hall 20 (by kernel_rfl)
          have hb21_ := hall 21 (by kernel_rfl)
          have hb22_ := hall 22 (by kernel_rfl)
          have hb23_ := hall 23 (by kernel_rfl)
          have hb24_ := hall 24 (by kernel_rfl)
          have hb25_ := hall 25 (by kernel_rfl)
          have hb26_ := hall 26 (by kernel_rfl)
          have hb27_ := hall 27 (by kernel_rfl)
          have hb28_ := hall 28 (by kernel_rfl)
          have hb29_ := hall 29 (by kernel_rfl)
          have hb30_ := hall 30 (by kernel_rfl)
          subst ha
          simp only [putSel, hb0_, hb1_, hb2_, hb3_, hb4_, hb5_, hb6_, hb7_, hb8_, hb9_, hb10_, hb11_, hb12_, hb13_, hb14_, hb15_, hb16_, hb17_, hb18_, hb19_, hb20_, hb21_, hb22_, hb23_, hb24_, hb25_, hb26_, hb27_, hb28_, hb29_, hb30_, if_true, Act.put, List.setIfInBounds_toArray, List.set_cons_zero, List.set_cons_succ]
          have B0 := Aside0.mk Q_B0
          clear Q_B0
          clear hall hb0_ hb1_ hb2_ hb3_ hb4_ hb5_ hb6_ hb7_ hb8_ hb9_ hb10_ hb11_ hb12_ hb13_ hb14_ hb15_ hb16_ hb17_ hb18_ hb19_ hb20_ hb21_ hb22_ hb23_ hb24_ hb25_ hb26_ hb27_ hb28_ hb29_ hb30_
          go_wp2_with fail
          go_roundg (o.length - j)
          case measure => have := HJ.out; have := HJ2.out; omega
          case rel => exact ⟨j + 1, by first | rfl | (rw [← i64_w, HWI]) | (simp; unfold wrap64; have := HJ2.out; have := HOB.out; omega), ⟨by have := HJ2.out; omega, by have := HJ.out; have := HJ2.out; omega⟩, B0⟩
end Go.Proofs.Ytnopjcakilfepaa.QS
