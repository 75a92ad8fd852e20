import Derived.Test.YtnopjcakilfepaaC2
namespace Go.Proofs.Ytnopjcakilfepaa.QS
set_option linter.unusedVariables false
set_option linter.unusedSimpArgs false
open Go.RowKit Go.Proofs.Ytnopjcakilfepaa.SS Go.Proofs.Ytnopjcakilfepaa.Hp Go.Proofs.YtnopjcakilfepaaW.PrintWords Go.Proofs.YtnopjcakilfepaaW.PrintLast Go.Proofs.YtnopjcakilfepaaW.PrintMore
def cmpo.T1 : Bool × List (List Nat × List Nat) := (true, [([], []), ([0], [0]), ([], []), ([2], [2]), ([1, 3], [1, 3]), ([], []), ([5], [5]), ([], []), ([7], [7]), ([6, 8, 4], [6, 8]), ([4, 9], [4, 9]), ([10, 9], [10]), ([11, 11, 0, 1, 2, 3, 4, 5, 6, 7, 8, 9, 10, 11], [11])])
def cmpo.B1 : List Nat := [0, 1, 0, 4, 15, 0, 32, 0, 128, 511, 1023, 2047, 4095]
theorem cmpo.tab1 : rtab .any (opsOf Try.f64 1) = cmpo.T1 := by kernel_rfl
theorem cmpo.bits1 : waitsOk cmpo.T1.2 cmpo.B1 = true := by kernel_rfl
def cmp3 (a b : Int) : Int := if a < b then -1 else if a > b then 1 else 0
theorem cmpi_val (a b : Int) : cmp_Compare_int.f a b = some (cmp3 a b) := by
  unfold cmp_Compare_int.f cmp_isNaN_int.f cmp3
  simp only [bne_self_eq_false, Option.bind_some, Bool.false_eq_true, if_false]
  (repeat' split) <;> rfl
theorem cmpu_val (a b : Int) : cmp_Compare_uint64.f a b = some (cmp3 a b) := by
  unfold cmp_Compare_uint64.f cmp_isNaN_uint64.f cmp3
  simp only [bne_self_eq_false, Option.bind_some, Bool.false_eq_true, if_false]
  (repeat' split) <;> rfl
theorem or2_val (a b : Int) : cmp_Or_int.f 4 [a, b] = some (if a = 0 then b else a) := by
  unfold cmp_Or_int.f
  by_cases h1 : a = 0 <;> by_cases h2 : b = 0 <;> simp [cmp_Or_int.l0, rd, h1, h2, wrap64]
def ltQ (x y : Rec) : Bool := decide (y.prio < x.prio ∨ x.prio = y.prio ∧ x.id < y.id)
def ltS (x y : R0) : Bool := decide (y.f2 < x.f2 ∨ x.f2 = y.f2 ∧ x.f0 < y.f0)
theorem ltQ_ord : Ord ltQ := by
  refine ⟨fun x y h => ?_, fun x y z h1 h2 => ?_⟩
  · unfold ltQ at h ⊢
    simp only [decide_eq_true_eq, decide_eq_false_iff_not] at h ⊢
    omega
  · unfold ltQ at h1 h2 ⊢
    simp only [decide_eq_false_iff_not] at h1 h2 ⊢
    omega
theorem ltS_ord : Ord ltS := by
  refine ⟨fun x y h => ?_, fun x y z h1 h2 => ?_⟩
  · unfold ltS at h ⊢
    simp only [decide_eq_true_eq, decide_eq_false_iff_not] at h ⊢
    omega
  · unfold ltS at h1 h2 ⊢
    simp only [decide_eq_false_iff_not] at h1 h2 ⊢
    omega
set_option maxHeartbeats 4000000 in
set_option maxRecDepth 100000 in
theorem cmp_sorted : Cmp ltQ := by
  intro w x y
  obtain ⟨c1, hc1⟩ : ∃ c, c = cmp3 y.prio x.prio := ⟨_, rfl⟩
  obtain ⟨c2, hc2⟩ : ∃ c, c = cmp3 x.id y.id := ⟨_, rfl⟩
  obtain ⟨rr, hrr⟩ : ∃ r, r = if c1 = 0 then c2 else c1 := ⟨_, rfl⟩
  have HC1 : Aside0 (∀ W, Calls Try.prog 66 #[.int .i64 y.prio, .int .i64 x.prio] W fun e w' => e = .returned (.int .i64 c1) ∧ Below W.heap.size W w') := ⟨fun W => by
    refine (cmp_Compare_int.calls y.prio x.prio _ W (cmpi_val _ _)).mono ?_
    rintro e w' ⟨rfl, h⟩
    exact ⟨by rw [hc1], by first | exact h.below | exact h⟩⟩
  have HC2 : Aside0 (∀ W, Calls Try.prog 67 #[.int .u64 x.id, .int .u64 y.id] W fun e w' => e = .returned (.int .i64 c2) ∧ Below W.heap.size W w') := ⟨fun W => by
    refine (cmp_Compare_uint64.calls x.id y.id _ W (cmpu_val _ _)).mono ?_
    rintro e w' ⟨rfl, h⟩
    exact ⟨by rw [hc2], by first | exact h.below | exact h⟩⟩
  have HOR : Aside0 (∀ (W : World) (gs : Nat), W.heap[gs]? = some (.cells #[.int .i64 c1, .int .i64 c2] 3 (0, 0)) → Calls Try.prog 65 #[.slice (some ⟨gs, 0, none⟩) 2 2] W fun e w' => e = .returned (.int .i64 rr) ∧ Below W.heap.size W w') := ⟨fun W gs hz => by
    have hC : Kd.C (Kd.int .i64) W (some ⟨gs, 0, none⟩) 2 [c1, c2] := ⟨rfl, by decide, fun _ => ⟨_, rfl, fun j p hp => ⟨[.int .i64 p], rfl, rfl, fun i u hu => by
      have hj : j < 2 := (List.getElem?_eq_some_iff.1 hp).1
      have hi : i = 0 := by have := (List.getElem?_eq_some_iff.1 hu).1; simp at this; exact this
      subst hi
      obtain rfl := Option.some.inj hu
      have ea : (⟨gs, 0, none⟩ : Addr).add (j * (Kd.int .i64).sz + 0) = ⟨gs, j, none⟩ := by rw [show j * (Kd.int .i64).sz + 0 = j by show j * 1 + 0 = j; omega]; exact add_plain gs j
      rw [ea, blk_cell hz]
      rcases (show j = 0 ∨ j = 1 by omega) with rfl | rfl
      · obtain rfl := Option.some.inj hp; rfl
      · obtain rfl := Option.some.inj hp; rfl⟩⟩⟩
    refine (cmp_Or_int.calls 4 (some ⟨gs, 0, none⟩) 2 [c1, c2] _ W hC (Nat.le_refl _) (or2_val c1 c2)).mono ?_
    rintro e w' ⟨rfl, h⟩
    exact ⟨by rw [hrr], by first | exact h.below | exact h⟩⟩
  have HRR : Aside0 (decide (rr < 0) = ltQ x y) := ⟨by
    unfold ltQ
    congr 1
    apply propext
    rw [hrr, hc1, hc2]
    unfold cmp3
    (repeat' split) <;> omega⟩
  have HB := Aside0.mk (Below.refl w.heap.size w)
  clear hc1 hc2 hrr
  go_enter Try.func64, Try.ntmps64
  go_upto_region 1 with fail
  have hz2 := blk_alloc (heap_alloc_new w (.cells #[.int .u64 x.id, .int .u64 x.first, .int .i64 x.prio, .int .i64 x.len, .int .u64 x.en, .bool x.played, .int .i64 x.lpn, .slice x.A x.n x.c] 29)) (.cells #[.int .u64 y.id, .int .u64 y.first, .int .i64 y.prio, .int .i64 y.len, .int .u64 y.en, .bool y.played, .int .i64 y.lpn, .slice y.A y.n y.c] 29)
  have hz3 := heap_alloc_new (w.alloc (.cells #[.int .u64 x.id, .int .u64 x.first, .int .i64 x.prio, .int .i64 x.len, .int .u64 x.en, .bool x.played, .int .i64 x.lpn, .slice x.A x.n x.c] 29)) (.cells #[.int .u64 y.id, .int .u64 y.first, .int .i64 y.prio, .int .i64 y.len, .int .u64 y.en, .bool y.played, .int .i64 y.lpn, .slice y.A y.n y.c] 29)
  rw [show (w.alloc (.cells #[.int .u64 x.id, .int .u64 x.first, .int .i64 x.prio, .int .i64 x.len, .int .u64 x.en, .bool x.played, .int .i64 x.lpn, .slice x.A x.n x.c] 29)).heap.size = w.heap.size + 1 by simp] at hz3
  have hb0 := below_alloc (below_alloc HB.out (.cells #[.int .u64 x.id, .int .u64 x.first, .int .i64 x.prio, .int .i64 x.len, .int .u64 x.en, .bool x.played, .int .i64 x.lpn, .slice x.A x.n x.c] 29)) (.cells #[.int .u64 y.id, .int .u64 y.first, .int .i64 y.prio, .int .i64 y.len, .int .u64 y.en, .bool y.played, .int .i64 y.lpn, .slice y.A y.n y.c] 29)
  generalize (w.alloc (.cells #[.int .u64 x.id, .int .u64 x.first, .int .i64 x.prio, .int .i64 x.len, .int .u64 x.en, .bool x.played, .int .i64 x.lpn, .slice x.A x.n x.c] 29)).alloc (.cells #[.int .u64 y.id, .int .u64 y.first, .int .i64 y.prio, .int .i64 y.len, .int .u64 y.en, .bool y.played, .int .i64 y.lpn, .slice y.A y.n y.c] 29) = W0 at hz2 hz3 hb0 ⊢
  have B0 := Aside0.mk (below_drew1 hb0)
  have Z2 := Aside0.mk (blk_drew hz2)
  have Z3 := Aside0.mk (blk_drew hz3)
  clear hz2 hz3 hb0 HB
  refine start_ (n := 13) (S := fun w' => True) (ds := []) #[false, false, false, false, false, false, false, false, false, false, false, false, false] (by kernel_rfl) rfl rfl trivial (fun hHeld => ?_)
  refine with_tabW cmpo.tab1 cmpo.bits1 (fun HT_ HW_ => ?_)
  generalize W0.drew = wq at B0 Z2 Z3 hHeld ⊢
  refine inv_at [0, 1, 2, 3, 4, 5, 6, 7, 8, 9, 10, 11, 12] (fun a0_ b a w' => ∃ (gs : Nat) (m10_ : Value), a = putSel a0_ b [(0, 5, .pointer (some ⟨w.heap.size + 1, 2, none⟩)), (1, 6, .int .i64 y.prio), (2, 7, .pointer (some ⟨w.heap.size, 2, none⟩)), (3, 8, .int .i64 x.prio), (4, 9, .int .i64 c1), (5, 10, .pointer (some ⟨w.heap.size, 0, none⟩)), (6, 11, .int .u64 x.id), (7, 12, .pointer (some ⟨w.heap.size + 1, 0, none⟩)), (8, 13, .int .u64 y.id), (9, 14, .int .i64 c2), (10, 15, m10_), (11, 16, .int .i64 rr), (12, 4, .int .i64 rr)] ∧ (Below w.heap.size w w') ∧ (w'.heap[w.heap.size]? = some (.cells #[.int .u64 x.id, .int .u64 x.first, .int .i64 x.prio, .int .i64 x.len, .int .u64 x.en, .bool x.played, .int .i64 x.lpn, .slice x.A x.n x.c] 29 (0, 0))) ∧ (w'.heap[w.heap.size + 1]? = some (.cells #[.int .u64 y.id, .int .u64 y.first, .int .i64 y.prio, .int .i64 y.len, .int .u64 y.en, .bool y.played, .int .i64 y.lpn, .slice y.A y.n y.c] 29 (0, 0))) ∧ (b 10 = true → w'.heap[gs]? = some (.cells #[.int .i64 c1, .int .i64 c2] 3 (0, 0)) ∧ True) ∧ (b 10 = true → (m10_ : Value) = .slice (some ⟨gs, 0, none⟩) 2 2)) HT_.out HW_.out (by kernel_rfl) (by kernel_rfl) ?_ ?_ ?_
  · exact ⟨0, .bool false, by simp only [putSel, Bool.false_eq_true, if_false], B0.out, Z2.out, Z3.out, fun h_ => absurd h_ (by decide), fun h_ => absurd h_ (by decide)⟩
  · skip
    clear B0 Z2 Z3
    refine steps_cons ?_ ?_
    · rintro b a w' ⟨gs, m10_, ha, Q_B0, Q_Z2, Q_Z3, Q_G1, Q_X10_⟩ hb_ hon hoff
      refine ⟨_, rfl, fun K hK => ?_⟩
      have e3 : a.tmps[3]? = some (.pointer (some ⟨w.heap.size + 1, 0, none⟩)) := by rw [ha]; exact (putSel_off rfl).trans rfl
      replace ha := Aside0.mk ha
      have B0 := Aside0.mk Q_B0
      have Z2 := Aside0.mk Q_Z2
      have Z3 := Aside0.mk Q_Z3
      refine value_ (w1 := w') (v := .pointer (some ⟨w.heap.size + 1, 2, none⟩)) (by rfl) rfl ?_ ?_
      · go_simp
        (try simp only [i64_w])
        try rfl
      refine hK.out _ _ ⟨gs, m10_, (by rw [ha.out]; exact putSel_upk 0 hb_ rfl rfl rfl), Q_B0, Q_Z2, Q_Z3, fun h0_ => absurd ((hoff 10 (by kernel_rfl)).symm.trans h0_) (by decide), fun h0_ => absurd ((hoff 10 (by kernel_rfl)).symm.trans h0_) (by decide)⟩
    refine steps_cons ?_ ?_
    · rintro b a w' ⟨gs, m10_, ha, Q_B0, Q_Z2, Q_Z3, Q_G1, Q_X10_⟩ hb_ hon hoff
      refine ⟨_, rfl, fun K hK => ?_⟩
      have e5 : a.tmps[5]? = some (.pointer (some ⟨w.heap.size + 1, 2, none⟩)) := by rw [ha]; exact putSel_on (e := (0, 5, .pointer (some ⟨w.heap.size + 1, 2, none⟩))) 0 rfl rfl (hon 0 (by kernel_rfl)) rfl
      replace ha := Aside0.mk ha
      have B0 := Aside0.mk Q_B0
      have Z2 := Aside0.mk Q_Z2
      have Z3 := Aside0.mk Q_Z3
      have c_ := blk_cell Z3.out 2
      refine value_ (w1 := w') (v := .int .i64 y.prio) (by rfl) rfl ?_ ?_
      · go_simp
        (try simp only [i64_w])
        try rfl
      refine hK.out _ _ ⟨gs, m10_, (by rw [ha.out]; exact putSel_upk 1 hb_ rfl rfl rfl), Q_B0, Q_Z2, Q_Z3, fun h0_ => absurd ((hoff 10 (by kernel_rfl)).symm.trans h0_) (by decide), fun h0_ => absurd ((hoff 10 (by kernel_rfl)).symm.trans h0_) (by decide)⟩
    refine steps_cons ?_ ?_
    · rintro b a w' ⟨gs, m10_, ha, Q_B0, Q_Z2, Q_Z3, Q_G1, Q_X10_⟩ hb_ hon hoff
      refine ⟨_, rfl, fun K hK => ?_⟩
      have e2 : a.tmps[2]? = some (.pointer (some ⟨w.heap.size, 0, none⟩)) := by rw [ha]; exact (putSel_off rfl).trans rfl
      replace ha := Aside0.mk ha
      have B0 := Aside0.mk Q_B0
      have Z2 := Aside0.mk Q_Z2
      have Z3 := Aside0.mk Q_Z3
      refine value_ (w1 := w') (v := .pointer (some ⟨w.heap.size, 2, none⟩)) (by rfl) rfl ?_ ?_
      · go_simp
        (try simp only [i64_w])
        try rfl
      refine hK.out _ _ ⟨gs, m10_, (by rw [ha.out]; exact putSel_upk 2 hb_ rfl rfl rfl), Q_B0, Q_Z2, Q_Z3, fun h0_ => absurd ((hoff 10 (by kernel_rfl)).symm.trans h0_) (by decide), fun h0_ => absurd ((hoff 10 (by kernel_rfl)).symm.trans h0_) (by decide)⟩
    refine steps_cons ?_ ?_
    · rintro b a w' ⟨gs, m10_, ha, Q_B0, Q_Z2, Q_Z3, Q_G1, Q_X10_⟩ hb_ hon hoff
      refine ⟨_, rfl, fun K hK => ?_⟩
      have e7 : a.tmps[7]? = some (.pointer (some ⟨w.heap.size, 2, none⟩)) := by rw [ha]; exact putSel_on (e := (2, 7, .pointer (some ⟨w.heap.size, 2, none⟩))) 2 rfl rfl (hon 2 (by kernel_rfl)) rfl
      replace ha := Aside0.mk ha
      have B0 := Aside0.mk Q_B0
      have Z2 := Aside0.mk Q_Z2
      have Z3 := Aside0.mk Q_Z3
      have c_ := blk_cell Z2.out 2
      refine value_ (w1 := w') (v := .int .i64 x.prio) (by rfl) rfl ?_ ?_
      · go_simp
        (try simp only [i64_w])
        try rfl
      refine hK.out _ _ ⟨gs, m10_, (by rw [ha.out]; exact putSel_upk 3 hb_ rfl rfl rfl), Q_B0, Q_Z2, Q_Z3, fun h0_ => absurd ((hoff 10 (by kernel_rfl)).symm.trans h0_) (by decide), fun h0_ => absurd ((hoff 10 (by kernel_rfl)).symm.trans h0_) (by decide)⟩
    refine steps_cons ?_ ?_
    · rintro b a w' ⟨gs, m10_, ha, Q_B0, Q_Z2, Q_Z3, Q_G1, Q_X10_⟩ hb_ hon hoff
      refine ⟨_, rfl, fun K hK => ?_⟩
      have e6 : a.tmps[6]? = some (.int .i64 y.prio) := by rw [ha]; exact putSel_on (e := (1, 6, .int .i64 y.prio)) 1 rfl rfl (hon 1 (by kernel_rfl)) rfl
      have e8 : a.tmps[8]? = some (.int .i64 x.prio) := by rw [ha]; exact putSel_on (e := (3, 8, .int .i64 x.prio)) 3 rfl rfl (hon 3 (by kernel_rfl)) rfl
      replace ha := Aside0.mk ha
      have B0 := Aside0.mk Q_B0
      have Z2 := Aside0.mk Q_Z2
      have Z3 := Aside0.mk Q_Z3
      refine goes_ Try.func66 (by kernel_rfl) rfl #[.int .i64 y.prio, .int .i64 x.prio] (by rfl) rfl rfl (by first | (simp only [List.map_toArray, List.map_cons, List.map_nil, Act.eval, Array.getD_eq_getD_getElem?, Option.getD_some, e6, e8]; done) | (simp only [List.map_toArray, List.map_cons, List.map_nil, Act.eval, Array.getD_eq_getD_getElem?, Option.getD_some, e6, e8]; rfl)) ?_
      with_reducible refine (HC1.out _).mono ?_
      rintro e w2 ⟨rfl, hb⟩
      refine ⟨_, rfl, ?_⟩
      refine hK.out _ _ ⟨gs, m10_, (by rw [ha.out]; exact putSel_upk 4 hb_ rfl rfl rfl), below_then B0.out B0.out.size hb, blk_below Z2.out hb, blk_below Z3.out hb, fun h0_ => absurd ((hoff 10 (by kernel_rfl)).symm.trans h0_) (by decide), fun h0_ => absurd ((hoff 10 (by kernel_rfl)).symm.trans h0_) (by decide)⟩
    refine steps_cons ?_ ?_
    · rintro b a w' ⟨gs, m10_, ha, Q_B0, Q_Z2, Q_Z3, Q_G1, Q_X10_⟩ hb_ hon hoff
      refine ⟨_, rfl, fun K hK => ?_⟩
      have e2 : a.tmps[2]? = some (.pointer (some ⟨w.heap.size, 0, none⟩)) := by rw [ha]; exact (putSel_off rfl).trans rfl
      replace ha := Aside0.mk ha
      have B0 := Aside0.mk Q_B0
      have Z2 := Aside0.mk Q_Z2
      have Z3 := Aside0.mk Q_Z3
      refine value_ (w1 := w') (v := .pointer (some ⟨w.heap.size, 0, none⟩)) (by rfl) rfl ?_ ?_
      · go_simp
        (try simp only [i64_w])
        try rfl
      refine hK.out _ _ ⟨gs, m10_, (by rw [ha.out]; exact putSel_upk 5 hb_ rfl rfl rfl), Q_B0, Q_Z2, Q_Z3, fun h0_ => absurd ((hoff 10 (by kernel_rfl)).symm.trans h0_) (by decide), fun h0_ => absurd ((hoff 10 (by kernel_rfl)).symm.trans h0_) (by decide)⟩
    refine steps_cons ?_ ?_
    · rintro b a w' ⟨gs, m10_, ha, Q_B0, Q_Z2, Q_Z3, Q_G1, Q_X10_⟩ hb_ hon hoff
      refine ⟨_, rfl, fun K hK => ?_⟩
      have e10 : a.tmps[10]? = some (.pointer (some ⟨w.heap.size, 0, none⟩)) := by rw [ha]; exact putSel_on (e := (5, 10, .pointer (some ⟨w.heap.size, 0, none⟩))) 5 rfl rfl (hon 5 (by kernel_rfl)) rfl
      replace ha := Aside0.mk ha
      have B0 := Aside0.mk Q_B0
      have Z2 := Aside0.mk Q_Z2
      have Z3 := Aside0.mk Q_Z3
      have c_ := blk_cell Z2.out 0
      refine value_ (w1 := w') (v := .int .u64 x.id) (by rfl) rfl ?_ ?_
      · go_simp
        (try simp only [i64_w])
        try rfl
      refine hK.out _ _ ⟨gs, m10_, (by rw [ha.out]; exact putSel_upk 6 hb_ rfl rfl rfl), Q_B0, Q_Z2, Q_Z3, fun h0_ => absurd ((hoff 10 (by kernel_rfl)).symm.trans h0_) (by decide), fun h0_ => absurd ((hoff 10 (by kernel_rfl)).symm.trans h0_) (by decide)⟩
    refine steps_cons ?_ ?_
    · rintro b a w' ⟨gs, m10_, ha, Q_B0, Q_Z2, Q_Z3, Q_G1, Q_X10_⟩ hb_ hon hoff
      refine ⟨_, rfl, fun K hK => ?_⟩
      have e3 : a.tmps[3]? = some (.pointer (some ⟨w.heap.size + 1, 0, none⟩)) := by rw [ha]; exact (putSel_off rfl).trans rfl
      replace ha := Aside0.mk ha
      have B0 := Aside0.mk Q_B0
      have Z2 := Aside0.mk Q_Z2
      have Z3 := Aside0.mk Q_Z3
      refine value_ (w1 := w') (v := .pointer (some ⟨w.heap.size + 1, 0, none⟩)) (by rfl) rfl ?_ ?_
      · go_simp
        (try simp only [i64_w])
        try rfl
      refine hK.out _ _ ⟨gs, m10_, (by rw [ha.out]; exact putSel_upk 7 hb_ rfl rfl rfl), Q_B0, Q_Z2, Q_Z3, fun h0_ => absurd ((hoff 10 (by kernel_rfl)).symm.trans h0_) (by decide), fun h0_ => absurd ((hoff 10 (by kernel_rfl)).symm.trans h0_) (by decide)⟩
    refine steps_cons ?_ ?_
    · rintro b a w' ⟨gs, m10_, ha, Q_B0, Q_Z2, Q_Z3, Q_G1, Q_X10_⟩ hb_ hon hoff
      refine ⟨_, rfl, fun K hK => ?_⟩
      have e12 : a.tmps[12]? = some (.pointer (some ⟨w.heap.size + 1, 0, none⟩)) := by rw [ha]; exact putSel_on (e := (7, 12, .pointer (some ⟨w.heap.size + 1, 0, none⟩))) 7 rfl rfl (hon 7 (by kernel_rfl)) rfl
      replace ha := Aside0.mk ha
      have B0 := Aside0.mk Q_B0
      have Z2 := Aside0.mk Q_Z2
      have Z3 := Aside0.mk Q_Z3
      have c_ := blk_cell Z3.out 0
      refine value_ (w1 := w') (v := .int .u64 y.id) (by rfl) rfl ?_ ?_
      · go_simp
        (try simp only [i64_w])
        try rfl
      refine hK.out _ _ ⟨gs, m10_, (by rw [ha.out]; exact putSel_upk 8 hb_ rfl rfl rfl), Q_B0, Q_Z2, Q_Z3, fun h0_ => absurd ((hoff 10 (by kernel_rfl)).symm.trans h0_) (by decide), fun h0_ => absurd ((hoff 10 (by kernel_rfl)).symm.trans h0_) (by decide)⟩
    refine steps_cons ?_ ?_
    · rintro b a w' ⟨gs, m10_, ha, Q_B0, Q_Z2, Q_Z3, Q_G1, Q_X10_⟩ hb_ hon hoff
      refine ⟨_, rfl, fun K hK => ?_⟩
      have e11 : a.tmps[11]? = some (.int .u64 x.id) := by rw [ha]; exact putSel_on (e := (6, 11, .int .u64 x.id)) 6 rfl rfl (hon 6 (by kernel_rfl)) rfl
      have e13 : a.tmps[13]? = some (.int .u64 y.id) := by rw [ha]; exact putSel_on (e := (8, 13, .int .u64 y.id)) 8 rfl rfl (hon 8 (by kernel_rfl)) rfl
      replace ha := Aside0.mk ha
      have B0 := Aside0.mk Q_B0
      have Z2 := Aside0.mk Q_Z2
      have Z3 := Aside0.mk Q_Z3
      refine goes_ Try.func67 (by kernel_rfl) rfl #[.int .u64 x.id, .int .u64 y.id] (by rfl) rfl rfl (by first | (simp only [List.map_toArray, List.map_cons, List.map_nil, Act.eval, Array.getD_eq_getD_getElem?, Option.getD_some, e11, e13]; done) | (simp only [List.map_toArray, List.map_cons, List.map_nil, Act.eval, Array.getD_eq_getD_getElem?, Option.getD_some, e11, e13]; rfl)) ?_
      with_reducible refine (HC2.out _).mono ?_
      rintro e w2 ⟨rfl, hb⟩
      refine ⟨_, rfl, ?_⟩
      refine hK.out _ _ ⟨gs, m10_, (by rw [ha.out]; exact putSel_upk 9 hb_ rfl rfl rfl), below_then B0.out B0.out.size hb, blk_below Z2.out hb, blk_below Z3.out hb, fun h0_ => absurd ((hoff 10 (by kernel_rfl)).symm.trans h0_) (by decide), fun h0_ => absurd ((hoff 10 (by kernel_rfl)).symm.trans h0_) (by decide)⟩
    refine steps_cons ?_ ?_
    · rintro b a w' ⟨gs, m10_, ha, Q_B0, Q_Z2, Q_Z3, Q_G1, Q_X10_⟩ hb_ hon hoff
      refine ⟨_, rfl, fun K hK => ?_⟩
      have e9 : a.tmps[9]? = some (.int .i64 c1) := by rw [ha]; exact putSel_on (e := (4, 9, .int .i64 c1)) 4 rfl rfl (hon 4 (by kernel_rfl)) rfl
      have e14 : a.tmps[14]? = some (.int .i64 c2) := by rw [ha]; exact putSel_on (e := (9, 14, .int .i64 c2)) 9 rfl rfl (hon 9 (by kernel_rfl)) rfl
      replace ha := Aside0.mk ha
      have B0 := Aside0.mk Q_B0
      have Z2 := Aside0.mk Q_Z2
      have Z3 := Aside0.mk Q_Z3
      refine value_ (w1 := w'.alloc (Obj.cells #[.int .i64 c1, .int .i64 c2] 3)) (v := .slice (some ⟨w'.heap.size, 0, none⟩) 2 2) (by rfl) rfl (by first | (go_simp; done) | (go_simp; rfl)) ?_
      have hb := below_alloc (Below.refl w'.heap.size w') (Obj.cells #[.int .i64 c1, .int .i64 c2] 3)
      refine hK.out _ _ ⟨w'.heap.size, (.slice (some ⟨w'.heap.size, 0, none⟩) 2 2), (by rw [ha.out]; exact putSel_upk 10 hb_ rfl rfl rfl), below_then B0.out B0.out.size hb, blk_below Z2.out hb, blk_below Z3.out hb, fun _ => ⟨heap_alloc_new w' _, trivial⟩, fun _ => rfl⟩
    refine steps_cons ?_ ?_
    · rintro b a w' ⟨gs, m10_, ha, Q_B0, Q_Z2, Q_Z3, Q_G1, Q_X10_⟩ hb_ hon hoff
      refine ⟨_, rfl, fun K hK => ?_⟩
      have e15 : a.tmps[15]? = some (m10_) := by rw [ha]; exact putSel_on (e := (10, 15, m10_)) 10 rfl rfl (hon 10 (by kernel_rfl)) rfl
      rw [Q_X10_ (hon 10 (by kernel_rfl))] at e15
      replace ha := Aside0.mk ha
      have B0 := Aside0.mk Q_B0
      have Z2 := Aside0.mk Q_Z2
      have Z3 := Aside0.mk Q_Z3
      have G1 := Aside0.mk (Q_G1 (hon 10 (by kernel_rfl)))
      refine goes_ Try.func65 (by kernel_rfl) rfl #[.slice (some ⟨gs, 0, none⟩) 2 2] (by rfl) rfl rfl (by first | (simp only [List.map_toArray, List.map_cons, List.map_nil, Act.eval, Array.getD_eq_getD_getElem?, Option.getD_some, e15]; done) | (simp only [List.map_toArray, List.map_cons, List.map_nil, Act.eval, Array.getD_eq_getD_getElem?, Option.getD_some, e15]; rfl)) ?_
      with_reducible refine (HOR.out _ _ G1.out.1).mono ?_
      rintro e w2 ⟨rfl, hb⟩
      refine ⟨_, rfl, ?_⟩
      refine hK.out _ _ ⟨gs, m10_, (by rw [ha.out]; exact putSel_upk 11 hb_ rfl rfl rfl), below_then B0.out B0.out.size hb, blk_below Z2.out hb, blk_below Z3.out hb, fun _ => ⟨blk_below G1.out.1 hb, trivial⟩, Q_X10_⟩
    refine steps_cons ?_ ?_
    · rintro b a w' ⟨gs, m10_, ha, Q_B0, Q_Z2, Q_Z3, Q_G1, Q_X10_⟩ hb_ hon hoff
      refine ⟨_, rfl, fun K hK => ?_⟩
      have e16 : a.tmps[16]? = some (.int .i64 rr) := by rw [ha]; exact putSel_on (e := (11, 16, .int .i64 rr)) 11 rfl rfl (hon 11 (by kernel_rfl)) rfl
      replace ha := Aside0.mk ha
      have B0 := Aside0.mk Q_B0
      have Z2 := Aside0.mk Q_Z2
      have Z3 := Aside0.mk Q_Z3
      have G1 := Aside0.mk (Q_G1 (hon 10 (by kernel_rfl)))
      refine value_ (w1 := w') (v := .int .i64 rr) (by rfl) rfl ?_ ?_
      · go_simp
        (try simp only [i64_w])
        try rfl
      refine hK.out _ _ ⟨gs, m10_, (by rw [ha.out]; exact putSel_upk 12 hb_ rfl rfl rfl), Q_B0, Q_Z2, Q_Z3, Q_G1, Q_X10_⟩
    exact steps_nil
  rintro b a wl hall ⟨gs, m10_, ha, Q_B0, Q_Z2, Q_Z3, Q_G1, Q_X10_⟩
  clear B0 Z2 Z3
  have hb0_ := hall 0 (by kernel_rfl)
  have hb1_ := hall 1 (by kernel_rfl)
  have hb2_ := hall 2 (by kernel_rfl)
  have hb3_ := hall 3 (by kernel_rfl)
  have hb4_ := hall 4 (by kernel_rfl)
  have hb5_ := hall 5 (by kernel_rfl)
  have hb6_ := hall 6 (by kernel_rfl)
  have hb7_ := hall 7 (by kernel_rfl)
  have hb8_ := hall 8 (by kernel_rfl)
  have hb9_ := hall 9 (by kernel_rfl)
  have hb10_ := hall 10 (by kernel_rfl)
  have hb11_ := hall 11 (by kernel_rfl)
  have hb12_ := hall 12 (by kernel_rfl)
  subst ha
  obtain rfl := Q_X10_ hb10_
  simp only [putSel, hb0_, hb1_, hb2_, hb3_, hb4_, hb5_, hb6_, hb7_, hb8_, hb9_, hb10_, hb11_, hb12_, if_true, Act.put, List.setIfInBounds_toArray, List.set_cons_zero, List.set_cons_succ]
  have B0 := Aside0.mk Q_B0
  clear Q_B0
  have Z2 := Aside0.mk Q_Z2
  clear Q_Z2
  have Z3 := Aside0.mk Q_Z3
  clear Q_Z3
  have G1 := Aside0.mk (Q_G1 hb10_)
  clear Q_G1
  clear hall hb0_ hb1_ hb2_ hb3_ hb4_ hb5_ hb6_ hb7_ hb8_ hb9_ hb10_ hb11_ hb12_
  go_wp2_with fail
  go_ret
  exact ⟨rr, rfl, HRR.out, B0.out⟩
end Go.Proofs.Ytnopjcakilfepaa.QS
