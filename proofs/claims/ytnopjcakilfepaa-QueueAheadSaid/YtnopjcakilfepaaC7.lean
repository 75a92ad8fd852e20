import Derived.Test.YtnopjcakilfepaaC6
namespace Go.Proofs.Ytnopjcakilfepaa.QS
set_option linter.unusedVariables false
set_option linter.unusedSimpArgs false
open Go.RowKit Go.Proofs.Ytnopjcakilfepaa.SS Go.Proofs.Ytnopjcakilfepaa.Hp Go.Proofs.YtnopjcakilfepaaW.PrintWords Go.Proofs.YtnopjcakilfepaaW.PrintLast Go.Proofs.YtnopjcakilfepaaW.PrintMore
def awake30.T3 : Bool × List (List Nat × List Nat) := (true, [([], []), ([0], [0]), ([1], [1]), ([2], [2]), ([3], [3]), ([3, 4], [3, 4]), ([5, 3], [5]), ([6], [6]), ([7, 6, 6], [6, 7]), ([8, 6], [6, 8]), ([9, 6], [6, 9]), ([6, 10], [6, 10]), ([11, 8], [11]), ([12], [12]), ([13, 12, 12], [12, 13]), ([12], [12]), ([14, 15, 12], [12, 14, 15]), ([12, 16], [12, 16]), ([17, 14], [17]), ([18], [18]), ([19, 18], [18, 19]), ([20, 18], [18, 20]), ([18], [18]), ([22, 18], [18, 22]), ([23, 18], [18, 23]), ([21, 24, 18, 18], [18, 21, 24]), ([18, 25], [18, 25]), ([26, 25], [26]), ([27], [27]), ([28, 27], [27, 28]), ([29, 27], [27, 29]), ([27], [27]), ([31, 27], [27, 31]), ([32, 27], [27, 32]), ([30, 33, 27, 27], [27, 30, 33]), ([34, 27], [27, 34]), ([27, 35], [27, 35]), ([36, 34], [36]), ([37], [37]), ([38, 37, 37], [37, 38]), ([39, 37], [37, 39]), ([40, 37], [37, 40]), ([37, 41], [37, 41]), ([42, 39, 0, 1, 2, 3, 4, 5, 6, 7, 8, 9, 10, 11, 12, 13, 14, 15, 16, 17, 18, 19, 20, 21, 22, 23, 24, 25, 26, 27, 28, 29, 30, 31, 32, 33, 34, 35, 36, 37, 38, 39, 40, 41, 42], [42])])
def awake30.B3 : List Nat := [0, 1, 3, 7, 15, 31, 63, 127, 255, 511, 1023, 2047, 4095, 8191, 16383, 8191, 65535, 131071, 262143, 524287, 1048575, 2097151, 524287, 4718591, 13107199, 33554431, 67108863, 134217727, 268435455, 536870911, 1073741823, 268435455, 2415919103, 6710886399, 17179869183, 34359738367, 68719476735, 137438953471, 274877906943, 549755813887, 1099511627775, 2199023255551, 4398046511103, 8796093022207]
theorem awake30.tab3 : rtab .any (opsOf Try.f12 3) = awake30.T3 := by kernel_rfl
theorem awake30.bits3 : waitsOk awake30.T3.2 awake30.B3 = true := by kernel_rfl
def rz (i p : Int) (pl : Bool) : R0 := ⟨i, 0, p, 0, 0, pl, 0, []⟩
def awL : List R0 := [rz 1 0 false, rz 5 2 false, rz 3 2 false, rz 0 2 true]
theorem aw_light : lightL awL := ⟨by decide, fun x hx => by
  have : x = rz 1 0 false ∨ x = rz 5 2 false ∨ x = rz 3 2 false ∨ x = rz 0 2 true := by simpa [awL] using hx
  rcases this with rfl | rfl | rfl | rfl <;> decide⟩
theorem lit_reads {W : World} {g : Nat} (ps : List Rp) (hn : ps.length ≤ 100000) (h : W.heap[g]? = some (.cells ((ps.map recOf).flatMap Rec.enc).toArray 29 (0, 0))) (hg : ∀ p ∈ ps, Pg W p.1 p.2.1 p.2.2) : Kd.C k29 W (some ⟨g, 0, none⟩) (ps.map (·.1)).length (ps.map (·.1)) := by
  refine ⟨rfl, by rw [List.length_map]; omega, fun h0 => ⟨⟨g, 0, none⟩, rfl, fun i x hx => ?_⟩⟩
  rw [List.getElem?_map] at hx
  obtain ⟨p, hp, rfl⟩ := Option.map_eq_some_iff.1 hx
  have hgp := hg p (List.mem_of_getElem? hp)
  refine ⟨(recOf p).enc, rfl, k29_mk W p.1 hgp.1 hgp.2, fun k u hu => ?_⟩
  have hk : k < 8 := (List.getElem?_eq_some_iff.1 hu).1
  have e := encs_at (ps.map recOf) i (recOf p) (by rw [List.getElem?_map, hp]; rfl) k hk
  rw [show (k29.sz : Nat) = 8 from rfl, add_plain, blk_cell h, List.getElem?_toArray, e, hu]
def AwB (W : World) (g : Nat) : Prop := W.heap[g]? = some (.cells #[.int .u64 1, .int .u64 0, .int .i64 0, .int .i64 0, .int .u64 0, .bool false, .int .i64 0, .slice none 0 0, .int .u64 5, .int .u64 0, .int .i64 2, .int .i64 0, .int .u64 0, .bool false, .int .i64 0, .slice none 0 0, .int .u64 3, .int .u64 0, .int .i64 2, .int .i64 0, .int .u64 0, .bool false, .int .i64 0, .slice none 0 0, .int .u64 0, .int .u64 0, .int .i64 2, .int .i64 0, .int .u64 0, .bool true, .int .i64 0, .slice none 0 0] 29 (0, 0))
theorem AwB.below {W W' : World} {g : Nat} (h : AwB W g) (hb : Below W.heap.size W W') : AwB W' g := blk_below h hb
theorem aw_reads {W : World} {g : Nat} (h : AwB W g) : Kd.C k29 W (some ⟨g, 0, none⟩) 4 awL :=
  lit_reads [(rz 1 0 false, none, 0), (rz 5 2 false, none, 0), (rz 3 2 false, none, 0), (rz 0 2 true, none, 0)] (by decide) h (fun p hp => by
    have : p = (rz 1 0 false, none, 0) ∨ p = (rz 5 2 false, none, 0) ∨ p = (rz 3 2 false, none, 0) ∨ p = (rz 0 2 true, none, 0) := by simpa using hp
    rcases this with rfl | rfl | rfl | rfl <;> exact ⟨Nat.le_refl _, Kd.C_nil _ _⟩)
set_option maxHeartbeats 4000000 in
set_option maxRecDepth 100000 in
theorem awake_calls (w : World) : Calls Try.prog 12 #[] w fun e w' => e = .returned (.bool true) ∧ Below w.heap.size w w' := by
  have HB := Aside0.mk (Below.refl w.heap.size w)
  go_enter Try.func12, Try.ntmps12
  go_upto_region 2 with fail
  have L1 : AwB (w.alloc (.cells #[.int .u64 1, .int .u64 0, .int .i64 0, .int .i64 0, .int .u64 0, .bool false, .int .i64 0, .slice none 0 0, .int .u64 5, .int .u64 0, .int .i64 2, .int .i64 0, .int .u64 0, .bool false, .int .i64 0, .slice none 0 0, .int .u64 3, .int .u64 0, .int .i64 2, .int .i64 0, .int .u64 0, .bool false, .int .i64 0, .slice none 0 0, .int .u64 0, .int .u64 0, .int .i64 2, .int .i64 0, .int .u64 0, .bool true, .int .i64 0, .slice none 0 0] 29)) w.heap.size := heap_alloc_new w (.cells #[.int .u64 1, .int .u64 0, .int .i64 0, .int .i64 0, .int .u64 0, .bool false, .int .i64 0, .slice none 0 0, .int .u64 5, .int .u64 0, .int .i64 2, .int .i64 0, .int .u64 0, .bool false, .int .i64 0, .slice none 0 0, .int .u64 3, .int .u64 0, .int .i64 2, .int .i64 0, .int .u64 0, .bool false, .int .i64 0, .slice none 0 0, .int .u64 0, .int .u64 0, .int .i64 2, .int .i64 0, .int .u64 0, .bool true, .int .i64 0, .slice none 0 0] 29)
  have hb1 := below_alloc HB.out (.cells #[.int .u64 1, .int .u64 0, .int .i64 0, .int .i64 0, .int .u64 0, .bool false, .int .i64 0, .slice none 0 0, .int .u64 5, .int .u64 0, .int .i64 2, .int .i64 0, .int .u64 0, .bool false, .int .i64 0, .slice none 0 0, .int .u64 3, .int .u64 0, .int .i64 2, .int .i64 0, .int .u64 0, .bool false, .int .i64 0, .slice none 0 0, .int .u64 0, .int .u64 0, .int .i64 2, .int .i64 0, .int .u64 0, .bool true, .int .i64 0, .slice none 0 0] 29)
  generalize w.alloc (.cells #[.int .u64 1, .int .u64 0, .int .i64 0, .int .i64 0, .int .u64 0, .bool false, .int .i64 0, .slice none 0 0, .int .u64 5, .int .u64 0, .int .i64 2, .int .i64 0, .int .u64 0, .bool false, .int .i64 0, .slice none 0 0, .int .u64 3, .int .u64 0, .int .i64 2, .int .i64 0, .int .u64 0, .bool false, .int .i64 0, .slice none 0 0, .int .u64 0, .int .u64 0, .int .i64 2, .int .i64 0, .int .u64 0, .bool true, .int .i64 0, .slice none 0 0] 29) = w1 at L1 hb1 ⊢
  have HNX : Aside0 (Calls Try.prog 15 #[.slice (some ⟨w.heap.size, 0, none⟩) 4 4] w1 fun e w' => ∃ (A7 : Option Addr) (c7 : Nat), e = .returned (.tuple #[.agg #[.int .u64 3, .int .u64 0, .int .i64 2, .int .i64 0, .int .u64 0, .bool false, .int .i64 0, .slice A7 0 c7], .bool true]) ∧ Below w1.heap.size w1 w') := ⟨by
    refine (next_calls awL aw_light (some ⟨w.heap.size, 0, none⟩) 4 w1 (aw_reads L1) (rz 3 2 false) rfl).mono ?_
    rintro e w' ⟨A7, c7, rfl, _, _, hb⟩
    exact ⟨A7, c7, rfl, hb⟩⟩
  have L1' := Aside0.mk L1
  have hb1' := Aside0.mk hb1
  clear HB L1 hb1
  go_upto_region 3 with (go_at_call 15; refine HNX.out.mono ?_; rintro e w2 ⟨A7, c7, rfl, hb2⟩; replace hb2 := Aside0.mk hb2)
  have L0 : Aside0 (AwB (w2.alloc (.cells #[.int .u64 3, .int .u64 0, .int .i64 2, .int .i64 0, .int .u64 0, .bool false, .int .i64 0, .slice A7 0 c7] 29)) w.heap.size) := ⟨(L1'.out.below hb2.out).below (below_alloc (Below.refl _ _) _)⟩
  have Z2 : Aside0 ((w2.alloc (.cells #[.int .u64 3, .int .u64 0, .int .i64 2, .int .i64 0, .int .u64 0, .bool false, .int .i64 0, .slice A7 0 c7] 29)).heap[w2.heap.size]? = some (.cells #[.int .u64 3, .int .u64 0, .int .i64 2, .int .i64 0, .int .u64 0, .bool false, .int .i64 0, .slice A7 0 c7] 29 (0, 0))) := ⟨heap_alloc_new w2 _⟩
  have HW : Aside0 (Below w.heap.size w (w2.alloc (.cells #[.int .u64 3, .int .u64 0, .int .i64 2, .int .i64 0, .int .u64 0, .bool false, .int .i64 0, .slice A7 0 c7] 29))) := ⟨below_alloc (below_then hb1'.out hb1'.out.size hb2.out) _⟩
  generalize w2.alloc (.cells #[.int .u64 3, .int .u64 0, .int .i64 2, .int .i64 0, .int .u64 0, .bool false, .int .i64 0, .slice A7 0 c7] 29) = W0 at L0 Z2 HW ⊢
  generalize w2.heap.size = b2 at Z2 ⊢
  replace L0 : Aside0 (AwB W0.drew w.heap.size) := ⟨L0.out.below (below_drew1 (Below.refl _ _))⟩
  replace Z2 := Aside0.mk (blk_drew Z2.out)
  have B0 := Aside0.mk (below_drew1 (Below.refl W0.heap.size W0))
  have HORD : Aside0 (∀ W : World, AwB W w.heap.size → Calls Try.prog 13 #[.slice (some ⟨w.heap.size, 0, none⟩) 4 4] W fun e w' => ∃ A c, e = .returned (.slice A 3 c) ∧ Below W.heap.size W w') := ⟨fun W h => by
    refine (order_calls awL aw_light (some ⟨w.heap.size, 0, none⟩) 4 W (aw_reads h)).mono ?_
    rintro e w' ⟨v, rfl, hr, hb⟩
    obtain ⟨A, c, rfl⟩ := Kd.R_slice hr
    exact ⟨A, c, rfl, hb⟩⟩
  have HCLS : Aside0 (∀ W : World, AwB W w.heap.size → Calls Try.prog 19 #[.slice (some ⟨w.heap.size, 0, none⟩) 4 4, .int .i64 2] W fun e w' => ∃ A c, e = .returned (.slice A 2 c) ∧ Below W.heap.size W w') := ⟨fun W h => by
    refine (class_calls awL aw_light 2 (some ⟨w.heap.size, 0, none⟩) 4 W (aw_reads h)).mono ?_
    rintro e w' ⟨v, rfl, hr, hb⟩
    obtain ⟨A, c, rfl⟩ := Kd.R_slice hr
    exact ⟨A, c, rfl, hb⟩⟩
  have HWAI : Aside0 (∀ W : World, AwB W w.heap.size → Calls Try.prog 20 #[.slice (some ⟨w.heap.size, 0, none⟩) 4 4] W fun e w' => e = .returned (.agg #[.int .i64 1, .int .i64 0, .int .i64 2]) ∧ Below W.heap.size W w') := ⟨fun W h => waiting_calls awL aw_light (some ⟨w.heap.size, 0, none⟩) 4 W (aw_reads h)⟩
  have HAH1 : Aside0 (∀ W : World, Calls Try.prog 18 #[.agg #[.int .u64 5, .int .u64 0, .int .i64 2, .int .i64 0, .int .u64 0, .bool false, .int .i64 0, .slice none 0 0], .agg #[.int .u64 1, .int .u64 0, .int .i64 0, .int .i64 0, .int .u64 0, .bool false, .int .i64 0, .slice none 0 0]] W fun e w' => e = .returned (.bool true) ∧ Below W.heap.size W w') := ⟨fun W => ahead_calls (rz 5 2 false) (rz 1 0 false) none 0 none 0 W ⟨Nat.le_refl _, Kd.C_nil _ _⟩ ⟨Nat.le_refl _, Kd.C_nil _ _⟩⟩
  have HAH2 : Aside0 (∀ W : World, Calls Try.prog 18 #[.agg #[.int .u64 5, .int .u64 0, .int .i64 2, .int .i64 0, .int .u64 0, .bool false, .int .i64 0, .slice none 0 0], .agg #[.int .u64 3, .int .u64 0, .int .i64 2, .int .i64 0, .int .u64 0, .bool false, .int .i64 0, .slice none 0 0]] W fun e w' => e = .returned (.bool false) ∧ Below W.heap.size W w') := ⟨fun W => ahead_calls (rz 5 2 false) (rz 3 2 false) none 0 none 0 W ⟨Nat.le_refl _, Kd.C_nil _ _⟩ ⟨Nat.le_refl _, Kd.C_nil _ _⟩⟩
  have heq : ∀ W, Sem.run Try.prog (Op.equalIn 10000 34 (.agg #[.int .i64 1, .int .i64 0, .int .i64 2]) (.agg #[.int .i64 1, .int .i64 0, .int .i64 2])) W = .ok true W := fun W => by kernel_rfl
  clear HNX L1' hb1' hb2
  refine start_ (n := 44) (S := fun w' => True) (ds := []) #[false, false, false, false, false, false, false, false, false, false, false, false, false, false, false, false, false, false, false, false, false, false, false, false, false, false, false, false, false, false, false, false, false, false, false, false, false, false, false, false, false, false, false, false] (by kernel_rfl) rfl rfl trivial (fun hHeld => ?_)
  refine with_tabW awake30.tab3 awake30.bits3 (fun HT_ HW_ => ?_)
  generalize W0.drew = wq at B0 L0 Z2 hHeld ⊢
  refine inv_at [0, 1, 2, 3, 4, 5, 6, 7, 8, 9, 10, 11, 12, 13, 14, 15, 16, 17, 18, 19, 20, 21, 22, 23, 24, 25, 26, 27, 28, 29, 30, 31, 32, 33, 34, 35, 36, 37, 38, 39, 40, 41, 42, 43] (fun a0_ b a w' => ∃ (A13 : Option Addr) (c13 : Nat) (A19 : Option Addr) (c19 : Nat) (m8_ : Value) (m39_ : Value), a = putSel a0_ b [(0, 14, .pointer (some ⟨b2, 0, none⟩)), (1, 15, .int .u64 3), (2, 16, .bool true), (3, 17, .bool true), (4, 18, .bool true), (5, 19, .bool true), (6, 20, .bool true), (7, 21, .slice (some ⟨w.heap.size, 0, none⟩) 4 4), (8, 22, m8_), (9, 23, .int .i64 3), (10, 24, .bool true), (11, 25, .bool true), (12, 26, .bool true), (13, 27, .slice (some ⟨w.heap.size, 0, none⟩) 4 4), (14, 28, .agg #[.int .i64 1, .int .i64 0, .int .i64 2]), (15, 29, .agg #[.int .i64 1, .int .i64 0, .int .i64 2]), (16, 30, .bool true), (17, 31, .bool true), (18, 32, .bool true), (19, 33, .slice (some ⟨w.heap.size, 0, none⟩) 4 4), (20, 34, .pointer (some ⟨w.heap.size, 8, none⟩)), (21, 35, .agg #[.int .u64 5, .int .u64 0, .int .i64 2, .int .i64 0, .int .u64 0, .bool false, .int .i64 0, .slice none 0 0]), (22, 36, .slice (some ⟨w.heap.size, 0, none⟩) 4 4), (23, 37, .pointer (some ⟨w.heap.size, 0, none⟩)), (24, 38, .agg #[.int .u64 1, .int .u64 0, .int .i64 0, .int .i64 0, .int .u64 0, .bool false, .int .i64 0, .slice none 0 0]), (25, 39, .bool true), (26, 40, .bool true), (27, 41, .bool true), (28, 42, .slice (some ⟨w.heap.size, 0, none⟩) 4 4), (29, 43, .pointer (some ⟨w.heap.size, 8, none⟩)), (30, 44, .agg #[.int .u64 5, .int .u64 0, .int .i64 2, .int .i64 0, .int .u64 0, .bool false, .int .i64 0, .slice none 0 0]), (31, 45, .slice (some ⟨w.heap.size, 0, none⟩) 4 4), (32, 46, .pointer (some ⟨w.heap.size, 16, none⟩)), (33, 47, .agg #[.int .u64 3, .int .u64 0, .int .i64 2, .int .i64 0, .int .u64 0, .bool false, .int .i64 0, .slice none 0 0]), (34, 48, .bool false), (35, 49, .bool true), (36, 50, .bool true), (37, 51, .bool true), (38, 52, .slice (some ⟨w.heap.size, 0, none⟩) 4 4), (39, 53, m39_), (40, 54, .int .i64 2), (41, 55, .bool true), (42, 56, .bool true), (43, 0, .bool true)] ∧ (Below W0.heap.size W0 w') ∧ (AwB w' w.heap.size) ∧ (w'.heap[b2]? = some (.cells #[.int .u64 3, .int .u64 0, .int .i64 2, .int .i64 0, .int .u64 0, .bool false, .int .i64 0, .slice A7 0 c7] 29 (0, 0))) ∧ (b 8 = true → (m8_ : Value) = .slice A13 3 c13) ∧ (b 39 = true → (m39_ : Value) = .slice A19 2 c19)) HT_.out HW_.out (by kernel_rfl) (by kernel_rfl) ?_ ?_ ?_
  · exact ⟨none, 0, none, 0, .bool false, .bool false, by simp only [putSel, Bool.false_eq_true, if_false], B0.out, L0.out, Z2.out, fun h_ => absurd h_ (by decide), fun h_ => absurd h_ (by decide)⟩
  · skip
    clear B0 L0 Z2
    refine steps_cons ?_ ?_
    · rintro b a w' ⟨A13, c13, A19, c19, m8_, m39_, ha, Q_B0, Q_L0, Q_Z2, Q_X8_, Q_X39_⟩ hb_ hon hoff
      refine ⟨_, rfl, fun K hK => ?_⟩
      have e2 : a.tmps[2]? = some (.pointer (some ⟨b2, 0, none⟩)) := by rw [ha]; exact (putSel_off rfl).trans rfl
      replace ha := Aside0.mk ha
      have B0 := Aside0.mk Q_B0
      have L0 := Aside0.mk Q_L0
      have Z2 := Aside0.mk Q_Z2
      refine value_ (w1 := w') (v := .pointer (some ⟨b2, 0, none⟩)) (by rfl) rfl ?_ ?_
      · go_simp
        (try simp only [i64_w])
        try rfl
      refine hK.out _ _ ⟨A13, c13, A19, c19, m8_, m39_, (by rw [ha.out]; exact putSel_upk 0 hb_ rfl rfl rfl), Q_B0, Q_L0, Q_Z2, fun h0_ => absurd ((hoff 8 (by kernel_rfl)).symm.trans h0_) (by decide), fun h0_ => absurd ((hoff 39 (by kernel_rfl)).symm.trans h0_) (by decide)⟩
    refine steps_cons ?_ ?_
    · rintro b a w' ⟨A13, c13, A19, c19, m8_, m39_, ha, Q_B0, Q_L0, Q_Z2, Q_X8_, Q_X39_⟩ hb_ hon hoff
      refine ⟨_, rfl, fun K hK => ?_⟩
      have e14 : a.tmps[14]? = some (.pointer (some ⟨b2, 0, none⟩)) := by rw [ha]; exact putSel_on (e := (0, 14, .pointer (some ⟨b2, 0, none⟩))) 0 rfl rfl (hon 0 (by kernel_rfl)) rfl
      replace ha := Aside0.mk ha
      have B0 := Aside0.mk Q_B0
      have L0 := Aside0.mk Q_L0
      have Z2 := Aside0.mk Q_Z2
      have c_ := blk_cell Z2.out 0
      refine value_ (w1 := w') (v := .int .u64 3) (by rfl) rfl ?_ ?_
      · go_simp
        (try simp only [i64_w])
        try rfl
      refine hK.out _ _ ⟨A13, c13, A19, c19, m8_, m39_, (by rw [ha.out]; exact putSel_upk 1 hb_ rfl rfl rfl), Q_B0, Q_L0, Q_Z2, fun h0_ => absurd ((hoff 8 (by kernel_rfl)).symm.trans h0_) (by decide), fun h0_ => absurd ((hoff 39 (by kernel_rfl)).symm.trans h0_) (by decide)⟩
    refine steps_cons ?_ ?_
    · rintro b a w' ⟨A13, c13, A19, c19, m8_, m39_, ha, Q_B0, Q_L0, Q_Z2, Q_X8_, Q_X39_⟩ hb_ hon hoff
      refine ⟨_, rfl, fun K hK => ?_⟩
      have e15 : a.tmps[15]? = some (.int .u64 3) := by rw [ha]; exact putSel_on (e := (1, 15, .int .u64 3)) 1 rfl rfl (hon 1 (by kernel_rfl)) rfl
      replace ha := Aside0.mk ha
      have B0 := Aside0.mk Q_B0
      have L0 := Aside0.mk Q_L0
      have Z2 := Aside0.mk Q_Z2
      refine value_ (w1 := w') (v := .bool true) (by rfl) rfl ?_ ?_
      · go_simp
        (try simp only [i64_w])
        try rfl
      refine hK.out _ _ ⟨A13, c13, A19, c19, m8_, m39_, (by rw [ha.out]; exact putSel_upk 2 hb_ rfl rfl rfl), Q_B0, Q_L0, Q_Z2, fun h0_ => absurd ((hoff 8 (by kernel_rfl)).symm.trans h0_) (by decide), fun h0_ => absurd ((hoff 39 (by kernel_rfl)).symm.trans h0_) (by decide)⟩
    refine steps_cons ?_ ?_
    · rintro b a w' ⟨A13, c13, A19, c19, m8_, m39_, ha, Q_B0, Q_L0, Q_Z2, Q_X8_, Q_X39_⟩ hb_ hon hoff
      refine ⟨_, rfl, fun K hK => ?_⟩
      have e16 : a.tmps[16]? = some (.bool true) := by rw [ha]; exact putSel_on (e := (2, 16, .bool true)) 2 rfl rfl (hon 2 (by kernel_rfl)) rfl
      replace ha := Aside0.mk ha
      have B0 := Aside0.mk Q_B0
      have L0 := Aside0.mk Q_L0
      have Z2 := Aside0.mk Q_Z2
      refine value_ (w1 := w') (v := .bool true) (by rfl) rfl ?_ ?_
      · go_simp
        (try simp only [i64_w])
        try rfl
      refine hK.out _ _ ⟨A13, c13, A19, c19, m8_, m39_, (by rw [ha.out]; exact putSel_upk 3 hb_ rfl rfl rfl), Q_B0, Q_L0, Q_Z2, fun h0_ => absurd ((hoff 8 (by kernel_rfl)).symm.trans h0_) (by decide), fun h0_ => absurd ((hoff 39 (by kernel_rfl)).symm.trans h0_) (by decide)⟩
    refine steps_cons ?_ ?_
    · rintro b a w' ⟨A13, c13, A19, c19, m8_, m39_, ha, Q_B0, Q_L0, Q_Z2, Q_X8_, Q_X39_⟩ hb_ hon hoff
      refine ⟨_, rfl, fun K hK => ?_⟩
      have e3 : a.tmps[3]? = some (.bool true) := by rw [ha]; exact (putSel_off rfl).trans rfl
      have e17 : a.tmps[17]? = some (.bool true) := by rw [ha]; exact putSel_on (e := (3, 17, .bool true)) 3 rfl rfl (hon 3 (by kernel_rfl)) rfl
      replace ha := Aside0.mk ha
      have B0 := Aside0.mk Q_B0
      have L0 := Aside0.mk Q_L0
      have Z2 := Aside0.mk Q_Z2
      refine value_ (w1 := w') (v := .bool true) (wanted_on rfl rfl rfl (e17.trans (by first | rfl | (simp [*]; done)))) rfl ?_ ?_
      · go_simp
        (try simp only [i64_w])
        try rfl
      refine hK.out _ _ ⟨A13, c13, A19, c19, m8_, m39_, (by rw [ha.out]; exact putSel_upk 4 hb_ rfl rfl rfl), Q_B0, Q_L0, Q_Z2, fun h0_ => absurd ((hoff 8 (by kernel_rfl)).symm.trans h0_) (by decide), fun h0_ => absurd ((hoff 39 (by kernel_rfl)).symm.trans h0_) (by decide)⟩
    refine steps_cons ?_ ?_
    · rintro b a w' ⟨A13, c13, A19, c19, m8_, m39_, ha, Q_B0, Q_L0, Q_Z2, Q_X8_, Q_X39_⟩ hb_ hon hoff
      refine ⟨_, rfl, fun K hK => ?_⟩
      have e17 : a.tmps[17]? = some (.bool true) := by rw [ha]; exact putSel_on (e := (3, 17, .bool true)) 3 rfl rfl (hon 3 (by kernel_rfl)) rfl
      have e18 : a.tmps[18]? = some (.bool true) := by rw [ha]; exact putSel_on (e := (4, 18, .bool true)) 4 rfl rfl (hon 4 (by kernel_rfl)) rfl
      replace ha := Aside0.mk ha
      have B0 := Aside0.mk Q_B0
      have L0 := Aside0.mk Q_L0
      have Z2 := Aside0.mk Q_Z2
      refine value_ (w1 := w') (v := .bool true) (by rfl) rfl ?_ ?_
      · go_simp
        (try simp only [i64_w])
        try rfl
      refine hK.out _ _ ⟨A13, c13, A19, c19, m8_, m39_, (by rw [ha.out]; exact putSel_upk 5 hb_ rfl rfl rfl), Q_B0, Q_L0, Q_Z2, fun h0_ => absurd ((hoff 8 (by kernel_rfl)).symm.trans h0_) (by decide), fun h0_ => absurd ((hoff 39 (by kernel_rfl)).symm.trans h0_) (by decide)⟩
    refine steps_cons ?_ ?_
    · rintro b a w' ⟨A13, c13, A19, c19, m8_, m39_, ha, Q_B0, Q_L0, Q_Z2, Q_X8_, Q_X39_⟩ hb_ hon hoff
      refine ⟨_, rfl, fun K hK => ?_⟩
      have e19 : a.tmps[19]? = some (.bool true) := by rw [ha]; exact putSel_on (e := (5, 19, .bool true)) 5 rfl rfl (hon 5 (by kernel_rfl)) rfl
      replace ha := Aside0.mk ha
      have B0 := Aside0.mk Q_B0
      have L0 := Aside0.mk Q_L0
      have Z2 := Aside0.mk Q_Z2
      refine value_ (w1 := w') (v := .bool true) (by rfl) rfl ?_ ?_
      · go_simp
        (try simp only [i64_w])
        try rfl
      refine hK.out _ _ ⟨A13, c13, A19, c19, m8_, m39_, (by rw [ha.out]; exact putSel_upk 6 hb_ rfl rfl rfl), Q_B0, Q_L0, Q_Z2, fun h0_ => absurd ((hoff 8 (by kernel_rfl)).symm.trans h0_) (by decide), fun h0_ => absurd ((hoff 39 (by kernel_rfl)).symm.trans h0_) (by decide)⟩
    refine steps_cons ?_ ?_
    · rintro b a w' ⟨A13, c13, A19, c19, m8_, m39_, ha, Q_B0, Q_L0, Q_Z2, Q_X8_, Q_X39_⟩ hb_ hon hoff
      refine ⟨_, rfl, fun K hK => ?_⟩
      have e1 : a.tmps[1]? = some (.slice (some ⟨w.heap.size, 0, none⟩) 4 4) := by rw [ha]; exact (putSel_off rfl).trans rfl
      have e20 : a.tmps[20]? = some (.bool true) := by rw [ha]; exact putSel_on (e := (6, 20, .bool true)) 6 rfl rfl (hon 6 (by kernel_rfl)) rfl
      replace ha := Aside0.mk ha
      have B0 := Aside0.mk Q_B0
      have L0 := Aside0.mk Q_L0
      have Z2 := Aside0.mk Q_Z2
      refine value_ (w1 := w') (v := .slice (some ⟨w.heap.size, 0, none⟩) 4 4) (wanted_on rfl rfl rfl (e20.trans (by first | rfl | (simp [*]; done)))) rfl ?_ ?_
      · go_simp
        (try simp only [i64_w])
        try rfl
      refine hK.out _ _ ⟨A13, c13, A19, c19, m8_, m39_, (by rw [ha.out]; exact putSel_upk 7 hb_ rfl rfl rfl), Q_B0, Q_L0, Q_Z2, fun h0_ => absurd ((hoff 8 (by kernel_rfl)).symm.trans h0_) (by decide), fun h0_ => absurd ((hoff 39 (by kernel_rfl)).symm.trans h0_) (by decide)⟩
    refine steps_cons ?_ ?_
    · rintro b a w' ⟨A13, c13, A19, c19, m8_, m39_, ha, Q_B0, Q_L0, Q_Z2, Q_X8_, Q_X39_⟩ hb_ hon hoff
      refine ⟨_, rfl, fun K hK => ?_⟩
      have e21 : a.tmps[21]? = some (.slice (some ⟨w.heap.size, 0, none⟩) 4 4) := by rw [ha]; exact putSel_on (e := (7, 21, .slice (some ⟨w.heap.size, 0, none⟩) 4 4)) 7 rfl rfl (hon 7 (by kernel_rfl)) rfl
      have e20 : a.tmps[20]? = some (.bool true) := by rw [ha]; exact putSel_on (e := (6, 20, .bool true)) 6 rfl rfl (hon 6 (by kernel_rfl)) rfl
      replace ha := Aside0.mk ha
      have B0 := Aside0.mk Q_B0
      have L0 := Aside0.mk Q_L0
      have Z2 := Aside0.mk Q_Z2
      refine goes_ Try.func13 (by kernel_rfl) rfl #[.slice (some ⟨w.heap.size, 0, none⟩) 4 4] (wanted_on rfl rfl rfl (e20.trans rfl)) rfl rfl (by first | (simp only [List.map_toArray, List.map_cons, List.map_nil, Act.eval, Array.getD_eq_getD_getElem?, Option.getD_some, e21, e20]; done) | (simp only [List.map_toArray, List.map_cons, List.map_nil, Act.eval, Array.getD_eq_getD_getElem?, Option.getD_some, e21, e20]; rfl)) ?_
      with_reducible refine (HORD.out _ L0.out).mono ?_
      rintro e w2 ⟨A_, c_, rfl, hb⟩
      refine ⟨_, rfl, ?_⟩
      refine hK.out _ _ ⟨A_, c_, A19, c19, (.slice A_ 3 c_), m39_, (by rw [ha.out]; exact putSel_upk 8 hb_ rfl rfl rfl), below_then B0.out B0.out.size hb, L0.out.below hb, blk_below Z2.out hb, fun _ => rfl, fun h0_ => absurd ((hoff 39 (by kernel_rfl)).symm.trans h0_) (by decide)⟩
    refine steps_cons ?_ ?_
    · rintro b a w' ⟨A13, c13, A19, c19, m8_, m39_, ha, Q_B0, Q_L0, Q_Z2, Q_X8_, Q_X39_⟩ hb_ hon hoff
      refine ⟨_, rfl, fun K hK => ?_⟩
      have e22 : a.tmps[22]? = some (m8_) := by rw [ha]; exact putSel_on (e := (8, 22, m8_)) 8 rfl rfl (hon 8 (by kernel_rfl)) rfl
      rw [Q_X8_ (hon 8 (by kernel_rfl))] at e22
      have e20 : a.tmps[20]? = some (.bool true) := by rw [ha]; exact putSel_on (e := (6, 20, .bool true)) 6 rfl rfl (hon 6 (by kernel_rfl)) rfl
      replace ha := Aside0.mk ha
      have B0 := Aside0.mk Q_B0
      have L0 := Aside0.mk Q_L0
      have Z2 := Aside0.mk Q_Z2
      refine value_ (w1 := w') (v := .int .i64 3) (wanted_on rfl rfl rfl (e20.trans (by first | rfl | (simp [*]; done)))) rfl ?_ ?_
      · go_simp
        (try simp only [i64_w])
        try rfl
      refine hK.out _ _ ⟨A13, c13, A19, c19, m8_, m39_, (by rw [ha.out]; exact putSel_upk 9 hb_ rfl rfl rfl), Q_B0, Q_L0, Q_Z2, Q_X8_, fun h0_ => absurd ((hoff 39 (by kernel_rfl)).symm.trans h0_) (by decide)⟩
    refine steps_cons ?_ ?_
    · rintro b a w' ⟨A13, c13, A19, c19, m8_, m39_, ha, Q_B0, Q_L0, Q_Z2, Q_X8_, Q_X39_⟩ hb_ hon hoff
      refine ⟨_, rfl, fun K hK => ?_⟩
      have e23 : a.tmps[23]? = some (.int .i64 3) := by rw [ha]; exact putSel_on (e := (9, 23, .int .i64 3)) 9 rfl rfl (hon 9 (by kernel_rfl)) rfl
      have e20 : a.tmps[20]? = some (.bool true) := by rw [ha]; exact putSel_on (e := (6, 20, .bool true)) 6 rfl rfl (hon 6 (by kernel_rfl)) rfl
      replace ha := Aside0.mk ha
      have B0 := Aside0.mk Q_B0
      have L0 := Aside0.mk Q_L0
      have Z2 := Aside0.mk Q_Z2
      refine value_ (w1 := w') (v := .bool true) (wanted_on rfl rfl rfl (e20.trans (by first | rfl | (simp [*]; done)))) rfl ?_ ?_
      · go_simp
        (try simp only [i64_w])
        try rfl
      refine hK.out _ _ ⟨A13, c13, A19, c19, m8_, m39_, (by rw [ha.out]; exact putSel_upk 10 hb_ rfl rfl rfl), Q_B0, Q_L0, Q_Z2, Q_X8_, fun h0_ => absurd ((hoff 39 (by kernel_rfl)).symm.trans h0_) (by decide)⟩
    refine steps_cons ?_ ?_
    · rintro b a w' ⟨A13, c13, A19, c19, m8_, m39_, ha, Q_B0, Q_L0, Q_Z2, Q_X8_, Q_X39_⟩ hb_ hon hoff
      refine ⟨_, rfl, fun K hK => ?_⟩
      have e20 : a.tmps[20]? = some (.bool true) := by rw [ha]; exact putSel_on (e := (6, 20, .bool true)) 6 rfl rfl (hon 6 (by kernel_rfl)) rfl
      have e24 : a.tmps[24]? = some (.bool true) := by rw [ha]; exact putSel_on (e := (10, 24, .bool true)) 10 rfl rfl (hon 10 (by kernel_rfl)) rfl
      replace ha := Aside0.mk ha
      have B0 := Aside0.mk Q_B0
      have L0 := Aside0.mk Q_L0
      have Z2 := Aside0.mk Q_Z2
      refine value_ (w1 := w') (v := .bool true) (by rfl) rfl ?_ ?_
      · go_simp
        (try simp only [i64_w])
        try rfl
      refine hK.out _ _ ⟨A13, c13, A19, c19, m8_, m39_, (by rw [ha.out]; exact putSel_upk 11 hb_ rfl rfl rfl), Q_B0, Q_L0, Q_Z2, Q_X8_, fun h0_ => absurd ((hoff 39 (by kernel_rfl)).symm.trans h0_) (by decide)⟩
    refine steps_cons ?_ ?_
    · rintro b a w' ⟨A13, c13, A19, c19, m8_, m39_, ha, Q_B0, Q_L0, Q_Z2, Q_X8_, Q_X39_⟩ hb_ hon hoff
      refine ⟨_, rfl, fun K hK => ?_⟩
      have e25 : a.tmps[25]? = some (.bool true) := by rw [ha]; exact putSel_on (e := (11, 25, .bool true)) 11 rfl rfl (hon 11 (by kernel_rfl)) rfl
      replace ha := Aside0.mk ha
      have B0 := Aside0.mk Q_B0
      have L0 := Aside0.mk Q_L0
      have Z2 := Aside0.mk Q_Z2
      refine value_ (w1 := w') (v := .bool true) (by rfl) rfl ?_ ?_
      · go_simp
        (try simp only [i64_w])
        try rfl
      refine hK.out _ _ ⟨A13, c13, A19, c19, m8_, m39_, (by rw [ha.out]; exact putSel_upk 12 hb_ rfl rfl rfl), Q_B0, Q_L0, Q_Z2, Q_X8_, fun h0_ => absurd ((hoff 39 (by kernel_rfl)).symm.trans h0_) (by decide)⟩
    refine steps_cons ?_ ?_
    · rintro b a w' ⟨A13, c13, A19, c19, m8_, m39_, ha, Q_B0, Q_L0, Q_Z2, Q_X8_, Q_X39_⟩ hb_ hon hoff
      refine ⟨_, rfl, fun K hK => ?_⟩
      have e1 : a.tmps[1]? = some (.slice (some ⟨w.heap.size, 0, none⟩) 4 4) := by rw [ha]; exact (putSel_off rfl).trans rfl
      have e26 : a.tmps[26]? = some (.bool true) := by rw [ha]; exact putSel_on (e := (12, 26, .bool true)) 12 rfl rfl (hon 12 (by kernel_rfl)) rfl
      replace ha := Aside0.mk ha
      have B0 := Aside0.mk Q_B0
      have L0 := Aside0.mk Q_L0
      have Z2 := Aside0.mk Q_Z2
      refine value_ (w1 := w') (v := .slice (some ⟨w.heap.size, 0, none⟩) 4 4) (wanted_on rfl rfl rfl (e26.trans (by first | rfl | (simp [*]; done)))) rfl ?_ ?_
      · go_simp
        (try simp only [i64_w])
        try rfl
      refine hK.out _ _ ⟨A13, c13, A19, c19, m8_, m39_, (by rw [ha.out]; exact putSel_upk 13 hb_ rfl rfl rfl), Q_B0, Q_L0, Q_Z2, Q_X8_, fun h0_ => absurd ((hoff 39 (by kernel_rfl)).symm.trans h0_) (by decide)⟩
    refine steps_cons ?_ ?_
    · rintro b a w' ⟨A13, c13, A19, c19, m8_, m39_, ha, Q_B0, Q_L0, Q_Z2, Q_X8_, Q_X39_⟩ hb_ hon hoff
      refine ⟨_, rfl, fun K hK => ?_⟩
      have e27 : a.tmps[27]? = some (.slice (some ⟨w.heap.size, 0, none⟩) 4 4) := by rw [ha]; exact putSel_on (e := (13, 27, .slice (some ⟨w.heap.size, 0, none⟩) 4 4)) 13 rfl rfl (hon 13 (by kernel_rfl)) rfl
      have e26 : a.tmps[26]? = some (.bool true) := by rw [ha]; exact putSel_on (e := (12, 26, .bool true)) 12 rfl rfl (hon 12 (by kernel_rfl)) rfl
      replace ha := Aside0.mk ha
      have B0 := Aside0.mk Q_B0
      have L0 := Aside0.mk Q_L0
      have Z2 := Aside0.mk Q_Z2
      refine goes_ Try.func20 (by kernel_rfl) rfl #[.slice (some ⟨w.heap.size, 0, none⟩) 4 4] (wanted_on rfl rfl rfl (e26.trans rfl)) rfl rfl (by first | (simp only [List.map_toArray, List.map_cons, List.map_nil, Act.eval, Array.getD_eq_getD_getElem?, Option.getD_some, e27, e26]; done) | (simp only [List.map_toArray, List.map_cons, List.map_nil, Act.eval, Array.getD_eq_getD_getElem?, Option.getD_some, e27, e26]; rfl)) ?_
      with_reducible refine (HWAI.out _ L0.out).mono ?_
      rintro e w2 ⟨rfl, hb⟩
      refine ⟨_, rfl, ?_⟩
      refine hK.out _ _ ⟨A13, c13, A19, c19, m8_, m39_, (by rw [ha.out]; exact putSel_upk 14 hb_ rfl rfl rfl), below_then B0.out B0.out.size hb, L0.out.below hb, blk_below Z2.out hb, Q_X8_, fun h0_ => absurd ((hoff 39 (by kernel_rfl)).symm.trans h0_) (by decide)⟩
    refine steps_cons ?_ ?_
    · rintro b a w' ⟨A13, c13, A19, c19, m8_, m39_, ha, Q_B0, Q_L0, Q_Z2, Q_X8_, Q_X39_⟩ hb_ hon hoff
      refine ⟨_, rfl, fun K hK => ?_⟩
      have e26 : a.tmps[26]? = some (.bool true) := by rw [ha]; exact putSel_on (e := (12, 26, .bool true)) 12 rfl rfl (hon 12 (by kernel_rfl)) rfl
      replace ha := Aside0.mk ha
      have B0 := Aside0.mk Q_B0
      have L0 := Aside0.mk Q_L0
      have Z2 := Aside0.mk Q_Z2
      refine value_ (w1 := w') (v := .agg #[.int .i64 1, .int .i64 0, .int .i64 2]) (wanted_on rfl rfl rfl (e26.trans (by first | rfl | (simp [*]; done)))) rfl ?_ ?_
      · go_simp
        (try simp only [i64_w])
        try rfl
      refine hK.out _ _ ⟨A13, c13, A19, c19, m8_, m39_, (by rw [ha.out]; exact putSel_upk 15 hb_ rfl rfl rfl), Q_B0, Q_L0, Q_Z2, Q_X8_, fun h0_ => absurd ((hoff 39 (by kernel_rfl)).symm.trans h0_) (by decide)⟩
    refine steps_cons ?_ ?_
    · rintro b a w' ⟨A13, c13, A19, c19, m8_, m39_, ha, Q_B0, Q_L0, Q_Z2, Q_X8_, Q_X39_⟩ hb_ hon hoff
      refine ⟨_, rfl, fun K hK => ?_⟩
      have e28 : a.tmps[28]? = some (.agg #[.int .i64 1, .int .i64 0, .int .i64 2]) := by rw [ha]; exact putSel_on (e := (14, 28, .agg #[.int .i64 1, .int .i64 0, .int .i64 2])) 14 rfl rfl (hon 14 (by kernel_rfl)) rfl
      have e29 : a.tmps[29]? = some (.agg #[.int .i64 1, .int .i64 0, .int .i64 2]) := by rw [ha]; exact putSel_on (e := (15, 29, .agg #[.int .i64 1, .int .i64 0, .int .i64 2])) 15 rfl rfl (hon 15 (by kernel_rfl)) rfl
      have e26 : a.tmps[26]? = some (.bool true) := by rw [ha]; exact putSel_on (e := (12, 26, .bool true)) 12 rfl rfl (hon 12 (by kernel_rfl)) rfl
      replace ha := Aside0.mk ha
      have B0 := Aside0.mk Q_B0
      have L0 := Aside0.mk Q_L0
      have Z2 := Aside0.mk Q_Z2
      refine value_ (w1 := w') (v := .bool true) (wanted_on rfl rfl rfl (e26.trans (by first | rfl | (simp [*]; done)))) rfl ?_ ?_
      · go_simp
        (try simp only [i64_w])
        try rfl
      refine hK.out _ _ ⟨A13, c13, A19, c19, m8_, m39_, (by rw [ha.out]; exact putSel_upk 16 hb_ rfl rfl rfl), Q_B0, Q_L0, Q_Z2, Q_X8_, fun h0_ => absurd ((hoff 39 (by kernel_rfl)).symm.trans h0_) (by decide)⟩
    refine steps_cons ?_ ?_
    · rintro b a w' ⟨A13, c13, A19, c19, m8_, m39_, ha, Q_B0, Q_L0, Q_Z2, Q_X8_, Q_X39_⟩ hb_ hon hoff
      refine ⟨_, rfl, fun K hK => ?_⟩
      have e26 : a.tmps[26]? = some (.bool true) := by rw [ha]; exact putSel_on (e := (12, 26, .bool true)) 12 rfl rfl (hon 12 (by kernel_rfl)) rfl
      have e30 : a.tmps[30]? = some (.bool true) := by rw [ha]; exact putSel_on (e := (16, 30, .bool true)) 16 rfl rfl (hon 16 (by kernel_rfl)) rfl
      replace ha := Aside0.mk ha
      have B0 := Aside0.mk Q_B0
      have L0 := Aside0.mk Q_L0
      have Z2 := Aside0.mk Q_Z2
      refine value_ (w1 := w') (v := .bool true) (by rfl) rfl ?_ ?_
      · go_simp
        (try simp only [i64_w])
        try rfl
      refine hK.out _ _ ⟨A13, c13, A19, c19, m8_, m39_, (by rw [ha.out]; exact putSel_upk 17 hb_ rfl rfl rfl), Q_B0, Q_L0, Q_Z2, Q_X8_, fun h0_ => absurd ((hoff 39 (by kernel_rfl)).symm.trans h0_) (by decide)⟩
    refine steps_cons ?_ ?_
    · rintro b a w' ⟨A13, c13, A19, c19, m8_, m39_, ha, Q_B0, Q_L0, Q_Z2, Q_X8_, Q_X39_⟩ hb_ hon hoff
      refine ⟨_, rfl, fun K hK => ?_⟩
      have e31 : a.tmps[31]? = some (.bool true) := by rw [ha]; exact putSel_on (e := (17, 31, .bool true)) 17 rfl rfl (hon 17 (by kernel_rfl)) rfl
      replace ha := Aside0.mk ha
      have B0 := Aside0.mk Q_B0
      have L0 := Aside0.mk Q_L0
      have Z2 := Aside0.mk Q_Z2
      refine value_ (w1 := w') (v := .bool true) (by rfl) rfl ?_ ?_
      · go_simp
        (try simp only [i64_w])
        try rfl
      refine hK.out _ _ ⟨A13, c13, A19, c19, m8_, m39_, (by rw [ha.out]; exact putSel_upk 18 hb_ rfl rfl rfl), Q_B0, Q_L0, Q_Z2, Q_X8_, fun h0_ => absurd ((hoff 39 (by kernel_rfl)).symm.trans h0_) (by decide)⟩
    refine steps_cons ?_ ?_
    · rintro b a w' ⟨A13, c13, A19, c19, m8_, m39_, ha, Q_B0, Q_L0, Q_Z2, Q_X8_, Q_X39_⟩ hb_ hon hoff
      refine ⟨_, rfl, fun K hK => ?_⟩
      have e1 : a.tmps[1]? = some (.slice (some ⟨w.heap.size, 0, none⟩) 4 4) := by rw [ha]; exact (putSel_off rfl).trans rfl
      have e32 : a.tmps[32]? = some (.bool true) := by rw [ha]; exact putSel_on (e := (18, 32, .bool true)) 18 rfl rfl (hon 18 (by kernel_rfl)) rfl
      replace ha := Aside0.mk ha
      have B0 := Aside0.mk Q_B0
      have L0 := Aside0.mk Q_L0
      have Z2 := Aside0.mk Q_Z2
      refine value_ (w1 := w') (v := .slice (some ⟨w.heap.size, 0, none⟩) 4 4) (wanted_on rfl rfl rfl (e32.trans (by first | rfl | (simp [*]; done)))) rfl ?_ ?_
      · go_simp
        (try simp only [i64_w])
        try rfl
      refine hK.out _ _ ⟨A13, c13, A19, c19, m8_, m39_, (by rw [ha.out]; exact putSel_upk 19 hb_ rfl rfl rfl), Q_B0, Q_L0, Q_Z2, Q_X8_, fun h0_ => absurd ((hoff 39 (by kernel_rfl)).symm.trans h0_) (by decide)⟩
    refine steps_cons ?_ ?_
    · rintro b a w' ⟨A13, c13, A19, c19, m8_, m39_, ha, Q_B0, Q_L0, Q_Z2, Q_X8_, Q_X39_⟩ hb_ hon hoff
      refine ⟨_, rfl, fun K hK => ?_⟩
      have e33 : a.tmps[33]? = some (.slice (some ⟨w.heap.size, 0, none⟩) 4 4) := by rw [ha]; exact putSel_on (e := (19, 33, .slice (some ⟨w.heap.size, 0, none⟩) 4 4)) 19 rfl rfl (hon 19 (by kernel_rfl)) rfl
      have e32 : a.tmps[32]? = some (.bool true) := by rw [ha]; exact putSel_on (e := (18, 32, .bool true)) 18 rfl rfl (hon 18 (by kernel_rfl)) rfl
      replace ha := Aside0.mk ha
      have B0 := Aside0.mk Q_B0
      have L0 := Aside0.mk Q_L0
      have Z2 := Aside0.mk Q_Z2
      refine value_ (w1 := w') (v := .pointer (some ⟨w.heap.size, 8, none⟩)) (wanted_on rfl rfl rfl (e32.trans (by first | rfl | (simp [*]; done)))) rfl ?_ ?_
      · go_simp
        (try simp only [i64_w])
        try rfl
      refine hK.out _ _ ⟨A13, c13, A19, c19, m8_, m39_, (by rw [ha.out]; exact putSel_upk 20 hb_ rfl rfl rfl), Q_B0, Q_L0, Q_Z2, Q_X8_, fun h0_ => absurd ((hoff 39 (by kernel_rfl)).symm.trans h0_) (by decide)⟩
    refine steps_cons ?_ ?_
    · rintro b a w' ⟨A13, c13, A19, c19, m8_, m39_, ha, Q_B0, Q_L0, Q_Z2, Q_X8_, Q_X39_⟩ hb_ hon hoff
      refine ⟨_, rfl, fun K hK => ?_⟩
      have e34 : a.tmps[34]? = some (.pointer (some ⟨w.heap.size, 8, none⟩)) := by rw [ha]; exact putSel_on (e := (20, 34, .pointer (some ⟨w.heap.size, 8, none⟩))) 20 rfl rfl (hon 20 (by kernel_rfl)) rfl
      have e32 : a.tmps[32]? = some (.bool true) := by rw [ha]; exact putSel_on (e := (18, 32, .bool true)) 18 rfl rfl (hon 18 (by kernel_rfl)) rfl
      replace ha := Aside0.mk ha
      have B0 := Aside0.mk Q_B0
      have L0 := Aside0.mk Q_L0
      have Z2 := Aside0.mk Q_Z2
      have c0_ := blk_cell L0.out 8
      have c1_ := blk_cell L0.out 9
      have c2_ := blk_cell L0.out 10
      have c3_ := blk_cell L0.out 11
      have c4_ := blk_cell L0.out 12
      have c5_ := blk_cell L0.out 13
      have c6_ := blk_cell L0.out 14
      have c7_ := blk_cell L0.out 15
      refine value_ (w1 := w') (v := .agg #[.int .u64 5, .int .u64 0, .int .i64 2, .int .i64 0, .int .u64 0, .bool false, .int .i64 0, .slice none 0 0]) (wanted_on rfl rfl rfl (e32.trans (by first | rfl | (simp [*]; done)))) rfl ?_ ?_
      · go_simp
        (try simp only [i64_w])
        try rfl
      refine hK.out _ _ ⟨A13, c13, A19, c19, m8_, m39_, (by rw [ha.out]; exact putSel_upk 21 hb_ rfl rfl rfl), Q_B0, Q_L0, Q_Z2, Q_X8_, fun h0_ => absurd ((hoff 39 (by kernel_rfl)).symm.trans h0_) (by decide)⟩
    refine steps_cons ?_ ?_
    · rintro b a w' ⟨A13, c13, A19, c19, m8_, m39_, ha, Q_B0, Q_L0, Q_Z2, Q_X8_, Q_X39_⟩ hb_ hon hoff
      refine ⟨_, rfl, fun K hK => ?_⟩
      have e1 : a.tmps[1]? = some (.slice (some ⟨w.heap.size, 0, none⟩) 4 4) := by rw [ha]; exact (putSel_off rfl).trans rfl
      have e32 : a.tmps[32]? = some (.bool true) := by rw [ha]; exact putSel_on (e := (18, 32, .bool true)) 18 rfl rfl (hon 18 (by kernel_rfl)) rfl
      replace ha := Aside0.mk ha
      have B0 := Aside0.mk Q_B0
      have L0 := Aside0.mk Q_L0
      have Z2 := Aside0.mk Q_Z2
      refine value_ (w1 := w') (v := .slice (some ⟨w.heap.size, 0, none⟩) 4 4) (wanted_on rfl rfl rfl (e32.trans (by first | rfl | (simp [*]; done)))) rfl ?_ ?_
      · go_simp
        (try simp only [i64_w])
        try rfl
      refine hK.out _ _ ⟨A13, c13, A19, c19, m8_, m39_, (by rw [ha.out]; exact putSel_upk 22 hb_ rfl rfl rfl), Q_B0, Q_L0, Q_Z2, Q_X8_, fun h0_ => absurd ((hoff 39 (by kernel_rfl)).symm.trans h0_) (by decide)⟩
    refine steps_cons ?_ ?_
    · rintro b a w' ⟨A13, c13, A19, c19, m8_, m39_, ha, Q_B0, Q_L0, Q_Z2, Q_X8_, Q_X39_⟩ hb_ hon hoff
      refine ⟨_, rfl, fun K hK => ?_⟩
      have e36 : a.tmps[36]? = some (.slice (some ⟨w.heap.size, 0, none⟩) 4 4) := by rw [ha]; exact putSel_on (e := (22, 36, .slice (some ⟨w.heap.size, 0, none⟩) 4 4)) 22 rfl rfl (hon 22 (by kernel_rfl)) rfl
      have e32 : a.tmps[32]? = some (.bool true) := by rw [ha]; exact putSel_on (e := (18, 32, .bool true)) 18 rfl rfl (hon 18 (by kernel_rfl)) rfl
      replace ha := Aside0.mk ha
      have B0 := Aside0.mk Q_B0
      have L0 := Aside0.mk Q_L0
      have Z2 := Aside0.mk Q_Z2
      refine value_ (w1 := w') (v := .pointer (some ⟨w.heap.size, 0, none⟩)) (wanted_on rfl rfl rfl (e32.trans (by first | rfl | (simp [*]; done)))) rfl ?_ ?_
      · go_simp
        (try simp only [i64_w])
        try rfl
      refine hK.out _ _ ⟨A13, c13, A19, c19, m8_, m39_, (by rw [ha.out]; exact putSel_upk 23 hb_ rfl rfl rfl), Q_B0, Q_L0, Q_Z2, Q_X8_, fun h0_ => absurd ((hoff 39 (by kernel_rfl)).symm.trans h0_) (by decide)⟩
    refine steps_cons ?_ ?_
    · rintro b a w' ⟨A13, c13, A19, c19, m8_, m39_, ha, Q_B0, Q_L0, Q_Z2, Q_X8_, Q_X39_⟩ hb_ hon hoff
      refine ⟨_, rfl, fun K hK => ?_⟩
      have e37 : a.tmps[37]? = some (.pointer (some ⟨w.heap.size, 0, none⟩)) := by rw [ha]; exact putSel_on (e := (23, 37, .pointer (some ⟨w.heap.size, 0, none⟩))) 23 rfl rfl (hon 23 (by kernel_rfl)) rfl
      have e32 : a.tmps[32]? = some (.bool true) := by rw [ha]; exact putSel_on (e := (18, 32, .bool true)) 18 rfl rfl (hon 18 (by kernel_rfl)) rfl
      replace ha := Aside0.mk ha
      have B0 := Aside0.mk Q_B0
      have L0 := Aside0.mk Q_L0
      have Z2 := Aside0.mk Q_Z2
      have c0_ := blk_cell L0.out 0
      have c1_ := blk_cell L0.out 1
      have c2_ := blk_cell L0.out 2
      have c3_ := blk_cell L0.out 3
      have c4_ := blk_cell L0.out 4
      have c5_ := blk_cell L0.out 5
      have c6_ := blk_cell L0.out 6
      have c7_ := blk_cell L0.out 7
      refine value_ (w1 := w') (v := .agg #[.int .u64 1, .int .u64 0, .int .i64 0, .int .i64 0, .int .u64 0, .bool false, .int .i64 0, .slice none 0 0]) (wanted_on rfl rfl rfl (e32.trans (by first | rfl | (simp [*]; done)))) rfl ?_ ?_
      · go_simp
        (try simp only [i64_w])
        try rfl
      refine hK.out _ _ ⟨A13, c13, A19, c19, m8_, m39_, (by rw [ha.out]; exact putSel_upk 24 hb_ rfl rfl rfl), Q_B0, Q_L0, Q_Z2, Q_X8_, fun h0_ => absurd ((hoff 39 (by kernel_rfl)).symm.trans h0_) (by decide)⟩
    refine steps_cons ?_ ?_
    · rintro b a w' ⟨A13, c13, A19, c19, m8_, m39_, ha, Q_B0, Q_L0, Q_Z2, Q_X8_, Q_X39_⟩ hb_ hon hoff
      refine ⟨_, rfl, fun K hK => ?_⟩
      have e35 : a.tmps[35]? = some (.agg #[.int .u64 5, .int .u64 0, .int .i64 2, .int .i64 0, .int .u64 0, .bool false, .int .i64 0, .slice none 0 0]) := by rw [ha]; exact putSel_on (e := (21, 35, .agg #[.int .u64 5, .int .u64 0, .int .i64 2, .int .i64 0, .int .u64 0, .bool false, .int .i64 0, .slice none 0 0])) 21 rfl rfl (hon 21 (by kernel_rfl)) rfl
      have e38 : a.tmps[38]? = some (.agg #[.int .u64 1, .int .u64 0, .int .i64 0, .int .i64 0, .int .u64 0, .bool false, .int .i64 0, .slice none 0 0]) := by rw [ha]; exact putSel_on (e := (24, 38, .agg #[.int .u64 1, .int .u64 0, .int .i64 0, .int .i64 0, .int .u64 0, .bool false, .int .i64 0, .slice none 0 0])) 24 rfl rfl (hon 24 (by kernel_rfl)) rfl
      have e32 : a.tmps[32]? = some (.bool true) := by rw [ha]; exact putSel_on (e := (18, 32, .bool true)) 18 rfl rfl (hon 18 (by kernel_rfl)) rfl
      replace ha := Aside0.mk ha
      have B0 := Aside0.mk Q_B0
      have L0 := Aside0.mk Q_L0
      have Z2 := Aside0.mk Q_Z2
      refine goes_ Try.func18 (by kernel_rfl) rfl #[.agg #[.int .u64 5, .int .u64 0, .int .i64 2, .int .i64 0, .int .u64 0, .bool false, .int .i64 0, .slice none 0 0], .agg #[.int .u64 1, .int .u64 0, .int .i64 0, .int .i64 0, .int .u64 0, .bool false, .int .i64 0, .slice none 0 0]] (wanted_on rfl rfl rfl (e32.trans rfl)) rfl rfl (by first | (simp only [List.map_toArray, List.map_cons, List.map_nil, Act.eval, Array.getD_eq_getD_getElem?, Option.getD_some, e35, e38, e32]; done) | (simp only [List.map_toArray, List.map_cons, List.map_nil, Act.eval, Array.getD_eq_getD_getElem?, Option.getD_some, e35, e38, e32]; rfl)) ?_
      with_reducible refine (HAH1.out _).mono ?_
      rintro e w2 ⟨rfl, hb⟩
      refine ⟨_, rfl, ?_⟩
      refine hK.out _ _ ⟨A13, c13, A19, c19, m8_, m39_, (by rw [ha.out]; exact putSel_upk 25 hb_ rfl rfl rfl), below_then B0.out B0.out.size hb, L0.out.below hb, blk_below Z2.out hb, Q_X8_, fun h0_ => absurd ((hoff 39 (by kernel_rfl)).symm.trans h0_) (by decide)⟩
    refine steps_cons ?_ ?_
    · rintro b a w' ⟨A13, c13, A19, c19, m8_, m39_, ha, Q_B0, Q_L0, Q_Z2, Q_X8_, Q_X39_⟩ hb_ hon hoff
      refine ⟨_, rfl, fun K hK => ?_⟩
      have e32 : a.tmps[32]? = some (.bool true) := by rw [ha]; exact putSel_on (e := (18, 32, .bool true)) 18 rfl rfl (hon 18 (by kernel_rfl)) rfl
      have e39 : a.tmps[39]? = some (.bool true) := by rw [ha]; exact putSel_on (e := (25, 39, .bool true)) 25 rfl rfl (hon 25 (by kernel_rfl)) rfl
      replace ha := Aside0.mk ha
      have B0 := Aside0.mk Q_B0
      have L0 := Aside0.mk Q_L0
      have Z2 := Aside0.mk Q_Z2
      refine value_ (w1 := w') (v := .bool true) (by rfl) rfl ?_ ?_
      · go_simp
        (try simp only [i64_w])
        try rfl
      refine hK.out _ _ ⟨A13, c13, A19, c19, m8_, m39_, (by rw [ha.out]; exact putSel_upk 26 hb_ rfl rfl rfl), Q_B0, Q_L0, Q_Z2, Q_X8_, fun h0_ => absurd ((hoff 39 (by kernel_rfl)).symm.trans h0_) (by decide)⟩
    refine steps_cons ?_ ?_
    · rintro b a w' ⟨A13, c13, A19, c19, m8_, m39_, ha, Q_B0, Q_L0, Q_Z2, Q_X8_, Q_X39_⟩ hb_ hon hoff
      refine ⟨_, rfl, fun K hK => ?_⟩
      have e40 : a.tmps[40]? = some (.bool true) := by rw [ha]; exact putSel_on (e := (26, 40, .bool true)) 26 rfl rfl (hon 26 (by kernel_rfl)) rfl
      replace ha := Aside0.mk ha
      have B0 := Aside0.mk Q_B0
      have L0 := Aside0.mk Q_L0
      have Z2 := Aside0.mk Q_Z2
      refine value_ (w1 := w') (v := .bool true) (by rfl) rfl ?_ ?_
      · go_simp
        (try simp only [i64_w])
        try rfl
      refine hK.out _ _ ⟨A13, c13, A19, c19, m8_, m39_, (by rw [ha.out]; exact putSel_upk 27 hb_ rfl rfl rfl), Q_B0, Q_L0, Q_Z2, Q_X8_, fun h0_ => absurd ((hoff 39 (by kernel_rfl)).symm.trans h0_) (by decide)⟩
    refine steps_cons ?_ ?_
    · rintro b a w' ⟨A13, c13, A19, c19, m8_, m39_, ha, Q_B0, Q_L0, Q_Z2, Q_X8_, Q_X39_⟩ hb_ hon hoff
      refine ⟨_, rfl, fun K hK => ?_⟩
      have e1 : a.tmps[1]? = some (.slice (some ⟨w.heap.size, 0, none⟩) 4 4) := by rw [ha]; exact (putSel_off rfl).trans rfl
      have e41 : a.tmps[41]? = some (.bool true) := by rw [ha]; exact putSel_on (e := (27, 41, .bool true)) 27 rfl rfl (hon 27 (by kernel_rfl)) rfl
      replace ha := Aside0.mk ha
      have B0 := Aside0.mk Q_B0
      have L0 := Aside0.mk Q_L0
      have Z2 := Aside0.mk Q_Z2
      refine value_ (w1 := w') (v := .slice (some ⟨w.heap.size, 0, none⟩) 4 4) (wanted_on rfl rfl rfl (e41.trans (by first | rfl | (simp [*]; done)))) rfl ?_ ?_
      · go_simp
        (try simp only [i64_w])
        try rfl
      refine hK.out _ _ ⟨A13, c13, A19, c19, m8_, m39_, (by rw [ha.out]; exact putSel_upk 28 hb_ rfl rfl rfl), Q_B0, Q_L0, Q_Z2, Q_X8_, fun h0_ => absurd ((hoff 39 (by kernel_rfl)).symm.trans h0_) (by decide)⟩
    refine steps_cons ?_ ?_
    · rintro b a w' ⟨A13, c13, A19, c19, m8_, m39_, ha, Q_B0, Q_L0, Q_Z2, Q_X8_, Q_X39_⟩ hb_ hon hoff
      refine ⟨_, rfl, fun K hK => ?_⟩
      have e42 : a.tmps[42]? = some (.slice (some ⟨w.heap.size, 0, none⟩) 4 4) := by rw [ha]; exact putSel_on (e := (28, 42, .slice (some ⟨w.heap.size, 0, none⟩) 4 4)) 28 rfl rfl (hon 28 (by kernel_rfl)) rfl
      have e41 : a.tmps[41]? = some (.bool true) := by rw [ha]; exact putSel_on (e := (27, 41, .bool true)) 27 rfl rfl (hon 27 (by kernel_rfl)) rfl
      replace ha := Aside0.mk ha
      have B0 := Aside0.mk Q_B0
      have L0 := Aside0.mk Q_L0
      have Z2 := Aside0.mk Q_Z2
      refine value_ (w1 := w') (v := .pointer (some ⟨w.heap.size, 8, none⟩)) (wanted_on rfl rfl rfl (e41.trans (by first | rfl | (simp [*]; done)))) rfl ?_ ?_
      · go_simp
        (try simp only [i64_w])
        try rfl
      refine hK.out _ _ ⟨A13, c13, A19, c19, m8_, m39_, (by rw [ha.out]; exact putSel_upk 29 hb_ rfl rfl rfl), Q_B0, Q_L0, Q_Z2, Q_X8_, fun h0_ => absurd ((hoff 39 (by kernel_rfl)).symm.trans h0_) (by decide)⟩
    refine steps_cons ?_ ?_
    · rintro b a w' ⟨A13, c13, A19, c19, m8_, m39_, ha, Q_B0, Q_L0, Q_Z2, Q_X8_, Q_X39_⟩ hb_ hon hoff
      refine ⟨_, rfl, fun K hK => ?_⟩
      have e43 : a.tmps[43]? = some (.pointer (some ⟨w.heap.size, 8, none⟩)) := by rw [ha]; exact putSel_on (e := (29, 43, .pointer (some ⟨w.heap.size, 8, none⟩))) 29 rfl rfl (hon 29 (by kernel_rfl)) rfl
      have e41 : a.tmps[41]? = some (.bool true) := by rw [ha]; exact putSel_on (e := (27, 41, .bool true)) 27 rfl rfl (hon 27 (by kernel_rfl)) rfl
      replace ha := Aside0.mk ha
      have B0 := Aside0.mk Q_B0
      have L0 := Aside0.mk Q_L0
      have Z2 := Aside0.mk Q_Z2
      have c0_ := blk_cell L0.out 8
      have c1_ := blk_cell L0.out 9
      have c2_ := blk_cell L0.out 10
      have c3_ := blk_cell L0.out 11
      have c4_ := blk_cell L0.out 12
      have c5_ := blk_cell L0.out 13
      have c6_ := blk_cell L0.out 14
      have c7_ := blk_cell L0.out 15
      refine value_ (w1 := w') (v := .agg #[.int .u64 5, .int .u64 0, .int .i64 2, .int .i64 0, .int .u64 0, .bool false, .int .i64 0, .slice none 0 0]) (wanted_on rfl rfl rfl (e41.trans (by first | rfl | (simp [*]; done)))) rfl ?_ ?_
      · go_simp
        (try simp only [i64_w])
        try rfl
      refine hK.out _ _ ⟨A13, c13, A19, c19, m8_, m39_, (by rw [ha.out]; exact putSel_upk 30 hb_ rfl rfl rfl), Q_B0, Q_L0, Q_Z2, Q_X8_, fun h0_ => absurd ((hoff 39 (by kernel_rfl)).symm.trans h0_) (by decide)⟩
    refine steps_cons ?_ ?_
    · rintro b a w' ⟨A13, c13, A19, c19, m8_, m39_, ha, Q_B0, Q_L0, Q_Z2, Q_X8_, Q_X39_⟩ hb_ hon hoff
      refine ⟨_, rfl, fun K hK => ?_⟩
      have e1 : a.tmps[1]? = some (.slice (some ⟨w.heap.size, 0, none⟩) 4 4) := by rw [ha]; exact (putSel_off rfl).trans rfl
      have e41 : a.tmps[41]? = some (.bool true) := by rw [ha]; exact putSel_on (e := (27, 41, .bool true)) 27 rfl rfl (hon 27 (by kernel_rfl)) rfl
      replace ha := Aside0.mk ha
      have B0 := Aside0.mk Q_B0
      have L0 := Aside0.mk Q_L0
      have Z2 := Aside0.mk Q_Z2
      refine value_ (w1 := w') (v := .slice (some ⟨w.heap.size, 0, none⟩) 4 4) (wanted_on rfl rfl rfl (e41.trans (by first | rfl | (simp [*]; done)))) rfl ?_ ?_
      · go_simp
        (try simp only [i64_w])
        try rfl
      refine hK.out _ _ ⟨A13, c13, A19, c19, m8_, m39_, (by rw [ha.out]; exact putSel_upk 31 hb_ rfl rfl rfl), Q_B0, Q_L0, Q_Z2, Q_X8_, fun h0_ => absurd ((hoff 39 (by kernel_rfl)).symm.trans h0_) (by decide)⟩
    refine steps_cons ?_ ?_
    · rintro b a w' ⟨A13, c13, A19, c19, m8_, m39_, ha, Q_B0, Q_L0, Q_Z2, Q_X8_, Q_X39_⟩ hb_ hon hoff
      refine ⟨_, rfl, fun K hK => ?_⟩
      have e45 : a.tmps[45]? = some (.slice (some ⟨w.heap.size, 0, none⟩) 4 4) := by rw [ha]; exact putSel_on (e := (31, 45, .slice (some ⟨w.heap.size, 0, none⟩) 4 4)) 31 rfl rfl (hon 31 (by kernel_rfl)) rfl
      have e41 : a.tmps[41]? = some (.bool true) := by rw [ha]; exact putSel_on (e := (27, 41, .bool true)) 27 rfl rfl (hon 27 (by kernel_rfl)) rfl
      replace ha := Aside0.mk ha
      have B0 := Aside0.mk Q_B0
      have L0 := Aside0.mk Q_L0
      have Z2 := Aside0.mk Q_Z2
      refine value_ (w1 := w') (v := .pointer (some ⟨w.heap.size, 16, none⟩)) (wanted_on rfl rfl rfl (e41.trans (by first | rfl | (simp [*]; done)))) rfl ?_ ?_
      · go_simp
        (try simp only [i64_w])
        try rfl
      refine hK.out _ _ ⟨A13, c13, A19, c19, m8_, m39_, (by rw [ha.out]; exact putSel_upk 32 hb_ rfl rfl rfl), Q_B0, Q_L0, Q_Z2, Q_X8_, fun h0_ => absurd ((hoff 39 (by kernel_rfl)).symm.trans h0_) (by decide)⟩
    refine steps_cons ?_ ?_
    · rintro b a w' ⟨A13, c13, A19, c19, m8_, m39_, ha, Q_B0, Q_L0, Q_Z2, Q_X8_, Q_X39_⟩ hb_ hon hoff
      refine ⟨_, rfl, fun K hK => ?_⟩
      have e46 : a.tmps[46]? = some (.pointer (some ⟨w.heap.size, 16, none⟩)) := by rw [ha]; exact putSel_on (e := (32, 46, .pointer (some ⟨w.heap.size, 16, none⟩))) 32 rfl rfl (hon 32 (by kernel_rfl)) rfl
      have e41 : a.tmps[41]? = some (.bool true) := by rw [ha]; exact putSel_on (e := (27, 41, .bool true)) 27 rfl rfl (hon 27 (by kernel_rfl)) rfl
      replace ha := Aside0.mk ha
      have B0 := Aside0.mk Q_B0
      have L0 := Aside0.mk Q_L0
      have Z2 := Aside0.mk Q_Z2
      have c0_ := blk_cell L0.out 16
      have c1_ := blk_cell L0.out 17
      have c2_ := blk_cell L0.out 18
      have c3_ := blk_cell L0.out 19
      have c4_ := blk_cell L0.out 20
      have c5_ := blk_cell L0.out 21
      have c6_ := blk_cell L0.out 22
      have c7_ := blk_cell L0.out 23
      refine value_ (w1 := w') (v := .agg #[.int .u64 3, .int .u64 0, .int .i64 2, .int .i64 0, .int .u64 0, .bool false, .int .i64 0, .slice none 0 0]) (wanted_on rfl rfl rfl (e41.trans (by first | rfl | (simp [*]; done)))) rfl ?_ ?_
      · go_simp
        (try simp only [i64_w])
        try rfl
      refine hK.out _ _ ⟨A13, c13, A19, c19, m8_, m39_, (by rw [ha.out]; exact putSel_upk 33 hb_ rfl rfl rfl), Q_B0, Q_L0, Q_Z2, Q_X8_, fun h0_ => absurd ((hoff 39 (by kernel_rfl)).symm.trans h0_) (by decide)⟩
    refine steps_cons ?_ ?_
    · rintro b a w' ⟨A13, c13, A19, c19, m8_, m39_, ha, Q_B0, Q_L0, Q_Z2, Q_X8_, Q_X39_⟩ hb_ hon hoff
      refine ⟨_, rfl, fun K hK => ?_⟩
      have e44 : a.tmps[44]? = some (.agg #[.int .u64 5, .int .u64 0, .int .i64 2, .int .i64 0, .int .u64 0, .bool false, .int .i64 0, .slice none 0 0]) := by rw [ha]; exact putSel_on (e := (30, 44, .agg #[.int .u64 5, .int .u64 0, .int .i64 2, .int .i64 0, .int .u64 0, .bool false, .int .i64 0, .slice none 0 0])) 30 rfl rfl (hon 30 (by kernel_rfl)) rfl
      have e47 : a.tmps[47]? = some (.agg #[.int .u64 3, .int .u64 0, .int .i64 2, .int .i64 0, .int .u64 0, .bool false, .int .i64 0, .slice none 0 0]) := by rw [ha]; exact putSel_on (e := (33, 47, .agg #[.int .u64 3, .int .u64 0, .int .i64 2, .int .i64 0, .int .u64 0, .bool false, .int .i64 0, .slice none 0 0])) 33 rfl rfl (hon 33 (by kernel_rfl)) rfl
      have e41 : a.tmps[41]? = some (.bool true) := by rw [ha]; exact putSel_on (e := (27, 41, .bool true)) 27 rfl rfl (hon 27 (by kernel_rfl)) rfl
      replace ha := Aside0.mk ha
      have B0 := Aside0.mk Q_B0
      have L0 := Aside0.mk Q_L0
      have Z2 := Aside0.mk Q_Z2
      refine goes_ Try.func18 (by kernel_rfl) rfl #[.agg #[.int .u64 5, .int .u64 0, .int .i64 2, .int .i64 0, .int .u64 0, .bool false, .int .i64 0, .slice none 0 0], .agg #[.int .u64 3, .int .u64 0, .int .i64 2, .int .i64 0, .int .u64 0, .bool false, .int .i64 0, .slice none 0 0]] (wanted_on rfl rfl rfl (e41.trans rfl)) rfl rfl (by first | (simp only [List.map_toArray, List.map_cons, List.map_nil, Act.eval, Array.getD_eq_getD_getElem?, Option.getD_some, e44, e47, e41]; done) | (simp only [List.map_toArray, List.map_cons, List.map_nil, Act.eval, Array.getD_eq_getD_getElem?, Option.getD_some, e44, e47, e41]; rfl)) ?_
      with_reducible refine (HAH2.out _).mono ?_
      rintro e w2 ⟨rfl, hb⟩
      refine ⟨_, rfl, ?_⟩
      refine hK.out _ _ ⟨A13, c13, A19, c19, m8_, m39_, (by rw [ha.out]; exact putSel_upk 34 hb_ rfl rfl rfl), below_then B0.out B0.out.size hb, L0.out.below hb, blk_below Z2.out hb, Q_X8_, fun h0_ => absurd ((hoff 39 (by kernel_rfl)).symm.trans h0_) (by decide)⟩
    refine steps_cons ?_ ?_
    · rintro b a w' ⟨A13, c13, A19, c19, m8_, m39_, ha, Q_B0, Q_L0, Q_Z2, Q_X8_, Q_X39_⟩ hb_ hon hoff
      refine ⟨_, rfl, fun K hK => ?_⟩
      have e48 : a.tmps[48]? = some (.bool false) := by rw [ha]; exact putSel_on (e := (34, 48, .bool false)) 34 rfl rfl (hon 34 (by kernel_rfl)) rfl
      have e41 : a.tmps[41]? = some (.bool true) := by rw [ha]; exact putSel_on (e := (27, 41, .bool true)) 27 rfl rfl (hon 27 (by kernel_rfl)) rfl
      replace ha := Aside0.mk ha
      have B0 := Aside0.mk Q_B0
      have L0 := Aside0.mk Q_L0
      have Z2 := Aside0.mk Q_Z2
      refine value_ (w1 := w') (v := .bool true) (wanted_on rfl rfl rfl (e41.trans (by first | rfl | (simp [*]; done)))) rfl ?_ ?_
      · go_simp
        (try simp only [i64_w])
        try rfl
      refine hK.out _ _ ⟨A13, c13, A19, c19, m8_, m39_, (by rw [ha.out]; exact putSel_upk 35 hb_ rfl rfl rfl), Q_B0, Q_L0, Q_Z2, Q_X8_, fun h0_ => absurd ((hoff 39 (by kernel_rfl)).symm.trans h0_) (by decide)⟩
    refine steps_cons ?_ ?_
    · rintro b a w' ⟨A13, c13, A19, c19, m8_, m39_, ha, Q_B0, Q_L0, Q_Z2, Q_X8_, Q_X39_⟩ hb_ hon hoff
      refine ⟨_, rfl, fun K hK => ?_⟩
      have e41 : a.tmps[41]? = some (.bool true) := by rw [ha]; exact putSel_on (e := (27, 41, .bool true)) 27 rfl rfl (hon 27 (by kernel_rfl)) rfl
      have e49 : a.tmps[49]? = some (.bool true) := by rw [ha]; exact putSel_on (e := (35, 49, .bool true)) 35 rfl rfl (hon 35 (by kernel_rfl)) rfl
      replace ha := Aside0.mk ha
      have B0 := Aside0.mk Q_B0
      have L0 := Aside0.mk Q_L0
      have Z2 := Aside0.mk Q_Z2
      refine value_ (w1 := w') (v := .bool true) (by rfl) rfl ?_ ?_
      · go_simp
        (try simp only [i64_w])
        try rfl
      refine hK.out _ _ ⟨A13, c13, A19, c19, m8_, m39_, (by rw [ha.out]; exact putSel_upk 36 hb_ rfl rfl rfl), Q_B0, Q_L0, Q_Z2, Q_X8_, fun h0_ => absurd ((hoff 39 (by kernel_rfl)).symm.trans h0_) (by decide)⟩
    refine steps_cons ?_ ?_
    · rintro b a w' ⟨A13, c13, A19, c19, m8_, m39_, ha, Q_B0, Q_L0, Q_Z2, Q_X8_, Q_X39_⟩ hb_ hon hoff
      refine ⟨_, rfl, fun K hK => ?_⟩
      have e50 : a.tmps[50]? = some (.bool true) := by rw [ha]; exact putSel_on (e := (36, 50, .bool true)) 36 rfl rfl (hon 36 (by kernel_rfl)) rfl
      replace ha := Aside0.mk ha
      have B0 := Aside0.mk Q_B0
      have L0 := Aside0.mk Q_L0
      have Z2 := Aside0.mk Q_Z2
      refine value_ (w1 := w') (v := .bool true) (by rfl) rfl ?_ ?_
      · go_simp
        (try simp only [i64_w])
        try rfl
      refine hK.out _ _ ⟨A13, c13, A19, c19, m8_, m39_, (by rw [ha.out]; exact putSel_upk 37 hb_ rfl rfl rfl), Q_B0, Q_L0, Q_Z2, Q_X8_, fun h0_ => absurd ((hoff 39 (by kernel_rfl)).symm.trans h0_) (by decide)⟩
    refine steps_cons ?_ ?_
    · rintro b a w' ⟨A13, c13, A19, c19, m8_, m39_, ha, Q_B0, Q_L0, Q_Z2, Q_X8_, Q_X39_⟩ hb_ hon hoff
      refine ⟨_, rfl, fun K hK => ?_⟩
      have e1 : a.tmps[1]? = some (.slice (some ⟨w.heap.size, 0, none⟩) 4 4) := by rw [ha]; exact (putSel_off rfl).trans rfl
      have e51 : a.tmps[51]? = some (.bool true) := by rw [ha]; exact putSel_on (e := (37, 51, .bool true)) 37 rfl rfl (hon 37 (by kernel_rfl)) rfl
      replace ha := Aside0.mk ha
      have B0 := Aside0.mk Q_B0
      have L0 := Aside0.mk Q_L0
      have Z2 := Aside0.mk Q_Z2
      refine value_ (w1 := w') (v := .slice (some ⟨w.heap.size, 0, none⟩) 4 4) (wanted_on rfl rfl rfl (e51.trans (by first | rfl | (simp [*]; done)))) rfl ?_ ?_
      · go_simp
        (try simp only [i64_w])
        try rfl
      refine hK.out _ _ ⟨A13, c13, A19, c19, m8_, m39_, (by rw [ha.out]; exact putSel_upk 38 hb_ rfl rfl rfl), Q_B0, Q_L0, Q_Z2, Q_X8_, fun h0_ => absurd ((hoff 39 (by kernel_rfl)).symm.trans h0_) (by decide)⟩
    refine steps_cons ?_ ?_
    · rintro b a w' ⟨A13, c13, A19, c19, m8_, m39_, ha, Q_B0, Q_L0, Q_Z2, Q_X8_, Q_X39_⟩ hb_ hon hoff
      refine ⟨_, rfl, fun K hK => ?_⟩
      have e52 : a.tmps[52]? = some (.slice (some ⟨w.heap.size, 0, none⟩) 4 4) := by rw [ha]; exact putSel_on (e := (38, 52, .slice (some ⟨w.heap.size, 0, none⟩) 4 4)) 38 rfl rfl (hon 38 (by kernel_rfl)) rfl
      have e51 : a.tmps[51]? = some (.bool true) := by rw [ha]; exact putSel_on (e := (37, 51, .bool true)) 37 rfl rfl (hon 37 (by kernel_rfl)) rfl
      replace ha := Aside0.mk ha
      have B0 := Aside0.mk Q_B0
      have L0 := Aside0.mk Q_L0
      have Z2 := Aside0.mk Q_Z2
      refine goes_ Try.func19 (by kernel_rfl) rfl #[.slice (some ⟨w.heap.size, 0, none⟩) 4 4, .int .i64 2] (wanted_on rfl rfl rfl (e51.trans rfl)) rfl rfl (by first | (simp only [List.map_toArray, List.map_cons, List.map_nil, Act.eval, Array.getD_eq_getD_getElem?, Option.getD_some, e52, e51]; done) | (simp only [List.map_toArray, List.map_cons, List.map_nil, Act.eval, Array.getD_eq_getD_getElem?, Option.getD_some, e52, e51]; rfl)) ?_
      with_reducible refine (HCLS.out _ L0.out).mono ?_
      rintro e w2 ⟨A_, c_, rfl, hb⟩
      refine ⟨_, rfl, ?_⟩
      refine hK.out _ _ ⟨A13, c13, A_, c_, m8_, (.slice A_ 2 c_), (by rw [ha.out]; exact putSel_upk 39 hb_ rfl rfl rfl), below_then B0.out B0.out.size hb, L0.out.below hb, blk_below Z2.out hb, Q_X8_, fun _ => rfl⟩
    refine steps_cons ?_ ?_
    · rintro b a w' ⟨A13, c13, A19, c19, m8_, m39_, ha, Q_B0, Q_L0, Q_Z2, Q_X8_, Q_X39_⟩ hb_ hon hoff
      refine ⟨_, rfl, fun K hK => ?_⟩
      have e53 : a.tmps[53]? = some (m39_) := by rw [ha]; exact putSel_on (e := (39, 53, m39_)) 39 rfl rfl (hon 39 (by kernel_rfl)) rfl
      rw [Q_X39_ (hon 39 (by kernel_rfl))] at e53
      have e51 : a.tmps[51]? = some (.bool true) := by rw [ha]; exact putSel_on (e := (37, 51, .bool true)) 37 rfl rfl (hon 37 (by kernel_rfl)) rfl
      replace ha := Aside0.mk ha
      have B0 := Aside0.mk Q_B0
      have L0 := Aside0.mk Q_L0
      have Z2 := Aside0.mk Q_Z2
      refine value_ (w1 := w') (v := .int .i64 2) (wanted_on rfl rfl rfl (e51.trans (by first | rfl | (simp [*]; done)))) rfl ?_ ?_
      · go_simp
        (try simp only [i64_w])
        try rfl
      refine hK.out _ _ ⟨A13, c13, A19, c19, m8_, m39_, (by rw [ha.out]; exact putSel_upk 40 hb_ rfl rfl rfl), Q_B0, Q_L0, Q_Z2, Q_X8_, Q_X39_⟩
    refine steps_cons ?_ ?_
    · rintro b a w' ⟨A13, c13, A19, c19, m8_, m39_, ha, Q_B0, Q_L0, Q_Z2, Q_X8_, Q_X39_⟩ hb_ hon hoff
      refine ⟨_, rfl, fun K hK => ?_⟩
      have e54 : a.tmps[54]? = some (.int .i64 2) := by rw [ha]; exact putSel_on (e := (40, 54, .int .i64 2)) 40 rfl rfl (hon 40 (by kernel_rfl)) rfl
      have e51 : a.tmps[51]? = some (.bool true) := by rw [ha]; exact putSel_on (e := (37, 51, .bool true)) 37 rfl rfl (hon 37 (by kernel_rfl)) rfl
      replace ha := Aside0.mk ha
      have B0 := Aside0.mk Q_B0
      have L0 := Aside0.mk Q_L0
      have Z2 := Aside0.mk Q_Z2
      refine value_ (w1 := w') (v := .bool true) (wanted_on rfl rfl rfl (e51.trans (by first | rfl | (simp [*]; done)))) rfl ?_ ?_
      · go_simp
        (try simp only [i64_w])
        try rfl
      refine hK.out _ _ ⟨A13, c13, A19, c19, m8_, m39_, (by rw [ha.out]; exact putSel_upk 41 hb_ rfl rfl rfl), Q_B0, Q_L0, Q_Z2, Q_X8_, Q_X39_⟩
    refine steps_cons ?_ ?_
    · rintro b a w' ⟨A13, c13, A19, c19, m8_, m39_, ha, Q_B0, Q_L0, Q_Z2, Q_X8_, Q_X39_⟩ hb_ hon hoff
      refine ⟨_, rfl, fun K hK => ?_⟩
      have e51 : a.tmps[51]? = some (.bool true) := by rw [ha]; exact putSel_on (e := (37, 51, .bool true)) 37 rfl rfl (hon 37 (by kernel_rfl)) rfl
      have e55 : a.tmps[55]? = some (.bool true) := by rw [ha]; exact putSel_on (e := (41, 55, .bool true)) 41 rfl rfl (hon 41 (by kernel_rfl)) rfl
      replace ha := Aside0.mk ha
      have B0 := Aside0.mk Q_B0
      have L0 := Aside0.mk Q_L0
      have Z2 := Aside0.mk Q_Z2
      refine value_ (w1 := w') (v := .bool true) (by rfl) rfl ?_ ?_
      · go_simp
        (try simp only [i64_w])
        try rfl
      refine hK.out _ _ ⟨A13, c13, A19, c19, m8_, m39_, (by rw [ha.out]; exact putSel_upk 42 hb_ rfl rfl rfl), Q_B0, Q_L0, Q_Z2, Q_X8_, Q_X39_⟩
    refine steps_cons ?_ ?_
    · rintro b a w' ⟨A13, c13, A19, c19, m8_, m39_, ha, Q_B0, Q_L0, Q_Z2, Q_X8_, Q_X39_⟩ hb_ hon hoff
      refine ⟨_, rfl, fun K hK => ?_⟩
      have e56 : a.tmps[56]? = some (.bool true) := by rw [ha]; exact putSel_on (e := (42, 56, .bool true)) 42 rfl rfl (hon 42 (by kernel_rfl)) rfl
      replace ha := Aside0.mk ha
      have B0 := Aside0.mk Q_B0
      have L0 := Aside0.mk Q_L0
      have Z2 := Aside0.mk Q_Z2
      refine value_ (w1 := w') (v := .bool true) (by rfl) rfl ?_ ?_
      · go_simp
        (try simp only [i64_w])
        try rfl
      refine hK.out _ _ ⟨A13, c13, A19, c19, m8_, m39_, (by rw [ha.out]; exact putSel_upk 43 hb_ rfl rfl rfl), Q_B0, Q_L0, Q_Z2, Q_X8_, Q_X39_⟩
    exact steps_nil
  rintro b a wl hall ⟨A13, c13, A19, c19, m8_, m39_, ha, Q_B0, Q_L0, Q_Z2, Q_X8_, Q_X39_⟩
  clear B0 L0 Z2
  have hb0_ := hall 0 (by kernel_rfl)
  have hb1_ := hall 1 (by kernel_rfl)
  have hb2_ := hall 2 (by kernel_rfl)
  have hb3_ := hall 3 (by kernel_rfl)
  have hb4_ := hall 4 (by kernel_rfl)
  have hb5_ := hall 5 (by kernel_rfl)
  have hb6_ := hall 6 (by kernel_rfl)
  have hb7_ := hall 7 (by kernel_rfl)
  have hb8_ := hall 8 (by kernel_rfl)
  have hb9_ := hall 9 (by kernel_rfl)
  have hb10_ := hall 10 (by kernel_rfl)
  have hb11_ := hall 11 (by kernel_rfl)
  have hb12_ := hall 12 (by kernel_rfl)
  have hb13_ := hall 13 (by kernel_rfl)
  have hb14_ := hall 14 (by kernel_rfl)
  have hb15_ := hall 15 (by kernel_rfl)
  have hb16_ := hall 16 (by kernel_rfl)
  have hb17_ := hall 17 (by kernel_rfl)
  have hb18_ := hall 18 (by kernel_rfl)
  have hb19_ := hall 19 (by kernel_rfl)
  have hb20_ := hall 20 (by kernel_rfl)
  have hb21_ := hall 21 (by kernel_rfl)
  have hb22_ := hall 22 (by kernel_rfl)
  have hb23_ := hall 23 (by kernel_rfl)
  have hb24_ := hall 24 (by kernel_rfl)
  have hb25_ := hall 25 (by kernel_rfl)
  have hb26_ := hall 26 (by kernel_rfl)
  have hb27_ := hall 27 (by kernel_rfl)
  have hb28_ := hall 28 (by kernel_rfl)
  have hb29_ := hall 29 (by kernel_rfl)
  have hb30_ := hall 30 (by kernel_rfl)
  have hb31_ := hall 31 (by kernel_rfl)
  have hb32_ := hall 32 (by kernel_rfl)
  have hb33_ := hall 33 (by kernel_rfl)
  have hb34_ := hall 34 (by kernel_rfl)
  have hb35_ := hall 35 (by kernel_rfl)
  have hb36_ := hall 36 (by kernel_rfl)
  have hb37_ := hall 37 (by kernel_rfl)
  have hb38_ := hall 38 (by kernel_rfl)
  have hb39_ := hall 39 (by kernel_rfl)
  have hb40_ := hall 40 (by kernel_rfl)
  have hb41_ := hall 41 (by kernel_rfl)
  have hb42_ := hall 42 (by kernel_rfl)
  have hb43_ := hall 43 (by kernel_rfl)
  subst ha
  obtain rfl := Q_X8_ hb8_
  obtain rfl := Q_X39_ hb39_
  simp only [putSel, hb0_, hb1_, hb2_, hb3_, hb4_, hb5_, hb6_, hb7_, hb8_, hb9_, hb10_, hb11_, hb12_, hb13_, hb14_, hb15_, hb16_, hb17_, hb18_, hb19_, hb20_, hb21_, hb22_, hb23_, hb24_, hb25_, hb26_, hb27_, hb28_, hb29_, hb30_, hb31_, hb32_, hb33_, hb34_, hb35_, hb36_, hb37_, hb38_, hb39_, hb40_, hb41_, hb42_, hb43_, if_true, Act.put, List.setIfInBounds_toArray, List.set_cons_zero, List.set_cons_succ]
  have B0 := Aside0.mk Q_B0
  clear Q_B0
  have L0 := Aside0.mk Q_L0
  clear Q_L0
  have Z2 := Aside0.mk Q_Z2
  clear Q_Z2
  clear hall hb0_ hb1_ hb2_ hb3_ hb4_ hb5_ hb6_ hb7_ hb8_ hb9_ hb10_ hb11_ hb12_ hb13_ hb14_ hb15_ hb16_ hb17_ hb18_ hb19_ hb20_ hb21_ hb22_ hb23_ hb24_ hb25_ hb26_ hb27_ hb28_ hb29_ hb30_ hb31_ hb32_ hb33_ hb34_ hb35_ hb36_ hb37_ hb38_ hb39_ hb40_ hb41_ hb42_ hb43_
  go_wp2_with fail
  go_ret
  exact ⟨rfl, below_then HW.out HW.out.size B0.out⟩
end Go.Proofs.Ytnopjcakilfepaa.QS
