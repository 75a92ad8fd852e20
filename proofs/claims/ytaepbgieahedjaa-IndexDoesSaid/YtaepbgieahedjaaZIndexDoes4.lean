/- Parts of the proof of the statement IndexDoes, laid together (5 of 6). -/
import Derived.Test.YtaepbgieahedjaaZIndexDoes3
namespace Go.Proofs.Ytaepbgieahedjaa.QS
set_option linter.unusedVariables false
set_option linter.unusedSimpArgs false
open Go.RowKit Go.Proofs.Ytaepbgieahedjaa.Hp Go.Proofs.YtaepbgieahedjaaW.PrintWords Go.Proofs.YtaepbgieahedjaaW.PrintLast Go.Proofs.YtaepbgieahedjaaW.PrintMore
open Go.Proofs.Ytaepbgieahedjaa.IP
def PutTo (W w' : World) (base g : Nat) (l : List R0) (r : Option Nat) : Prop := (∃ r', IXr w' base g l r' ∧ ∀ k, r' = some k → r = some k ∨ W.heap.size ≤ k) ∧ ∀ k, k < W.heap.size → k ≠ g → some k ≠ r → w'.heap[k]? = W.heap[k]?
def iput9.T9 : Bool × List (List Nat × List Nat) := (true, [([], []), ([], []), ([1], [1]), ([2], [2]), ([3], [3]), ([], []), ([], []), ([6], [6]), ([7], [7]), ([4, 5, 8, 7], [4, 5, 8]), ([0, 0, 1, 2, 3, 4, 5, 6, 7, 8, 9], [0]), ([10, 0, 1, 2, 3, 4, 5, 6, 7, 8, 9], [10]), ([11, 9, 9, 0, 1, 2, 3, 4, 5, 6, 7, 8, 9], [9, 11])])
def iput9.B9 : List Nat := [0, 0, 2, 6, 14, 0, 0, 64, 192, 510, 1023, 2047, 4095]
theorem iput9.tab9 : rtab .any (opsOf Try.f17 9) = iput9.T9 := by kernel_rfl
theorem iput9.bits9 : waitsOk iput9.T9.2 iput9.B9 = true := by kernel_rfl
set_option maxHeartbeats 4000000 in
set_option maxRecDepth 100000 in
theorem put_any {W : World} {base g i : Nat} {l : List R0} {r : Option Nat} (h : IXr W base g l r) (x : R0) (A : Option Addr) (c : Nat) (hC : Kd.C (Kd.int .i64) W A x.f7.length x.f7) (hp : x.f7.length ≤ 1000) (hm : mayB x = true) (hr : Rising keyR l) (hn : l.length ≤ 1000) (hlow : low keyR l x.f0 = i) (hk : hasKey keyR l x.f0 = false) :
    Calls Try.prog 17 #[.pointer (some ⟨g, 0, none⟩), ragg x A c] W fun e w' => e = .returned (.int .i64 0) ∧ PutTo W w' base g (putAt l i x) r ∧ Below base W w' := by
  have hz := heap_alloc_new W (.cells #[.int .u64 x.f0, .int .u64 x.f1, .int .i64 x.f2, .int .i64 x.f3, .int .u64 x.f4, .bool x.f5, .int .i64 x.f6, .slice A x.f7.length c] 29)
  have hb := below_alloc (Below.refl W.heap.size W) (.cells #[.int .u64 x.f0, .int .u64 x.f1, .int .i64 x.f2, .int .i64 x.f3, .int .u64 x.f4, .bool x.f5, .int .i64 x.f6, .slice A x.f7.length c] 29)
  obtain ⟨gb, hgb⟩ : ∃ g, g = W.heap.size := ⟨_, rfl⟩
  have HX1 := Aside0.mk (h.below hb)
  have HC1 := Aside0.mk (Kd.C_below hC hb)
  have HIN := Aside0.mk (And.intro hp (And.intro hr (And.intro hn (And.intro hlow hk))))
  have hck : chk x = 0 := by unfold chk; rw [if_pos hm]
  have HBS : Aside0 (base ≤ W.heap.size) := ⟨by obtain ⟨A', c', hz', _, hg', _⟩ := h; have := blk_lt hz'; omega⟩
  unfold ragg
  clear h hC hp hm hr hn hlow hk
  go_enter Try.func17, Try.ntmps17
  go_upto_region 1 with fail
  generalize W.alloc (.cells #[.int .u64 x.f0, .int .u64 x.f1, .int .i64 x.f2, .int .i64 x.f3, .int .u64 x.f4, .bool x.f5, .int .i64 x.f6, .slice A x.f7.length c] 29) = W1 at hz hb HX1 HC1 ⊢
  rw [← hgb] at hz ⊢
  have HCK := Aside0.mk (check_calls x A c W1 (by have := HIN.out.1; omega) HC1.out)
  rw [hck] at HCK
  unfold ragg at HCK
  have HZ := Aside0.mk hz
  have HB := Aside0.mk hb
  have c0 := blk_cell hz 0
  have c1 := blk_cell hz 1
  have c2 := blk_cell hz 2
  have c3 := blk_cell hz 3
  have c4 := blk_cell hz 4
  have c5 := blk_cell hz 5
  have c6 := blk_cell hz 6
  have c7 := blk_cell hz 7
  clear hz hb hgb hck
  go_upto_region 6 with (go_at_call 29; refine HCK.out.mono ?_; rintro e w2 ⟨rfl, hb⟩; have HB2 := Aside0.mk (below_then HB.out HB.out.size hb); have HZ2 := Aside0.mk (blk_below HZ.out hb); have HX2 := Aside0.mk (HX1.out.below hb); have HC2 := Aside0.mk (Kd.C_below HC1.out hb); clear hb c0 c1 c2 c3 c4 c5 c6 c7)
  have HPL := Aside0.mk (place_calls HX2.out.ix HIN.out.2.1 (by have := HIN.out.2.2.1; omega) x.f0)
  rw [HIN.out.2.2.2.1, HIN.out.2.2.2.2] at HPL
  have c0 := blk_cell HZ2.out 0
  clear HX1 HC1 HCK HZ HB
  go_upto_region 9 with (go_at_call 27; refine HPL.out.mono ?_; rintro e w5 ⟨rfl, hb⟩; have HB5 := Aside0.mk (below_then HB2.out HB2.out.size hb); have HZ5 := Aside0.mk (blk_below HZ2.out hb); have HX5 := Aside0.mk (HX2.out.below hb); have HC5 := Aside0.mk (Kd.C_below HC2.out hb); clear hb c0)
  clear HPL HB2 HZ2 HX2 HC2
  obtain ⟨A1, c1, hzg, hRl, hbg, hr1⟩ := HX5.out
  obtain ⟨A1', c1', hv1, hcl, _⟩ := Kd.R_reads hRl
  injection hv1 with e1 _ e3
  subst e1 e3
  have HG1 : Aside0 (base ≤ g ∧ g < w5.heap.size ∧ base ≤ w5.heap.size ∧ l.length ≤ c1 ∧ ∀ k, (Value.slice A1 l.length c1).ownBlock = some k → k < w5.heap.size) := ⟨hbg, blk_lt hzg, by have := blk_lt hzg; omega, hcl, Kd.R_lt hRl⟩
  have HCP : Aside0 (∀ w', Kd.C (Kd.int .i64) w' A x.f7.length x.f7 → Calls Try.prog 31 #[ragg x A c] w' fun e w2 => OwnR w' w2 e x) := ⟨fun w' hC => copy_calls x A c w' (by have := HIN.out.1; omega) hC⟩
  have HIL : Aside0 (i ≤ l.length) := ⟨by rw [← HIN.out.2.2.2.1]; exact low_le⟩
  have HPLN : Aside0 ((putAt l i x).length = l.length + 1) := ⟨putAt_length HIL.out⟩
  have HIS : Aside0 (∀ (w' : World) (A2 : Option Addr) (c2 gx : Nat), w5.heap.size ≤ w'.heap.size → k29.R 29 w' base (fun k => g < k) (.slice A1 l.length c1) l → (Kd.int .i64).R 3 w' w5.heap.size (fun k => w5.heap.size ≤ k) (.slice A2 x.f7.length c2) x.f7 → (w'.heap[gx]? = some (.cells #[.int .u64 x.f0, .int .u64 x.f1, .int .i64 x.f2, .int .i64 x.f3, .int .u64 x.f4, .bool x.f5, .int .i64 x.f6, .slice A2 x.f7.length c2] 29 (0, 0)) ∧ w5.heap.size ≤ gx) → Calls Try.prog 30 #[.slice A1 l.length c1, .int .i64 (i : Int), .slice (some ⟨gx, 0, none⟩) 1 1] w' fun e w2 => InsTo w' w2 e base (fun k => g < k) (Value.slice A1 l.length c1).ownBlock (putAt l i x)) := ⟨fun w' A2 c2 gx hs hR hM hx =>
    insert_mid x A2 c2 hR HG1.out.2.2.2.1 (Kd.R_mono (Kd.R_lower hM HG1.out.2.2.1) (fun k hk => ⟨Nat.lt_of_lt_of_le HG1.out.2.1 hk, fun he => by have := HG1.out.2.2.2.2 k he.symm; have h2 : w5.heap.size ≤ k := hk; omega⟩)) hx.1 (by have := HIN.out.2.2.1; omega) (Nat.le_trans HG1.out.2.2.1 hs) (fun k hk => by have := HG1.out.2.1; show g < k; omega) HIL.out (fun he => by have := HG1.out.2.2.2.2 gx he.symm; have h2 := hx.2; omega)⟩
  have D0 := below_drew1 (Below.refl w5.heap.size w5)
  have B5 := Aside0.mk D0
  have BX := Aside0.mk (below_then (HB5.out.mono HBS.out) (Nat.le_trans HBS.out HB5.out.size) D0)
  have ZB := Aside0.mk (blk_below HZ5.out D0)
  have ZG := Aside0.mk (blk_below hzg D0)
  have RR := Aside0.mk (Kd.R_below hRl D0)
  have CA := Aside0.mk (Kd.C_below HC5.out D0)
  have HR1 := Aside0.mk hr1
  have FR : Aside0 (∀ k, k < W.heap.size → k ≠ g → some k ≠ r → w5.drew.heap[k]? = W.heap[k]?) := ⟨fun k hk _ _ => HB5.out.block k hk⟩
  have PR := True.intro
  have GX := True.intro
  have IR := True.intro
  have FIN := True.intro
  clear hzg hRl hbg hcl D0 HX5 hr1
  refine start_ (n := 13) (S := fun w' => True) (ds := []) #[false, false, false, false, false, false, false, false, false, false, false, false, false] (by kernel_rfl) rfl rfl trivial (fun hHeld => ?_)
  refine with_tabW iput9.tab9 iput9.bits9 (fun HT_ HW_ => ?_)
  generalize w5.drew = wz at B5 BX ZB ZG RR CA FR hHeld ⊢
  refine inv_at [0, 1, 2, 3, 4, 5, 6, 7, 8, 9, 10, 11, 12] (fun a0_ b a w' => ∃ (A2 : Option Addr) (c2 : Nat) (gx : Nat) (A3 : Option Addr) (c3 : Nat) (m7_ : Value) (m8_ : Value) (m9_ : Value), a = putSel a0_ b [(0, 23, .pointer (some ⟨g, 0, none⟩)), (1, 24, .pointer (some ⟨g, 0, none⟩)), (2, 25, .pointer (some ⟨g, 0, none⟩)), (3, 26, .pointer (some ⟨g, 0, none⟩)), (4, 27, .slice A1 l.length c1), (5, 28, .int .i64 (i : Int)), (6, 29, .agg #[.int .u64 x.f0, .int .u64 x.f1, .int .i64 x.f2, .int .i64 x.f3, .int .u64 x.f4, .bool x.f5, .int .i64 x.f6, .slice A x.f7.length c]), (7, 30, m7_), (8, 31, m8_), (9, 32, m9_), (10, 33, .pointer (some ⟨g, 0, none⟩)), (11, 34, .pointer (some ⟨g, 0, none⟩))] ∧ (b 9 = false → Below w5.heap.size w5 w') ∧ (Below base W w') ∧ (b 9 = false → w'.heap[gb]? = some (.cells #[.int .u64 x.f0, .int .u64 x.f1, .int .i64 x.f2, .int .i64 x.f3, .int .u64 x.f4, .bool x.f5, .int .i64 x.f6, .slice A x.f7.length c] 29 (0, 0))) ∧ (b 12 = false → w'.heap[g]? = some (.cells #[.slice A1 l.length c1] 57 (0, 0))) ∧ (b 9 = false → k29.R 29 w' base (fun k => g < k) (.slice A1 l.length c1) l) ∧ (b 9 = false → Kd.C (Kd.int .i64) w' A x.f7.length x.f7) ∧ (b 7 = true → b 9 = false → (Kd.int .i64).R 3 w' w5.heap.size (fun k => w5.heap.size ≤ k) (.slice A2 x.f7.length c2) x.f7) ∧ (b 8 = true → b 9 = false → (w'.heap[gx]? = some (.cells #[.int .u64 x.f0, .int .u64 x.f1, .int .i64 x.f2, .int .i64 x.f3, .int .u64 x.f4, .bool x.f5, .int .i64 x.f6, .slice A2 x.f7.length c2] 29 (0, 0)) ∧ w5.heap.size ≤ gx)) ∧ (b 9 = true → b 12 = false → (k29.R 29 w' base (fun k => g < k) (.slice A3 (putAt l i x).length c3) (putAt l i x) ∧ ∀ k, (Value.slice A3 (putAt l i x).length c3).ownBlock = some k → r = some k ∨ W.heap.size ≤ k)) ∧ (b 12 = true → ∃ r', IXr w' base g (putAt l i x) r' ∧ ∀ k, r' = some k → r = some k ∨ W.heap.size ≤ k) ∧ (∀ k, k < W.heap.size → k ≠ g → some k ≠ r → w'.heap[k]? = W.heap[k]?) ∧ (b 7 = true → (m7_ : Value) = .agg #[.int .u64 x.f0, .int .u64 x.f1, .int .i64 x.f2, .int .i64 x.f3, .int .u64 x.f4, .bool x.f5, .int .i64 x.f6, .slice A2 x.f7.length c2]) ∧ (b 8 = true → (m8_ : Value) = .slice (some ⟨gx, 0, none⟩) 1 1) ∧ (b 9 = true → (m9_ : Value) = .slice A3 (putAt l i x).length c3)) HT_.out HW_.out (by kernel_rfl) (by kernel_rfl) ?_ ?_ ?_
  · exact ⟨none, 0, 0, none, 0, .bool false, .bool false, .bool false, by simp only [putSel, Bool.false_eq_true, if_false], fun _ => B5.out, BX.out, fun _ => ZB.out, fun _ => ZG.out, fun _ => RR.out, fun _ => CA.out, fun h_ => absurd h_ (by decide), fun h_ => absurd h_ (by decide), fun h_ => absurd h_ (by decide), fun h_ => absurd h_ (by decide), FR.out, fun h_ => absurd h_ (by decide), fun h_ => absurd h_ (by decide), fun h_ => absurd h_ (by decide)⟩
  · skip
    clear B5 BX CA FR RR ZB ZG
    refine steps_cons ?_ ?_
    · rintro b a w' ⟨A2, c2, gx, A3, c3, m7_, m8_, m9_, ha, Q_B5, Q_BX, Q_ZB, Q_ZG, Q_RR, Q_CA, Q_PR, Q_GX, Q_IR, Q_FIN, Q_FR, Q_X7_, Q_X8_, Q_X9_⟩ hb_ hon hoff
      refine ⟨_, rfl, fun K hK => ?_⟩
      have e0 : a.tmps[0]? = some (.pointer (some ⟨g, 0, none⟩)) := by rw [ha]; exact (putSel_off rfl).trans rfl
      replace ha := Aside0.mk ha
      have BX := Aside0.mk Q_BX
      have ZG := Aside0.mk (Q_ZG (hoff 12 (by kernel_rfl)))
      have FR := Aside0.mk Q_FR
      refine value_ (w1 := w') (v := .pointer (some ⟨g, 0, none⟩)) (by rfl) rfl ?_ ?_
      · go_simp
        (try simp only [i64_w])
        try rfl
      refine hK.out _ _ ⟨A2, c2, gx, A3, c3, m7_, m8_, m9_, (by rw [ha.out]; exact putSel_upk 0 hb_ rfl rfl rfl), Q_B5, Q_BX, Q_ZB, Q_ZG, Q_RR, Q_CA, Q_PR, Q_GX, Q_IR, fun h0_ => absurd ((hoff 12 (by kernel_rfl)).symm.trans h0_) (by decide), Q_FR, Q_X7_, Q_X8_, Q_X9_⟩
    refine steps_cons ?_ ?_
    · rintro b a w' ⟨A2, c2, gx, A3, c3, m7_, m8_, m9_, ha, Q_B5, Q_BX, Q_ZB, Q_ZG, Q_RR, Q_CA, Q_PR, Q_GX, Q_IR, Q_FIN, Q_FR, Q_X7_, Q_X8_, Q_X9_⟩ hb_ hon hoff
      refine ⟨_, rfl, fun K hK => ?_⟩
      have e0 : a.tmps[0]? = some (.pointer (some ⟨g, 0, none⟩)) := by rw [ha]; exact (putSel_off rfl).trans rfl
      replace ha := Aside0.mk ha
      have B5 := Aside0.mk (Q_B5 (hoff 9 (by kernel_rfl)))
      have BX := Aside0.mk Q_BX
      have ZB := Aside0.mk (Q_ZB (hoff 9 (by kernel_rfl)))
      have ZG := Aside0.mk (Q_ZG (hoff 12 (by kernel_rfl)))
      have RR := Aside0.mk (Q_RR (hoff 9 (by kernel_rfl)))
      have CA := Aside0.mk (Q_CA (hoff 9 (by kernel_rfl)))
      have FR := Aside0.mk Q_FR
      refine value_ (w1 := w') (v := .pointer (some ⟨g, 0, none⟩)) (by rfl) rfl ?_ ?_
      · go_simp
        (try simp only [i64_w])
        try rfl
      refine hK.out _ _ ⟨A2, c2, gx, A3, c3, m7_, m8_, m9_, (by rw [ha.out]; exact putSel_upk 1 hb_ rfl rfl rfl), Q_B5, Q_BX, Q_ZB, Q_ZG, Q_RR, Q_CA, Q_PR, Q_GX, fun h0_ _ => absurd ((hoff 9 (by kernel_rfl)).symm.trans h0_) (by decide), fun h0_ => absurd ((hoff 12 (by kernel_rfl)).symm.trans h0_) (by decide), Q_FR, Q_X7_, Q_X8_, fun h0_ => absurd ((hoff 9 (by kernel_rfl)).symm.trans h0_) (by decide)⟩
    refine steps_cons ?_ ?_
    · rintro b a w' ⟨A2, c2, gx, A3, c3, m7_, m8_, m9_, ha, Q_B5, Q_BX, Q_ZB, Q_ZG, Q_RR, Q_CA, Q_PR, Q_GX, Q_IR, Q_FIN, Q_FR, Q_X7_, Q_X8_, Q_X9_⟩ hb_ hon hoff
      refine ⟨_, rfl, fun K hK => ?_⟩
      have e24 : a.tmps[24]? = some (.pointer (some ⟨g, 0, none⟩)) := by rw [ha]; exact putSel_on (e := (1, 24, .pointer (some ⟨g, 0, none⟩))) 1 rfl rfl (hon 1 (by kernel_rfl)) rfl
      replace ha := Aside0.mk ha
      have B5 := Aside0.mk (Q_B5 (hoff 9 (by kernel_rfl)))
      have BX := Aside0.mk Q_BX
      have ZB := Aside0.mk (Q_ZB (hoff 9 (by kernel_rfl)))
      have ZG := Aside0.mk (Q_ZG (hoff 12 (by kernel_rfl)))
      have RR := Aside0.mk (Q_RR (hoff 9 (by kernel_rfl)))
      have CA := Aside0.mk (Q_CA (hoff 9 (by kernel_rfl)))
      have FR := Aside0.mk Q_FR
      refine value_ (w1 := w') (v := .pointer (some ⟨g, 0, none⟩)) (by rfl) rfl ?_ ?_
      · go_simp
        (try simp only [i64_w])
        try rfl
      refine hK.out _ _ ⟨A2, c2, gx, A3, c3, m7_, m8_, m9_, (by rw [ha.out]; exact putSel_upk 2 hb_ rfl rfl rfl), Q_B5, Q_BX, Q_ZB, Q_ZG, Q_RR, Q_CA, Q_PR, Q_GX, fun h0_ _ => absurd ((hoff 9 (by kernel_rfl)).symm.trans h0_) (by decide), fun h0_ => absurd ((hoff 12 (by kernel_rfl)).symm.trans h0_) (by decide), Q_FR, Q_X7_, Q_X8_, fun h0_ => absurd ((hoff 9 (by kernel_rfl)).symm.trans h0_) (by decide)⟩
    refine steps_cons ?_ ?_
    · rintro b a w' ⟨A2, c2, gx, A3, c3, m7_, m8_, m9_, ha, Q_B5, Q_BX, Q_ZB, Q_ZG, Q_RR, Q_CA, Q_PR, Q_GX, Q_IR, Q_FIN, Q_FR, Q_X7_, Q_X8_, Q_X9_⟩ hb_ hon hoff
      refine ⟨_, rfl, fun K hK => ?_⟩
      have e25 : a.tmps[25]? = some (.pointer (some ⟨g, 0, none⟩)) := by rw [ha]; exact putSel_on (e := (2, 25, .pointer (some ⟨g, 0, none⟩))) 2 rfl rfl (hon 2 (by kernel_rfl)) rfl
      replace ha := Aside0.mk ha
      have B5 := Aside0.mk (Q_B5 (hoff 9 (by kernel_rfl)))
      have BX := Aside0.mk Q_BX
      have ZB := Aside0.mk (Q_ZB (hoff 9 (by kernel_rfl)))
      have ZG := Aside0.mk (Q_ZG (hoff 12 (by kernel_rfl)))
      have RR := Aside0.mk (Q_RR (hoff 9 (by kernel_rfl)))
      have CA := Aside0.mk (Q_CA (hoff 9 (by kernel_rfl)))
      have FR := Aside0.mk Q_FR
      refine value_ (w1 := w') (v := .pointer (some ⟨g, 0, none⟩)) (by rfl) rfl ?_ ?_
      · go_simp
        (try simp only [i64_w])
        try rfl
      refine hK.out _ _ ⟨A2, c2, gx, A3, c3, m7_, m8_, m9_, (by rw [ha.out]; exact putSel_upk 3 hb_ rfl rfl rfl), Q_B5, Q_BX, Q_ZB, Q_ZG, Q_RR, Q_CA, Q_PR, Q_GX, fun h0_ _ => absurd ((hoff 9 (by kernel_rfl)).symm.trans h0_) (by decide), fun h0_ => absurd ((hoff 12 (by kernel_rfl)).symm.trans h0_) (by decide), Q_FR, Q_X7_, Q_X8_, fun h0_ => absurd ((hoff 9 (by kernel_rfl)).symm.trans h0_) (by decide)⟩
    refine steps_cons ?_ ?_
    · rintro b a w' ⟨A2, c2, gx, A3, c3, m7_, m8_, m9_, ha, Q_B5, Q_BX, Q_ZB, Q_ZG, Q_RR, Q_CA, Q_PR, Q_GX, Q_IR, Q_FIN, Q_FR, Q_X7_, Q_X8_, Q_X9_⟩ hb_ hon hoff
      refine ⟨_, rfl, fun K hK => ?_⟩
      have e26 : a.tmps[26]? = some (.pointer (some ⟨g, 0, none⟩)) := by rw [ha]; exact putSel_on (e := (3, 26, .pointer (some ⟨g, 0, none⟩))) 3 rfl rfl (hon 3 (by kernel_rfl)) rfl
      replace ha := Aside0.mk ha
      have B5 := Aside0.mk (Q_B5 (hoff 9 (by kernel_rfl)))
      have BX := Aside0.mk Q_BX
      have ZB := Aside0.mk (Q_ZB (hoff 9 (by kernel_rfl)))
      have ZG := Aside0.mk (Q_ZG (hoff 12 (by kernel_rfl)))
      have RR := Aside0.mk (Q_RR (hoff 9 (by kernel_rfl)))
      have CA := Aside0.mk (Q_CA (hoff 9 (by kernel_rfl)))
      have FR := Aside0.mk Q_FR
      have c_ := blk_cell ZG.out 0
      refine value_ (w1 := w') (v := .slice A1 l.length c1) (by rfl) rfl ?_ ?_
      · go_simp
        (try simp only [i64_w])
        try rfl
      refine hK.out _ _ ⟨A2, c2, gx, A3, c3, m7_, m8_, m9_, (by rw [ha.out]; exact putSel_upk 4 hb_ rfl rfl rfl), Q_B5, Q_BX, Q_ZB, Q_ZG, Q_RR, Q_CA, Q_PR, Q_GX, fun h0_ _ => absurd ((hoff 9 (by kernel_rfl)).symm.trans h0_) (by decide), fun h0_ => absurd ((hoff 12 (by kernel_rfl)).symm.trans h0_) (by decide), Q_FR, Q_X7_, Q_X8_, fun h0_ => absurd ((hoff 9 (by kernel_rfl)).symm.trans h0_) (by decide)⟩
    refine steps_cons ?_ ?_
    · rintro b a w' ⟨A2, c2, gx, A3, c3, m7_, m8_, m9_, ha, Q_B5, Q_BX, Q_ZB, Q_ZG, Q_RR, Q_CA, Q_PR, Q_GX, Q_IR, Q_FIN, Q_FR, Q_X7_, Q_X8_, Q_X9_⟩ hb_ hon hoff
      refine ⟨_, rfl, fun K hK => ?_⟩
      have e6 : a.tmps[6]? = some (.int .i64 (i : Int)) := by rw [ha]; exact (putSel_off rfl).trans rfl
      replace ha := Aside0.mk ha
      have B5 := Aside0.mk (Q_B5 (hoff 9 (by kernel_rfl)))
      have BX := Aside0.mk Q_BX
      have ZB := Aside0.mk (Q_ZB (hoff 9 (by kernel_rfl)))
      have ZG := Aside0.mk (Q_ZG (hoff 12 (by kernel_rfl)))
      have RR := Aside0.mk (Q_RR (hoff 9 (by kernel_rfl)))
      have CA := Aside0.mk (Q_CA (hoff 9 (by kernel_rfl)))
      have FR := Aside0.mk Q_FR
      refine value_ (w1 := w') (v := .int .i64 (i : Int)) (by rfl) rfl ?_ ?_
      · go_simp
        (try simp only [i64_w])
        try rfl
      refine hK.out _ _ ⟨A2, c2, gx, A3, c3, m7_, m8_, m9_, (by rw [ha.out]; exact putSel_upk 5 hb_ rfl rfl rfl), Q_B5, Q_BX, Q_ZB, Q_ZG, Q_RR, Q_CA, Q_PR, Q_GX, fun h0_ _ => absurd ((hoff 9 (by kernel_rfl)).symm.trans h0_) (by decide), fun h0_ => absurd ((hoff 12 (by kernel_rfl)).symm.trans h0_) (by decide), Q_FR, Q_X7_, Q_X8_, fun h0_ => absurd ((hoff 9 (by kernel_rfl)).symm.trans h0_) (by decide)⟩
    refine steps_cons ?_ ?_
    · rintro b a w' ⟨A2, c2, gx, A3, c3, m7_, m8_, m9_, ha, Q_B5, Q_BX, Q_ZB, Q_ZG, Q_RR, Q_CA, Q_PR, Q_GX, Q_IR, Q_FIN, Q_FR, Q_X7_, Q_X8_, Q_X9_⟩ hb_ hon hoff
      refine ⟨_, rfl, fun K hK => ?_⟩
      have e3 : a.tmps[3]? = some (.pointer (some ⟨gb, 0, none⟩)) := by rw [ha]; exact (putSel_off rfl).trans rfl
      replace ha := Aside0.mk ha
      have B5 := Aside0.mk (Q_B5 (hoff 9 (by kernel_rfl)))
      have BX := Aside0.mk Q_BX
      have ZB := Aside0.mk (Q_ZB (hoff 9 (by kernel_rfl)))
      have ZG := Aside0.mk (Q_ZG (hoff 12 (by kernel_rfl)))
      have RR := Aside0.mk (Q_RR (hoff 9 (by kernel_rfl)))
      have CA := Aside0.mk (Q_CA (hoff 9 (by kernel_rfl)))
      have FR := Aside0.mk Q_FR
      have c0_ := blk_cell (ZB.out) 0
      have c1_ := blk_cell (ZB.out) 1
      have c2_ := blk_cell (ZB.out) 2
      have c3_ := blk_cell (ZB.out) 3
      have c4_ := blk_cell (ZB.out) 4
      have c5_ := blk_cell (ZB.out) 5
      have c6_ := blk_cell (ZB.out) 6
      have c7_ := blk_cell (ZB.out) 7
      refine value_ (w1 := w') (v := .agg #[.int .u64 x.f0, .int .u64 x.f1, .int .i64 x.f2, .int .i64 x.f3, .int .u64 x.f4, .bool x.f5, .int .i64 x.f6, .slice A x.f7.length c]) (by rfl) rfl ?_ ?_
      · go_simp
        (try simp only [i64_w])
        try rfl
      refine hK.out _ _ ⟨A2, c2, gx, A3, c3, m7_, m8_, m9_, (by rw [ha.out]; exact putSel_upk 6 hb_ rfl rfl rfl), Q_B5, Q_BX, Q_ZB, Q_ZG, Q_RR, Q_CA, fun h0_ _ => absurd ((hoff 7 (by kernel_rfl)).symm.trans h0_) (by decide), fun h0_ _ => absurd ((hoff 8 (by kernel_rfl)).symm.trans h0_) (by decide), fun h0_ _ => absurd ((hoff 9 (by kernel_rfl)).symm.trans h0_) (by decide), fun h0_ => absurd ((hoff 12 (by kernel_rfl)).symm.trans h0_) (by decide), Q_FR, fun h0_ => absurd ((hoff 7 (by kernel_rfl)).symm.trans h0_) (by decide), fun h0_ => absurd ((hoff 8 (by kernel_rfl)).symm.trans h0_) (by decide), fun h0_ => absurd ((hoff 9 (by kernel_rfl)).symm.trans h0_) (by decide)⟩
    refine steps_cons ?_ ?_
    · rintro b a w' ⟨A2, c2, gx, A3, c3, m7_, m8_, m9_, ha, Q_B5, Q_BX, Q_ZB, Q_ZG, Q_RR, Q_CA, Q_PR, Q_GX, Q_IR, Q_FIN, Q_FR, Q_X7_, Q_X8_, Q_X9_⟩ hb_ hon hoff
      refine ⟨_, rfl, fun K hK => ?_⟩
      have e29 : a.tmps[29]? = some (.agg #[.int .u64 x.f0, .int .u64 x.f1, .int .i64 x.f2, .int .i64 x.f3, .int .u64 x.f4, .bool x.f5, .int .i64 x.f6, .slice A x.f7.length c]) := by rw [ha]; exact putSel_on (e := (6, 29, .agg #[.int .u64 x.f0, .int .u64 x.f1, .int .i64 x.f2, .int .i64 x.f3, .int .u64 x.f4, .bool x.f5, .int .i64 x.f6, .slice A x.f7.length c])) 6 rfl rfl (hon 6 (by kernel_rfl)) rfl
      replace ha := Aside0.mk ha
      have B5 := Aside0.mk (Q_B5 (hoff 9 (by kernel_rfl)))
      have BX := Aside0.mk Q_BX
      have ZB := Aside0.mk (Q_ZB (hoff 9 (by kernel_rfl)))
      have ZG := Aside0.mk (Q_ZG (hoff 12 (by kernel_rfl)))
      have RR := Aside0.mk (Q_RR (hoff 9 (by kernel_rfl)))
      have CA := Aside0.mk (Q_CA (hoff 9 (by kernel_rfl)))
      have FR := Aside0.mk Q_FR
      refine goes_ Try.func31 (by kernel_rfl) rfl #[.agg #[.int .u64 x.f0, .int .u64 x.f1, .int .i64 x.f2, .int .i64 x.f3, .int .u64 x.f4, .bool x.f5, .int .i64 x.f6, .slice A x.f7.length c]] (by rfl) rfl rfl (by first | (simp only [List.map_toArray, List.map_cons, List.map_nil, Act.eval, Array.getD_eq_getD_getElem?, Option.getD_some, e29]; done) | (simp only [List.map_toArray, List.map_cons, List.map_nil, Act.eval, Array.getD_eq_getD_getElem?, Option.getD_some, e29]; rfl)) ?_
      with_reducible refine (HCP.out _ CA.out).mono ?_
      rintro e w2 ⟨A_, c_, rfl, hM_, hb⟩
      refine ⟨_, rfl, ?_⟩
      refine hK.out _ _ ⟨A_, c_, gx, A3, c3, (.agg #[.int .u64 x.f0, .int .u64 x.f1, .int .i64 x.f2, .int .i64 x.f3, .int .u64 x.f4, .bool x.f5, .int .i64 x.f6, .slice A_ x.f7.length c_]), m8_, m9_, (by rw [ha.out]; exact putSel_upk 7 hb_ rfl rfl rfl), fun _ => below_then B5.out B5.out.size hb, below_then BX.out (Nat.le_trans HG1.out.2.2.1 B5.out.size) hb, fun _ => blk_below ZB.out hb, fun _ => blk_below ZG.out hb, fun _ => Kd.R_below RR.out hb, fun _ => Kd.C_below CA.out hb, fun _ _ => Kd.R_mono (Kd.R_lower hM_ B5.out.size) (fun k hk => Nat.le_trans B5.out.size hk), fun h0_ _ => absurd ((hoff 8 (by kernel_rfl)).symm.trans h0_) (by decide), fun h0_ _ => absurd ((hoff 9 (by kernel_rfl)).symm.trans h0_) (by decide), fun h0_ => absurd ((hoff 12 (by kernel_rfl)).symm.trans h0_) (by decide), fun k h1_ h2_ h3_ => (hb.block k (Nat.lt_of_lt_of_le h1_ BX.out.size)).trans (FR.out k h1_ h2_ h3_), fun _ => rfl, fun h0_ => absurd ((hoff 8 (by kernel_rfl)).symm.trans h0_) (by decide), fun h0_ => absurd ((hoff 9 (by kernel_rfl)).symm.trans h0_) (by decide)⟩
    refine steps_cons ?_ ?_
    · rintro b a w' ⟨A2, c2, gx, A3, c3, m7_, m8_, m9_, ha, Q_B5, Q_BX, Q_ZB, Q_ZG, Q_RR, Q_CA, Q_PR, Q_GX, Q_IR, Q_FIN, Q_FR, Q_X7_, Q_X8_, Q_X9_⟩ hb_ hon hoff
      refine ⟨_, rfl, fun K hK => ?_⟩
      have e30 : a.tmps[30]? = some (m7_) := by rw [ha]; exact putSel_on (e := (7, 30, m7_)) 7 rfl rfl (hon 7 (by kernel_rfl)) rfl
      rw [Q_X7_ (hon 7 (by kernel_rfl))] at e30
      replace ha := Aside0.mk ha
      have B5 := Aside0.mk (Q_B5 (hoff 9 (by kernel_rfl)))
      have BX := Aside0.mk Q_BX
      have ZB := Aside0.mk (Q_ZB (hoff 9 (by kernel_rfl)))
      have ZG := Aside0.mk (Q_ZG (hoff 12 (by kernel_rfl)))
      have RR := Aside0.mk (Q_RR (hoff 9 (by kernel_rfl)))
      have CA := Aside0.mk (Q_CA (hoff 9 (by kernel_rfl)))
      have PR := Aside0.mk (Q_PR (hon 7 (by kernel_rfl)) (hoff 9 (by kernel_rfl)))
      have FR := Aside0.mk Q_FR
      refine value_ (w1 := w'.alloc (Obj.cells #[.int .u64 x.f0, .int .u64 x.f1, .int .i64 x.f2, .int .i64 x.f3, .int .u64 x.f4, .bool x.f5, .int .i64 x.f6, .slice A2 x.f7.length c2] 29)) (v := .slice (some ⟨w'.heap.size, 0, none⟩) 1 1) (by rfl) rfl (by first | (go_simp; done) | (go_simp; rfl)) ?_
      have hb := below_alloc (Below.refl w'.heap.size w') (Obj.cells #[.int .u64 x.f0, .int .u64 x.f1, .int .i64 x.f2, .int .i64 x.f3, .int .u64 x.f4, .bool x.f5, .int .i64 x.f6, .slice A2 x.f7.length c2] 29)
      refine hK.out _ _ ⟨A2, c2, w'.heap.size, A3, c3, m7_, (.slice (some ⟨w'.heap.size, 0, none⟩) 1 1), m9_, (by rw [ha.out]; exact putSel_upk 8 hb_ rfl rfl rfl), fun _ => below_then B5.out B5.out.size hb, below_then BX.out (Nat.le_trans HG1.out.2.2.1 B5.out.size) hb, fun _ => blk_below ZB.out hb, fun _ => blk_below ZG.out hb, fun _ => Kd.R_below RR.out hb, fun _ => Kd.C_below CA.out hb, fun _ _ => Kd.R_below PR.out hb, fun _ _ => ⟨heap_alloc_new w' _, B5.out.size⟩, fun h0_ _ => absurd ((hoff 9 (by kernel_rfl)).symm.trans h0_) (by decide), fun h0_ => absurd ((hoff 12 (by kernel_rfl)).symm.trans h0_) (by decide), fun k h1_ h2_ h3_ => (hb.block k (Nat.lt_of_lt_of_le h1_ BX.out.size)).trans (FR.out k h1_ h2_ h3_), Q_X7_, fun _ => rfl, fun h0_ => absurd ((hoff 9 (by kernel_rfl)).symm.trans h0_) (by decide)⟩
    refine steps_cons ?_ ?_
    · rintro b a w' ⟨A2, c2, gx, A3, c3, m7_, m8_, m9_, ha, Q_B5, Q_BX, Q_ZB, Q_ZG, Q_RR, Q_CA, Q_PR, Q_GX, Q_IR, Q_FIN, Q_FR, Q_X7_, Q_X8_, Q_X9_⟩ hb_ hon hoff
      refine ⟨_, rfl, fun K hK => ?_⟩
      have e27 : a.tmps[27]? = some (.slice A1 l.length c1) := by rw [ha]; exact putSel_on (e := (4, 27, .slice A1 l.length c1)) 4 rfl rfl (hon 4 (by kernel_rfl)) rfl
      have e28 : a.tmps[28]? = some (.int .i64 (i : Int)) := by rw [ha]; exact putSel_on (e := (5, 28, .int .i64 (i : Int))) 5 rfl rfl (hon 5 (by kernel_rfl)) rfl
      have e31 : a.tmps[31]? = some (m8_) := by rw [ha]; exact putSel_on (e := (8, 31, m8_)) 8 rfl rfl (hon 8 (by kernel_rfl)) rfl
      rw [Q_X8_ (hon 8 (by kernel_rfl))] at e31
      replace ha := Aside0.mk ha
      have B5 := Aside0.mk (Q_B5 hb_)
      have BX := Aside0.mk Q_BX
      have ZB := Aside0.mk (Q_ZB hb_)
      have ZG := Aside0.mk (Q_ZG (hoff 12 (by kernel_rfl)))
      have RR := Aside0.mk (Q_RR hb_)
      have CA := Aside0.mk (Q_CA hb_)
      have PR := Aside0.mk (Q_PR (hon 7 (by kernel_rfl)) hb_)
      have GX := Aside0.mk (Q_GX (hon 8 (by kernel_rfl)) hb_)
      have FR := Aside0.mk Q_FR
      refine goes_ Try.func30 (by kernel_rfl) rfl #[.slice A1 l.length c1, .int .i64 (i : Int), .slice (some ⟨gx, 0, none⟩) 1 1] (by rfl) rfl rfl (by first | (simp only [List.map_toArray, List.map_cons, List.map_nil, Act.eval, Array.getD_eq_getD_getElem?, Option.getD_some, e27, e28, e31]; done) | (simp only [List.map_toArray, List.map_cons, List.map_nil, Act.eval, Array.getD_eq_getD_getElem?, Option.getD_some, e27, e28, e31]; rfl)) ?_
      with_reducible refine (HIS.out _ _ _ _ B5.out.size RR.out PR.out GX.out).mono ?_
      rintro e w2 ⟨A_, c_, rfl, hI_, hg_, hw_⟩
      refine ⟨_, rfl, ?_⟩
      refine hK.out _ _ ⟨A2, c2, gx, A_, c_, m7_, m8_, (.slice A_ (putAt l i x).length c_), (by rw [ha.out]; exact putSel_upk 9 hb_ rfl rfl rfl), fun h0_ => absurd ((up_self b 9).symm.trans h0_) (by decide), pw_below_grown BX.out _ (Nat.le_trans HG1.out.2.2.1 B5.out.size) hg_ (fun k hk => Nat.le_trans HG1.out.1 (Nat.le_of_lt (RR.out.1 k hk))), fun h0_ => absurd ((up_self b 9).symm.trans h0_) (by decide), fun _ => blk_grown ZG.out hg_ (fun e_ => absurd (RR.out.1 g e_.symm) (Nat.lt_irrefl _)), fun h0_ => absurd ((up_self b 9).symm.trans h0_) (by decide), fun h0_ => absurd ((up_self b 9).symm.trans h0_) (by decide), fun _ h1_ => absurd ((up_self b 9).symm.trans h1_) (by decide), fun _ h1_ => absurd ((up_self b 9).symm.trans h1_) (by decide), fun _ _ => ⟨hI_, fun k hk => (hw_ k hk).elim (fun h => .inl (HR1.out.trans h)) (fun h => .inr (Nat.le_trans BX.out.size h))⟩, fun h0_ => absurd ((hoff 12 (by kernel_rfl)).symm.trans h0_) (by decide), fun k h1_ h2_ h3_ => (hg_.block k (Nat.lt_of_lt_of_le h1_ BX.out.size) (fun e_ => h3_ (e_.trans HR1.out.symm))).trans (FR.out k h1_ h2_ h3_), Q_X7_, Q_X8_, fun _ => rfl⟩
    refine steps_cons ?_ ?_
    · rintro b a w' ⟨A2, c2, gx, A3, c3, m7_, m8_, m9_, ha, Q_B5, Q_BX, Q_ZB, Q_ZG, Q_RR, Q_CA, Q_PR, Q_GX, Q_IR, Q_FIN, Q_FR, Q_X7_, Q_X8_, Q_X9_⟩ hb_ hon hoff
      refine ⟨_, rfl, fun K hK => ?_⟩
      have e23 : a.tmps[23]? = some (.pointer (some ⟨g, 0, none⟩)) := by rw [ha]; exact putSel_on (e := (0, 23, .pointer (some ⟨g, 0, none⟩))) 0 rfl rfl (hon 0 (by kernel_rfl)) rfl
      replace ha := Aside0.mk ha
      have BX := Aside0.mk Q_BX
      have ZG := Aside0.mk (Q_ZG (hoff 12 (by kernel_rfl)))
      have IR := Aside0.mk (Q_IR (hon 9 (by kernel_rfl)) (hoff 12 (by kernel_rfl)))
      have FR := Aside0.mk Q_FR
      refine value_ (w1 := w') (v := .pointer (some ⟨g, 0, none⟩)) (by rfl) rfl ?_ ?_
      · go_simp
        (try simp only [i64_w])
        try rfl
      refine hK.out _ _ ⟨A2, c2, gx, A3, c3, m7_, m8_, m9_, (by rw [ha.out]; exact putSel_upk 10 hb_ rfl rfl rfl), fun h0_ => absurd ((hon 9 (by kernel_rfl)).symm.trans h0_) (by decide), Q_BX, fun h0_ => absurd ((hon 9 (by kernel_rfl)).symm.trans h0_) (by decide), Q_ZG, fun h0_ => absurd ((hon 9 (by kernel_rfl)).symm.trans h0_) (by decide), fun h0_ => absurd ((hon 9 (by kernel_rfl)).symm.trans h0_) (by decide), fun _ h1_ => absurd ((hon 9 (by kernel_rfl)).symm.trans h1_) (by decide), fun _ h1_ => absurd ((hon 9 (by kernel_rfl)).symm.trans h1_) (by decide), Q_IR, fun h0_ => absurd ((hoff 12 (by kernel_rfl)).symm.trans h0_) (by decide), Q_FR, Q_X7_, Q_X8_, Q_X9_⟩
    refine steps_cons ?_ ?_
    · rintro b a w' ⟨A2, c2, gx, A3, c3, m7_, m8_, m9_, ha, Q_B5, Q_BX, Q_ZB, Q_ZG, Q_RR, Q_CA, Q_PR, Q_GX, Q_IR, Q_FIN, Q_FR, Q_X7_, Q_X8_, Q_X9_⟩ hb_ hon hoff
      refine ⟨_, rfl, fun K hK => ?_⟩
      have e33 : a.tmps[33]? = some (.pointer (some ⟨g, 0, none⟩)) := by rw [ha]; exact putSel_on (e := (10, 33, .pointer (some ⟨g, 0, none⟩))) 10 rfl rfl (hon 10 (by kernel_rfl)) rfl
      replace ha := Aside0.mk ha
      have BX := Aside0.mk Q_BX
      have ZG := Aside0.mk (Q_ZG (hoff 12 (by kernel_rfl)))
      have IR := Aside0.mk (Q_IR (hon 9 (by kernel_rfl)) (hoff 12 (by kernel_rfl)))
      have FR := Aside0.mk Q_FR
      refine value_ (w1 := w') (v := .pointer (some ⟨g, 0, none⟩)) (by rfl) rfl ?_ ?_
      · go_simp
        (try simp only [i64_w])
        try rfl
      refine hK.out _ _ ⟨A2, c2, gx, A3, c3, m7_, m8_, m9_, (by rw [ha.out]; exact putSel_upk 11 hb_ rfl rfl rfl), fun h0_ => absurd ((hon 9 (by kernel_rfl)).symm.trans h0_) (by decide), Q_BX, fun h0_ => absurd ((hon 9 (by kernel_rfl)).symm.trans h0_) (by decide), Q_ZG, fun h0_ => absurd ((hon 9 (by kernel_rfl)).symm.trans h0_) (by decide), fun h0_ => absurd ((hon 9 (by kernel_rfl)).symm.trans h0_) (by decide), fun _ h1_ => absurd ((hon 9 (by kernel_rfl)).symm.trans h1_) (by decide), fun _ h1_ => absurd ((hon 9 (by kernel_rfl)).symm.trans h1_) (by decide), Q_IR, fun h0_ => absurd ((hoff 12 (by kernel_rfl)).symm.trans h0_) (by decide), Q_FR, Q_X7_, Q_X8_, Q_X9_⟩
    refine steps_cons ?_ ?_
    · rintro b a w' ⟨A2, c2, gx, A3, c3, m7_, m8_, m9_, ha, Q_B5, Q_BX, Q_ZB, Q_ZG, Q_RR, Q_CA, Q_PR, Q_GX, Q_IR, Q_FIN, Q_FR, Q_X7_, Q_X8_, Q_X9_⟩ hb_ hon hoff
      refine ⟨_, rfl, fun K hK => ?_⟩
      have e34 : a.tmps[34]? = some (.pointer (some ⟨g, 0, none⟩)) := by rw [ha]; exact putSel_on (e := (11, 34, .pointer (some ⟨g, 0, none⟩))) 11 rfl rfl (hon 11 (by kernel_rfl)) rfl
      have e32 : a.tmps[32]? = some (m9_) := by rw [ha]; exact putSel_on (e := (9, 32, m9_)) 9 rfl rfl (hon 9 (by kernel_rfl)) rfl
      rw [Q_X9_ (hon 9 (by kernel_rfl))] at e32
      replace ha := Aside0.mk ha
      have BX := Aside0.mk Q_BX
      have ZG := Aside0.mk (Q_ZG hb_)
      have IR := Aside0.mk (Q_IR (hon 9 (by kernel_rfl)) hb_)
      have FR := Aside0.mk Q_FR
      have c_ := blk_cell ZG.out 0
      have fr_ := blk_frozen ZG.out 0
      refine skip_ (w1 := ?_) (by rfl) rfl ?_ ?_
      rotate_left
      · go_simp
        rfl
      refine hK.out _ _ ⟨A2, c2, gx, A3, c3, m7_, m8_, m9_, (by rw [ha.out]; exact putSel_none (v := undef) rfl), fun h0_ => absurd ((hon 9 (by kernel_rfl)).symm.trans h0_) (by decide), BX.out.setCell (p := ⟨g, 0, none⟩) HG1.out.1 _, fun h0_ => absurd ((hon 9 (by kernel_rfl)).symm.trans h0_) (by decide), fun h0_ => absurd ((up_self b 12).symm.trans h0_) (by decide), fun h0_ => absurd ((hon 9 (by kernel_rfl)).symm.trans h0_) (by decide), fun h0_ => absurd ((hon 9 (by kernel_rfl)).symm.trans h0_) (by decide), fun _ h1_ => absurd ((hon 9 (by kernel_rfl)).symm.trans h1_) (by decide), fun _ h1_ => absurd ((hon 9 (by kernel_rfl)).symm.trans h1_) (by decide), fun _ h1_ => absurd ((up_self b 12).symm.trans h1_) (by decide), fun _ => ⟨_, ⟨A3, c3, blk_put ZG.out 0 _ (by rw [HPLN.out]; rfl), Kd.R_far (p := ⟨g, 0, none⟩) IR.out.1 (fun k hk => Nat.ne_of_gt hk) _, HG1.out.1, rfl⟩, IR.out.2⟩, fun k h1_ h2_ h3_ => (Below.heap_setCell _ ⟨g, 0, none⟩ _ k h2_).trans (FR.out k h1_ h2_ h3_), Q_X7_, Q_X8_, Q_X9_⟩
    exact steps_nil
  rintro b a w9 hall ⟨A2, c2, gx, A3, c3, m7_, m8_, m9_, ha, Q_B5, Q_BX, Q_ZB, Q_ZG, Q_RR, Q_CA, Q_PR, Q_GX, Q_IR, Q_FIN, Q_FR, Q_X7_, Q_X8_, Q_X9_⟩
  clear B5 BX CA FR RR ZB ZG
  have hb0_ := hall 0 (by kernel_rfl)
  have hb1_ := hall 1 (by kernel_rfl)
  have hb2_ := hall 2 (by kernel_rfl)
  have hb3_ := hall 3 (by kernel_rfl)
  have hb4_ := hall 4 (by kernel_rfl)
  have hb5_ := hall 5 (by kernel_rfl)
  have hb6_ := hall 6 (by kernel_rfl)
  have hb7_ := hall 7 (by kernel_rfl)
  have hb8_ := hall 8 (by kernel_rfl)
  have hb9_ := hall 9 (by kernel_rfl)
  have hb10_ := hall 10 (by kernel_rfl)
  have hb11_ := hall 11 (by kernel_rfl)
  have hb12_ := hall 12 (by kernel_rfl)
  subst ha
  obtain rfl := Q_X7_ hb7_
  obtain rfl := Q_X8_ hb8_
  obtain rfl := Q_X9_ hb9_
  simp only [putSel, hb0_, hb1_, hb2_, hb3_, hb4_, hb5_, hb6_, hb7_, hb8_, hb9_, hb10_, hb11_, hb12_, if_true, Act.put, List.setIfInBounds_toArray, List.set_cons_zero, List.set_cons_succ]
  clear Q_B5
  have BX := Aside0.mk Q_BX
  clear Q_BX
  clear Q_ZB
  clear Q_ZG
  clear Q_RR
  clear Q_CA
  clear Q_PR
  clear Q_GX
  clear Q_IR
  have FIN := Aside0.mk (Q_FIN hb12_)
  clear Q_FIN
  have FR := Aside0.mk Q_FR
  clear Q_FR
  clear hall hb0_ hb1_ hb2_ hb3_ hb4_ hb5_ hb6_ hb7_ hb8_ hb9_ hb10_ hb11_ hb12_
  go_wp2_with fail
  go_ret
  exact ⟨rfl, ⟨FIN.out, FR.out⟩, BX.out⟩
theorem put_end {W : World} {base g : Nat} {l : List R0} (h : IX W base g l) (x : R0) (A : Option Addr) (c : Nat) (hC : Kd.C (Kd.int .i64) W A x.f7.length x.f7) (hp : x.f7.length ≤ 1000) (hm : mayB x = true) (hr : Rising keyR l) (hn : l.length ≤ 1000) (hlow : low keyR l x.f0 = l.length) (hk : hasKey keyR l x.f0 = false) :
    Calls Try.prog 17 #[.pointer (some ⟨g, 0, none⟩), ragg x A c] W fun e w' => e = .returned (.int .i64 0) ∧ IX w' base g (l ++ [x]) ∧ Below base W w' := by
  have e : putAt l l.length x = l ++ [x] := by unfold putAt; rw [List.take_length, List.drop_length]
  obtain ⟨r, hr2⟩ := h.r
  have h2 := put_any hr2 x A c hC hp hm hr hn hlow hk
  rw [e] at h2
  exact h2.mono (fun e w' ⟨h1, ⟨⟨r', h3, _⟩, _⟩, h4⟩ => ⟨h1, h3.ix, h4⟩)
end Go.Proofs.Ytaepbgieahedjaa.QS
namespace Go.Proofs.Ytaepbgieahedjaa.QS
set_option linter.unusedVariables false
set_option linter.unusedSimpArgs false
open Go.RowKit Go.Proofs.Ytaepbgieahedjaa.Hp Go.Proofs.YtaepbgieahedjaaW.PrintWords Go.Proofs.YtaepbgieahedjaaW.PrintLast Go.Proofs.YtaepbgieahedjaaW.PrintMore
open Go.Proofs.Ytaepbgieahedjaa.IP
set_option maxHeartbeats 4000000 in
set_option maxRecDepth 100000 in
theorem put_no {W : World} {base g : Nat} {l : List R0} (h : IX W base g l) (x : R0) (A : Option Addr) (c : Nat) (hC : Kd.C (Kd.int .i64) W A x.f7.length x.f7) (hp : x.f7.length ≤ 1000) (hr : Rising keyR l) (hn : l.length ≤ 1000) (hk : mayB x = true → hasKey keyR l x.f0 = true) :
    Calls Try.prog 17 #[.pointer (some ⟨g, 0, none⟩), ragg x A c] W fun e w' => e = .returned (.int .i64 (if mayB x = true then 15 else 3)) ∧ Below W.heap.size W w' := by
  have hz := heap_alloc_new W (.cells #[.int .u64 x.f0, .int .u64 x.f1, .int .i64 x.f2, .int .i64 x.f3, .int .u64 x.f4, .bool x.f5, .int .i64 x.f6, .slice A x.f7.length c] 29)
  have hb := below_alloc (Below.refl W.heap.size W) (.cells #[.int .u64 x.f0, .int .u64 x.f1, .int .i64 x.f2, .int .i64 x.f3, .int .u64 x.f4, .bool x.f5, .int .i64 x.f6, .slice A x.f7.length c] 29)
  obtain ⟨gb, hgb⟩ : ∃ g, g = W.heap.size := ⟨_, rfl⟩
  have HX1 := Aside0.mk (h.below hb)
  have HC1 := Aside0.mk (Kd.C_below hC hb)
  have HIN := Aside0.mk (And.intro hp (And.intro hr hn))
  have HK := Aside0.mk hk
  unfold ragg
  obtain ⟨rv, hrv⟩ : ∃ rv : Int, rv = if mayB x = true then 15 else 3 := ⟨_, rfl⟩
  rw [← hrv]
  have HRV := Aside0.mk hrv
  clear h hC hp hr hn hk hrv
  go_enter Try.func17, Try.ntmps17
  go_upto_region 1 with fail
  generalize W.alloc (.cells #[.int .u64 x.f0, .int .u64 x.f1, .int .i64 x.f2, .int .i64 x.f3, .int .u64 x.f4, .bool x.f5, .int .i64 x.f6, .slice A x.f7.length c] 29) = W1 at hz hb HX1 HC1 ⊢
  rw [← hgb] at hz ⊢
  have HCK := Aside0.mk (check_calls x A c W1 (by have := HIN.out.1; omega) HC1.out)
  unfold chk at HCK
  unfold ragg at HCK
  have HZ := Aside0.mk hz
  have HB := Aside0.mk hb
  have c0 := blk_cell hz 0
  have c1 := blk_cell hz 1
  have c2 := blk_cell hz 2
  have c3 := blk_cell hz 3
  have c4 := blk_cell hz 4
  have c5 := blk_cell hz 5
  have c6 := blk_cell hz 6
  have c7 := blk_cell hz 7
  clear hz hb hgb
  cases hm : mayB x with
  | false =>
    rw [hm] at HCK
    replace HCK := Aside0.mk HCK.out
    have HE : Aside0 (rv = 3) := ⟨by rw [HRV.out, hm]; rfl⟩
    clear hm
    go_wp2_with (go_at_call 29; refine HCK.out.mono ?_; rintro e w2 ⟨rfl, hb⟩; have HB2 := Aside0.mk (below_then HB.out HB.out.size hb); clear hb c0 c1 c2 c3 c4 c5 c6 c7)
    go_ret
    exact ⟨by rw [HE.out]; rfl, HB2.out⟩
  | true =>
    have hkk := HK.out hm
    rw [hm, if_pos rfl] at HCK
    have HE : Aside0 (rv = 15) := ⟨by rw [HRV.out, hm]; rfl⟩
    clear hm
    go_upto_region 6 with (go_at_call 29; refine HCK.out.mono ?_; rintro e w2 ⟨rfl, hb⟩; have HB2 := Aside0.mk (below_then HB.out HB.out.size hb); have HZ2 := Aside0.mk (blk_below HZ.out hb); have HX2 := Aside0.mk (HX1.out.below hb); clear hb c0 c1 c2 c3 c4 c5 c6 c7)
    have HPL := Aside0.mk (place_calls HX2.out HIN.out.2.1 (by have := HIN.out.2.2; omega) x.f0)
    rw [hkk] at HPL
    have c0 := blk_cell HZ2.out 0
    clear HX1 HC1 HCK HZ HB hkk
    go_wp2_with (go_at_call 27; refine HPL.out.mono ?_; rintro e w5 ⟨rfl, hb⟩; have HB5 := Aside0.mk (below_then HB2.out HB2.out.size hb); clear hb c0)
    go_ret
    exact ⟨by rw [HE.out]; rfl, HB5.out⟩
theorem zc_eq : (Builtin.zeroCells zrec.cells 1).toList = [.int .u64 0, .int .u64 0, .int .i64 0, .int .i64 0, .int .u64 0, .bool false, .int .i64 0, .slice none 0 0] := by kernel_rfl
theorem zc_len : (Builtin.zeroCells zrec.cells 1).toList.length = 8 := by rw [zc_eq]; rfl
theorem clear_rec {W : World} {g n c : Nat} {cur : Array Value} (hg : W.heap[g]? = some (.cells cur 29 (0, 0))) (hc : (n + 1) * 8 ≤ cur.size) : ∀ ty, (Builtin.clear_ #[22] ty #[.slice (some ⟨g, n * 8, none⟩) 1 c]).run Try.prog W = .ok (.tuple #[]) (W.setRow g (cur.toList.take (n * 8) ++ (Builtin.zeroCells zrec.cells 1).toList ++ cur.toList.drop (n * 8 + 8)).toArray) := by
  intro ty
  have hst := run_storeCells_at Try.prog g (n * 8) 29 (Builtin.zeroCells zrec.cells 1).toList 0 cur W hg (by rw [zc_len]; omega) (by
    intro v hv
    rw [zc_eq] at hv
    simp only [List.mem_cons, List.not_mem_nil, or_false] at hv
    rcases hv with rfl | rfl | rfl | rfl | rfl | rfl | rfl | rfl <;> rfl)
  simp only [Nat.add_zero, zc_len] at hst
  unfold zrec at hst ⊢
  simp [Builtin.clear_, run_underlying Try.underlying22, show ∀ w, (zeroValue 29).run Try.prog w = .ok (.agg #[.int .u64 0, .int .u64 0, .int .i64 0, .int .i64 0, .int .u64 0, .bool false, .int .i64 0, .slice none 0 0]) w from fun w => by kernel_rfl, hst]
end Go.Proofs.Ytaepbgieahedjaa.QS
namespace Go.Proofs.Ytaepbgieahedjaa.QS
set_option linter.unusedVariables false
set_option linter.unusedSimpArgs false
open Go.RowKit Go.Proofs.Ytaepbgieahedjaa.Hp Go.Proofs.YtaepbgieahedjaaW.PrintWords Go.Proofs.YtaepbgieahedjaaW.PrintLast Go.Proofs.YtaepbgieahedjaaW.PrintMore
open Go.Proofs.Ytaepbgieahedjaa.IP
section
variable {P : Program} {ops : Array Oper} {rest : List Oper} {Q : Exit → Act → World → Prop}
theorem app_stepW {o : Oper} {a : Act} {w w' : World} {K : Act → World → Prop} {E : Prop} (hgd : o.guard = none) (s x : Operand) (t : TypeId)
    (ho : o.op = .call { callee := .builtin .append, args := #[s, x], argTypes := #[t, t] }) {v xv v' : Value} (hs : a.eval s = v) (hx : a.eval x = xv)
    (hr : (Builtin.append_ #[t, t] o.type #[v, xv]).run P w = .ok v' w') (hK : K (a.put o.dst v') w') : if Region.wanted o (yielded ops a.tmps) = true then Oper.wp P o a w K Q else E := by
  have hw : Region.wanted o (yielded ops a.tmps) = true := by simp [Region.wanted, hgd]
  rw [if_pos hw]
  unfold Oper.wp execOp
  simp only [ho, resolve, invoke, builtin, Sem.run_bind, Sem.run_pure, Result.andThen_ok, List.map_toArray, List.map_cons, List.map_nil, hs, hx, hr]
  exact hK
end
theorem dropAt_map {α β : Type} (f : α → β) (l : List α) (i : Nat) : (dropAt l i).map f = dropAt (l.map f) i := by
  unfold dropAt
  rw [List.map_append, List.map_take, List.map_drop]
theorem mem_dropAt {α : Type} {l : List α} {i : Nat} {y : α} (h : y ∈ dropAt l i) : y ∈ l := by
  unfold dropAt at h
  rcases List.mem_append.1 h with h | h
  · exact List.mem_of_mem_take h
  · exact List.mem_of_mem_drop h
theorem dropAt_length {α : Type} {l : List α} {i : Nat} (hi : i < l.length) : (dropAt l i).length = l.length - 1 := by
  unfold dropAt
  rw [List.length_append, List.length_take, List.length_drop]
  omega
theorem encs_dropAt (ps : List Rec) (i : Nat) : (dropAt ps i).flatMap Rec.enc = (ps.flatMap Rec.enc).take (i * 8) ++ (ps.flatMap Rec.enc).drop ((i + 1) * 8) := by
  unfold dropAt
  rw [encs_append, encs_take, encs_drop]
set_option maxHeartbeats 8000000 in
set_option maxRecDepth 100000 in
theorem delete_calls {W : World} {base i : Nat} {l : List R0} {A : Option Addr} {c : Nat} {ok : Nat → Prop} (hR : k29.R 29 W base ok (.slice A l.length c) l) (hn : l.length ≤ 100000) (hi : i < l.length) :
    Calls Try.prog 28 #[.slice A l.length c, .int .i64 (i : Int), .int .i64 ((i : Int) + 1)] W fun e w' => InsTo W w' e base ok (Value.slice A l.length c).ownBlock (dropAt l i) := by
  obtain ⟨ps, hps, ho, hmade⟩ := rows_of_R hR
  have hlen : ps.length = l.length := by rw [← hps, List.length_map]
  obtain ⟨hxs, ⟨hv, hn0⟩ | ⟨g, c', cur, hv, hgb, hz, hnc, hcm, hcs, htk⟩⟩ := ho
  · omega
  injection hv with e1 e2 e3
  clear e2
  subst e1 e3
  have hokg : ok g := hR.1 g rfl
  obtain ⟨xs, hxse⟩ : ∃ xs, xs = (ps.map recOf).flatMap Rec.enc := ⟨_, rfl⟩
  rw [← hxse] at htk hxs
  have hxl : xs.length = l.length * 8 := by rw [hxs, hlen]
  have htk' : cur.toList.take xs.length = xs := by rw [hxs]; exact htk
  have hcl : cur.toList.length = c * 8 := by rw [Array.length_toList]; exact hcs
  have h1xs : ∀ v ∈ xs, v.oneCell' = true := by rw [hxse]; exact encs_one _
  have hxc : ∀ j v, xs[j]? = some v → cur[j]? = some v := fun j v hj => by
    have hlt := (List.getElem?_eq_some_iff.1 hj).1
    have h := hj
    rw [← htk', List.getElem?_take, if_pos hlt] at h
    rw [← Array.getElem?_toList]
    exact h
  have hdl : (xs.drop ((i + 1) * 8)).length = (l.length - (i + 1)) * 8 := by rw [List.length_drop]; omega
  obtain ⟨cur1, hcur1⟩ : ∃ c1, c1 = cur.toList.take (i * 8) ++ xs.drop ((i + 1) * 8) ++ cur.toList.drop (i * 8 + (xs.drop ((i + 1) * 8)).length) := ⟨_, rfl⟩
  have hc1l : cur1.length = c * 8 := by
    rw [hcur1, List.length_append, List.length_append, List.length_take, hdl, List.length_drop, hcl]
    omega
  have hc1t : cur1.take ((l.length - 1) * 8) = xs.take (i * 8) ++ xs.drop ((i + 1) * 8) := by
    rw [hcur1, List.take_left' (by rw [List.length_append, List.length_take, hdl, hcl]; omega)]
    congr 1
    rw [← htk', List.take_take, Nat.min_eq_left (by omega)]
  obtain ⟨cur2, hcur2⟩ : ∃ c1, c1 = cur1.take ((l.length - 1) * 8) ++ (Builtin.zeroCells zrec.cells 1).toList ++ cur1.drop ((l.length - 1) * 8 + 8) := ⟨_, rfl⟩
  have hc2l : cur2.length = c * 8 := by
    rw [hcur2, List.length_append, List.length_append, List.length_take, List.length_drop, zc_len, hc1l]
    omega
  have hc2t : cur2.take ((l.length - 1) * 8) = xs.take (i * 8) ++ xs.drop ((i + 1) * 8) := by
    rw [hcur2, List.append_assoc, List.take_left' (by rw [List.length_take]; omega), hc1t]
  obtain ⟨i0, hi0, hzz⟩ := Option.map_eq_some_iff.1 inf_rec
  simp only [Prod.mk.injEq] at hzz
  have happ : ∀ ty (A2 : Option Addr) (c2 : Nat), A2 = (if c = i + 1 then some ⟨g, 0, none⟩ else some ⟨g, (i + 1) * 8, none⟩) → (Builtin.append_ #[22, 22] ty #[.slice (some ⟨g, 0, none⟩) i c, .slice A2 (l.length - (i + 1)) c2]).run Try.prog W.drew = .ok (.slice (some ⟨g, 0, none⟩) (l.length - 1) c) (W.drew.setRow g cur1.toArray) := fun ty A2 c2 hA2 => by
    have hA : ∃ ad : Addr, A2 = some ad ∧ (∀ j u, (xs.drop ((i + 1) * 8))[j]? = some u → W.drew.cell? (ad.add j) = some u) := by
      by_cases h : c = i + 1
      · rw [if_pos h] at hA2
        refine ⟨_, hA2, fun j u hj => ?_⟩
        have := (List.getElem?_eq_some_iff.1 hj).1
        omega
      · rw [if_neg h] at hA2
        refine ⟨_, hA2, fun j u hj => ?_⟩
        rw [List.getElem?_drop] at hj
        rw [add_at]
        show W.cell? ⟨g, (i + 1) * 8 + j, none⟩ = some u
        rw [blk_cell hz]
        exact hxc _ u hj
    obtain ⟨ad, rfl, hsrc⟩ := hA
    have k := run_append_room (P := Try.prog) W.drew 22 ty 29 i0 Try.underlying22 hi0 g i c cur hz ad (l.length - (i + 1)) c2 (xs.drop ((i + 1) * 8)) (by rw [hdl, hzz.2.1]) hsrc (fun v hv => h1xs v (List.mem_of_mem_drop hv)) (by omega) (by rw [hzz.2.1, hdl]; omega)
    rw [k, hzz.2.1, hcur1]
    congr 2
    omega
  have hclr : ∀ W1 : World, W1.heap[g]? = some (.cells cur1.toArray 29 (0, 0)) → ∀ ty c2, (Builtin.clear_ #[22] ty #[.slice (some ⟨g, (l.length - 1) * 8, none⟩) 1 c2]).run Try.prog W1 = .ok (.tuple #[]) (W1.setRow g cur2.toArray) := fun W1 h ty c2 => by
    rw [clear_rec (n := l.length - 1) (c := c2) h (by rw [List.size_toArray]; omega) ty, hcur2]
  have FIN : Aside0 (∀ w1 w2 : World, w1 = W.drew.setRow g cur1.toArray → w2 = w1.setRow g cur2.toArray → InsTo W w2 (.returned (.slice (some ⟨g, 0, none⟩) (l.length - 1) c)) base ok (some g) (dropAt l i)) := ⟨fun w1 w2 e1 e2 => by
    have hz1 : w1.heap[g]? = some (.cells cur1.toArray 29 (0, 0)) := by rw [e1]; exact setRow_heap W.drew g cur cur1.toArray _ _ hz
    have hz2 : w2.heap[g]? = some (.cells cur2.toArray 29 (0, 0)) := by rw [e2]; exact setRow_heap w1 g cur1.toArray cur2.toArray _ _ hz1
    have hgr : W.grownBy w2 (some g) := by
      rw [e2, e1]
      exact grownBy_row (grownBy_row (⟨rfl, rfl, rfl, Nat.le_refl _, fun _ _ _ => rfl⟩ : W.grownBy W.drew (some g)) _) _
    have hmv : ∀ k, (ok k ∧ k ≠ g) → k < W.heap.size → w2.heap[k]? = W.heap[k]? := fun k hk hlt => hgr.block k hlt (fun e => hk.2 (Option.some.inj e))
    have hne : ∀ k, (ok k ∧ some k ≠ (Value.slice (some (⟨g, 0, none⟩ : Addr)) l.length c).ownBlock) → (ok k ∧ k ≠ g) := fun k hk => ⟨hk.1, fun e => hk.2 (by rw [e]; rfl)⟩
    have hpl : (dropAt l i).length = l.length - 1 := dropAt_length hi
    have hpp : (dropAt ps i).length = l.length - 1 := by rw [dropAt_length (by omega), hlen]
    have e : dropAt l i = (dropAt ps i).map (·.1) := by rw [dropAt_map, hps]
    refine ⟨some ⟨g, 0, none⟩, c, by rw [hpl], ?_, hgr, fun k hk => .inl hk⟩
    have hR2 := R_of_rows (W := w2) (base := base) (ok := ok) (v := .slice (some ⟨g, 0, none⟩) (dropAt l i).length c) (ps := dropAt ps i) (fun k hk => by
      have hk' : g = k := by simpa [Value.ownBlock] using hk
      rwa [← hk']) ?_ ?_
    · rwa [← e] at hR2
    · have hL : ((dropAt ps i).map recOf).flatMap Rec.enc = xs.take (i * 8) ++ xs.drop ((i + 1) * 8) := by
        rw [dropAt_map, encs_dropAt, hxse]
      refine ⟨by rw [encs_len, List.length_map], .inr ⟨g, c, cur2.toArray, ?_, hgb, hz2, ?_, hcm, ?_, ?_⟩⟩
      · rw [hpp, hpl]
      · rw [hpp]; omega
      · rw [List.size_toArray]; exact hc2l
      · rw [hL, hpp]; exact hc2t
    · intro p hp
      exact Kd.R_mono (Kd.R_step (Kd.R_mono (hmade p (mem_dropAt hp)) hne) hmv) (fun k hk => ⟨hk.1, fun h => hk.2 (by simpa [Value.ownBlock] using h)⟩)⟩
  have hs2 := fun W => slice_to (some ⟨g, 0, none⟩) l.length c i (by omega) W
  have a1 : IntKind.i64.wrap ((i : Int) + 1) = (i : Int) + 1 := by rw [IntKind.wrap_i64]; omega
  have t1 : ((i : Int) == (i : Int) + 1) = false := beq_eq_false_iff_ne.2 (by omega)
  have hkel : Try.prog.elem 22 = 29 := by simp [Program.elem, Try.underlying22]
  have huel : Try.prog.underlying 22 = some (.slice (Try.prog.elem 22)) := by rw [hkel]; exact Try.underlying22
  have hs1 : ∃ V1, ∀ W, (Instr.slice 22 (.slice (some ⟨g, 0, none⟩) l.length c) (some (.int .i64 (i : Int))) (some (.int .i64 ((i : Int) + 1))) (some (.int .i64 (l.length : Int)))).run Try.prog W = .ok V1 W := ⟨_, fun W => by
    rw [run_slice_lhm W 22 (some ⟨g, 0, none⟩) l.length c huel .i64 .i64 .i64 (i : Int) ((i : Int) + 1) (l.length : Int) (by omega) (by omega) (by omega) (by omega), hkel]
    simp [sizeOf, typeInfo, hi0, sliced, Result.andThen]
    rfl⟩
  obtain ⟨V1, hs1⟩ := hs1
  have hs3 : ∀ W, (Instr.slice 22 (.slice (some ⟨g, 0, none⟩) (l.length - 1) c) (some (.int .i64 ((l.length - 1 : Nat) : Int))) (some (.int .i64 (l.length : Int))) none).run Try.prog W = .ok (.slice (some ⟨g, (l.length - 1) * 8, none⟩) 1 (c - (l.length - 1))) W := fun W => by
    rw [run_slice_lh W 22 (some ⟨g, 0, none⟩) (l.length - 1) c huel .i64 .i64 ((l.length - 1 : Nat) : Int) (l.length : Int) (by omega) (by omega) (by omega), hkel]
    simp [sizeOf, typeInfo, hi0, hzz.2.1, sliced, Result.andThen]
    rw [if_neg (by omega), add_at]
    exact ⟨by simp, by omega⟩
  have HA := Aside0.mk happ
  have HC := Aside0.mk hclr
  have HZ := Aside0.mk hz
  have b1 : (0 : Int) ≤ (i : Int) + 1 := by omega
  have b2 : i ≤ l.length := by omega
  have b3 : i ≤ c := by omega
  have b4 : (i : Int) + 1 ≤ (l.length : Int) := by omega
  have b5 : i + 1 ≤ l.length := by omega
  have b6 : i < l.length := hi
  clear huel hkel hR hz happ hclr hmade hps hlen hcl hcs hcm hgb hokg hxc h1xs hdl hcur1 hc1l hc1t hcur2 hc2l hc2t hi0 hzz htk htk' hxl hxs hxse
  rcases Decidable.em (c = i + 1) with rfl | hb
  · go_enter Try.func28, Try.ntmps28
    go_upto_region 5 with fail
    go_region_law (refine app_stepW rfl _ _ 22 rfl (v := .slice (some ⟨g, 0, none⟩) i (i + 1)) (xv := .slice (some ⟨g, 0, none⟩) (l.length - (i + 1)) 0) (by simp [Act.eval, Act.put]) (by simp [Act.eval, Act.put]) (HA.out _ _ _ (by rw [if_pos rfl])) ?_)
    obtain ⟨W1, hW1⟩ : ∃ W1, W1 = W.drew.setRow g cur1.toArray := ⟨_, rfl⟩
    rw [← hW1]
    have HCL := HC.out W1 (by rw [hW1]; exact setRow_heap W.drew g cur cur1.toArray _ _ HZ.out)
    have HW1 := Aside0.mk hW1
    clear hW1 t1 a1 b1 b2 b3 b4 b5 b6
    go_wp2_with fail
    go_ret
    exact FIN.out _ _ HW1.out rfl
  · go_enter Try.func28, Try.ntmps28
    go_upto_region 5 with fail
    go_region_law (refine app_stepW rfl _ _ 22 rfl (v := .slice (some ⟨g, 0, none⟩) i c) (xv := .slice (some ⟨g, (i + 1) * 8, none⟩) (l.length - (i + 1)) (c - (i + 1))) (by simp [Act.eval, Act.put]) (by simp [Act.eval, Act.put]) (HA.out _ _ _ (by rw [if_neg hb])) ?_)
    obtain ⟨W1, hW1⟩ : ∃ W1, W1 = W.drew.setRow g cur1.toArray := ⟨_, rfl⟩
    rw [← hW1]
    have HCL := HC.out W1 (by rw [hW1]; exact setRow_heap W.drew g cur cur1.toArray _ _ HZ.out)
    have HW1 := Aside0.mk hW1
    clear hW1 t1 a1 b1 b2 b3 b4 b5 b6
    go_wp2_with fail
    go_ret
    exact FIN.out _ _ HW1.out rfl
end Go.Proofs.Ytaepbgieahedjaa.QS
namespace Go.Proofs.Ytaepbgieahedjaa.QS
set_option linter.unusedVariables false
set_option linter.unusedSimpArgs false
open Go.RowKit Go.Proofs.Ytaepbgieahedjaa.Hp Go.Proofs.YtaepbgieahedjaaW.PrintWords Go.Proofs.YtaepbgieahedjaaW.PrintLast Go.Proofs.YtaepbgieahedjaaW.PrintMore
open Go.Proofs.Ytaepbgieahedjaa.IP
theorem fill8 {g N : Nat} {w0 W : World} (x : R0) (A : Option Addr) (c : Nat) (hz : W.heap[g]? = some (.cells #[.int .u64 0, .int .u64 0, .int .i64 0, .int .i64 0, .int .u64 0, .bool false, .int .i64 0, .slice none 0 0] 29 (0, 0))) (hN : N ≤ g) (hb : Below N w0 W) :
    Below N w0 ((((((((W.setCell ⟨g, 0, none⟩ (.int .u64 x.f0)).setCell ⟨g, 1, none⟩ (.int .u64 x.f1)).setCell ⟨g, 2, none⟩ (.int .i64 x.f2)).setCell ⟨g, 3, none⟩ (.int .i64 x.f3)).setCell ⟨g, 4, none⟩ (.int .u64 x.f4)).setCell ⟨g, 5, none⟩ (.bool x.f5)).setCell ⟨g, 6, none⟩ (.int .i64 x.f6)).setCell ⟨g, 7, none⟩ (.slice A x.f7.length c)) ∧ ((((((((W.setCell ⟨g, 0, none⟩ (.int .u64 x.f0)).setCell ⟨g, 1, none⟩ (.int .u64 x.f1)).setCell ⟨g, 2, none⟩ (.int .i64 x.f2)).setCell ⟨g, 3, none⟩ (.int .i64 x.f3)).setCell ⟨g, 4, none⟩ (.int .u64 x.f4)).setCell ⟨g, 5, none⟩ (.bool x.f5)).setCell ⟨g, 6, none⟩ (.int .i64 x.f6)).setCell ⟨g, 7, none⟩ (.slice A x.f7.length c)).heap[g]? = some (.cells #[.int .u64 x.f0, .int .u64 x.f1, .int .i64 x.f2, .int .i64 x.f3, .int .u64 x.f4, .bool x.f5, .int .i64 x.f6, .slice A x.f7.length c] 29 (0, 0)) ∧ ∀ k, k ≠ g → ((((((((W.setCell ⟨g, 0, none⟩ (.int .u64 x.f0)).setCell ⟨g, 1, none⟩ (.int .u64 x.f1)).setCell ⟨g, 2, none⟩ (.int .i64 x.f2)).setCell ⟨g, 3, none⟩ (.int .i64 x.f3)).setCell ⟨g, 4, none⟩ (.int .u64 x.f4)).setCell ⟨g, 5, none⟩ (.bool x.f5)).setCell ⟨g, 6, none⟩ (.int .i64 x.f6)).setCell ⟨g, 7, none⟩ (.slice A x.f7.length c)).heap[k]? = W.heap[k]? := by
  have h0 := blk_put hz 0 (.int .u64 x.f0) (cs' := #[.int .u64 x.f0, .int .u64 0, .int .i64 0, .int .i64 0, .int .u64 0, .bool false, .int .i64 0, .slice none 0 0]) rfl
  have h1 := blk_put h0 1 (.int .u64 x.f1) (cs' := #[.int .u64 x.f0, .int .u64 x.f1, .int .i64 0, .int .i64 0, .int .u64 0, .bool false, .int .i64 0, .slice none 0 0]) rfl
  have h2 := blk_put h1 2 (.int .i64 x.f2) (cs' := #[.int .u64 x.f0, .int .u64 x.f1, .int .i64 x.f2, .int .i64 0, .int .u64 0, .bool false, .int .i64 0, .slice none 0 0]) rfl
  have h3 := blk_put h2 3 (.int .i64 x.f3) (cs' := #[.int .u64 x.f0, .int .u64 x.f1, .int .i64 x.f2, .int .i64 x.f3, .int .u64 0, .bool false, .int .i64 0, .slice none 0 0]) rfl
  have h4 := blk_put h3 4 (.int .u64 x.f4) (cs' := #[.int .u64 x.f0, .int .u64 x.f1, .int .i64 x.f2, .int .i64 x.f3, .int .u64 x.f4, .bool false, .int .i64 0, .slice none 0 0]) rfl
  have h5 := blk_put h4 5 (.bool x.f5) (cs' := #[.int .u64 x.f0, .int .u64 x.f1, .int .i64 x.f2, .int .i64 x.f3, .int .u64 x.f4, .bool x.f5, .int .i64 0, .slice none 0 0]) rfl
  have h6 := blk_put h5 6 (.int .i64 x.f6) (cs' := #[.int .u64 x.f0, .int .u64 x.f1, .int .i64 x.f2, .int .i64 x.f3, .int .u64 x.f4, .bool x.f5, .int .i64 x.f6, .slice none 0 0]) rfl
  have h7 := blk_put h6 7 (.slice A x.f7.length c) (cs' := #[.int .u64 x.f0, .int .u64 x.f1, .int .i64 x.f2, .int .i64 x.f3, .int .u64 x.f4, .bool x.f5, .int .i64 x.f6, .slice A x.f7.length c]) rfl
  refine ⟨((((((((hb.setCell (p := ⟨g, 0, none⟩) hN _).setCell (p := ⟨g, 1, none⟩) hN _).setCell (p := ⟨g, 2, none⟩) hN _).setCell (p := ⟨g, 3, none⟩) hN _).setCell (p := ⟨g, 4, none⟩) hN _).setCell (p := ⟨g, 5, none⟩) hN _).setCell (p := ⟨g, 6, none⟩) hN _).setCell (p := ⟨g, 7, none⟩) hN _), h7, fun k hk => ?_⟩
  exact (Below.heap_setCell _ ⟨g, 7, none⟩ _ k hk).trans ((Below.heap_setCell _ ⟨g, 6, none⟩ _ k hk).trans ((Below.heap_setCell _ ⟨g, 5, none⟩ _ k hk).trans ((Below.heap_setCell _ ⟨g, 4, none⟩ _ k hk).trans ((Below.heap_setCell _ ⟨g, 3, none⟩ _ k hk).trans ((Below.heap_setCell _ ⟨g, 2, none⟩ _ k hk).trans ((Below.heap_setCell _ ⟨g, 1, none⟩ _ k hk).trans ((Below.heap_setCell _ ⟨g, 0, none⟩ _ k hk))))))))
set_option maxHeartbeats 4000000 in
set_option maxRecDepth 100000 in
theorem find_no {W : World} {base g0 : Nat} {l : List R0} (h : IX W base g0 l) (hr : Rising keyR l) (hn : l.length ≤ 1000) (id : Int) (hk : hasKey keyR l id = false) : Calls Try.prog 19 #[.pointer (some ⟨g0, 0, none⟩), .int .u64 id] W fun e w' => e = .returned (.tuple #[zrec, .bool false]) ∧ Below W.heap.size W w' := by
  have hz := heap_alloc_new W (.cells #[.int .u64 0, .int .u64 0, .int .i64 0, .int .i64 0, .int .u64 0, .bool false, .int .i64 0, .slice none 0 0] 29)
  have hb := below_alloc (Below.refl W.heap.size W) (.cells #[.int .u64 0, .int .u64 0, .int .i64 0, .int .i64 0, .int .u64 0, .bool false, .int .i64 0, .slice none 0 0] 29)
  obtain ⟨g, hg⟩ : ∃ g, g = W.heap.size := ⟨_, rfl⟩
  have HX1 := Aside0.mk (h.below hb)
  have HIN := Aside0.mk (And.intro hr (And.intro hn hk))
  clear h hr hn hk
  go_enter Try.func19, Try.ntmps19
  go_upto_region 1 with fail
  generalize W.alloc (.cells #[.int .u64 0, .int .u64 0, .int .i64 0, .int .i64 0, .int .u64 0, .bool false, .int .i64 0, .slice none 0 0] 29) = W1 at hz hb HX1 ⊢
  rw [← hg] at hz ⊢
  have HG := Aside0.mk hg
  have HZ := Aside0.mk hz
  have HB := Aside0.mk hb
  clear hz hb hg
  have HPL := Aside0.mk (place_calls HX1.out HIN.out.1 (by have := HIN.out.2.1; omega) id)
  rw [HIN.out.2.2] at HPL
  go_upto_region 2 with (go_at_call 27; refine HPL.out.mono ?_; rintro e w2 ⟨rfl, hb⟩; have HZ2 := Aside0.mk (blk_below HZ.out hb); have HB2 := Aside0.mk (below_then HB.out HB.out.size hb); clear hb)
  have d0 := blk_cell HZ2.out 0
  have f0 := blk_frozen HZ2.out 0
  have d1 := blk_cell HZ2.out 1
  have f1 := blk_frozen HZ2.out 1
  have d2 := blk_cell HZ2.out 2
  have f2 := blk_frozen HZ2.out 2
  have d3 := blk_cell HZ2.out 3
  have f3 := blk_frozen HZ2.out 3
  have d4 := blk_cell HZ2.out 4
  have f4 := blk_frozen HZ2.out 4
  have d5 := blk_cell HZ2.out 5
  have f5 := blk_frozen HZ2.out 5
  have d6 := blk_cell HZ2.out 6
  have f6 := blk_frozen HZ2.out 6
  have d7 := blk_cell HZ2.out 7
  have f7 := blk_frozen HZ2.out 7
  have HS := Aside0.mk (zero8 HZ2.out (Nat.le_of_eq HG.out.symm) HB2.out)
  clear HPL HX1
  go_wp2_with fail
  (try simp only [Exit.inBlock, Exit.then])
  refine bodyPost_ret (results_ct rfl _ _ g 29 _ (0, 0) _ _ rfl rfl HS.out.2 Try.underlying29 rfl (by kernel_rfl)) rfl ?_
  exact ⟨rfl, HS.out.1⟩
theorem IX.at {W : World} {base g i : Nat} {l : List R0} {x : R0} {A : Option Addr} {c : Nat} (hR : k29.R 29 W base (fun k => g < k) (.slice A l.length c) l) (hx : l[i]? = some x) :
    ∃ (gr : Nat) (Ax : Option Addr) (cx : Nat) (cur : Array Value), A = some ⟨gr, 0, none⟩ ∧ g < gr ∧ W.heap[gr]? = some (.cells cur 29 (0, 0)) ∧ (∀ k u, (encR x Ax cx)[k]? = some u → cur[i * 8 + k]? = some u) ∧ (Kd.int .i64).R 3 W base (fun k => g < k ∧ k ≠ gr) (.slice Ax x.f7.length cx) x.f7 := by
  have hi := (List.getElem?_eq_some_iff.1 hx).1
  obtain ⟨ps, hps, ho, hmade⟩ := rows_of_R hR
  have hlen : ps.length = l.length := by rw [← hps, List.length_map]
  obtain ⟨hxs, ⟨hv, hn0⟩ | ⟨gr, c', cur, hv, hgb, hz, hnc, hcm, hcs, htk⟩⟩ := ho
  · omega
  injection hv with e1 e2 e3
  clear e2
  subst e1 e3
  have hp : ps[i]? = some (ps[i]'(by omega)) := List.getElem?_eq_getElem (by omega)
  have hpx : (ps[i]'(by omega)).1 = x := by
    rw [← hps, List.getElem?_map, hp] at hx
    exact Option.some.inj hx
  have hm := hmade _ (List.getElem_mem (show i < ps.length by omega))
  refine ⟨gr, (ps[i]'(by omega)).2.1, (ps[i]'(by omega)).2.2, cur, rfl, hR.1 gr rfl, hz, fun k u hu => ?_, ?_⟩
  · have hk8 : k < 8 := (List.getElem?_eq_some_iff.1 hu).1
    have e : (recOf (ps[i]'(by omega))).enc = encR x (ps[i]'(by omega)).2.1 (ps[i]'(by omega)).2.2 := by rw [← hpx]; rfl
    have e2 := encs_at (ps.map recOf) i (recOf (ps[i]'(by omega))) (by rw [List.getElem?_map, hp]; rfl) k hk8
    rw [e, hu, ← htk, List.getElem?_take, if_pos (by omega), Array.getElem?_toList] at e2
    exact e2
  · rw [← hpx]
    exact Kd.R_mono hm (fun k hk => ⟨hk.1, fun he => hk.2 (by rw [he]; rfl)⟩)
set_option maxHeartbeats 4000000 in
set_option maxRecDepth 100000 in
theorem find_yes {W : World} {base g0 : Nat} {l : List R0} (h : IX W base g0 l) (hr : Rising keyR l) (hn : l.length ≤ 1000) (id : Int) (hk : hasKey keyR l id = true) (x : R0) (hx : l[low keyR l id]? = some x) (hp : x.f7.length ≤ 1000) : Calls Try.prog 19 #[.pointer (some ⟨g0, 0, none⟩), .int .u64 id] W fun e w' => ∃ A c, e = .returned (.tuple #[ragg x A c, .bool true]) ∧ (Kd.int .i64).R 3 w' W.heap.size (fun k => W.heap.size ≤ k) (.slice A x.f7.length c) x.f7 ∧ Below W.heap.size W w' := by
  have hz := heap_alloc_new W (.cells #[.int .u64 0, .int .u64 0, .int .i64 0, .int .i64 0, .int .u64 0, .bool false, .int .i64 0, .slice none 0 0] 29)
  have hb := below_alloc (Below.refl W.heap.size W) (.cells #[.int .u64 0, .int .u64 0, .int .i64 0, .int .i64 0, .int .u64 0, .bool false, .int .i64 0, .slice none 0 0] 29)
  obtain ⟨g, hg⟩ : ∃ g, g = W.heap.size := ⟨_, rfl⟩
  have HX1 := Aside0.mk (h.below hb)
  have HIN := Aside0.mk (And.intro hr (And.intro hn (And.intro hk (And.intro hx hp))))
  clear h hr hn hk hx hp
  go_enter Try.func19, Try.ntmps19
  go_upto_region 1 with fail
  generalize W.alloc (.cells #[.int .u64 0, .int .u64 0, .int .i64 0, .int .i64 0, .int .u64 0, .bool false, .int .i64 0, .slice none 0 0] 29) = W1 at hz hb HX1 ⊢
  rw [← hg] at hz ⊢
  have HG := Aside0.mk hg
  have HZ := Aside0.mk hz
  have HB := Aside0.mk hb
  clear hz hb hg
  have HPL := Aside0.mk (place_calls HX1.out HIN.out.1 (by have := HIN.out.2.1; omega) id)
  rw [HIN.out.2.2.1] at HPL
  go_upto_region 4 with (go_at_call 27; refine HPL.out.mono ?_; rintro e w2 ⟨rfl, hb⟩; have HX2 := Aside0.mk (HX1.out.below hb); have HZ2 := Aside0.mk (blk_below HZ.out hb); have HB2 := Aside0.mk (below_then HB.out HB.out.size hb); clear hb)
  obtain ⟨A, c, hzg, hR, hgb⟩ := HX2.out
  obtain ⟨gr, Ax, cx, cur, rfl, hgr, hzr, hcur, hRx⟩ := IX.at hR HIN.out.2.2.2.1
  obtain ⟨i, hi⟩ : ∃ i, i = low keyR l id := ⟨_, rfl⟩
  have hil : i < l.length := by rw [hi]; exact (List.getElem?_eq_some_iff.1 HIN.out.2.2.2.1).1
  rw [← hi] at hcur ⊢
  have z0 := blk_cell hzg 0
  have r0 := (blk_cell hzr (i * 8)).trans (hcur 0 _ rfl)
  have r1 := (blk_cell hzr (i * 8 + 1)).trans (hcur 1 _ rfl)
  have r2 := (blk_cell hzr (i * 8 + 2)).trans (hcur 2 _ rfl)
  have r3 := (blk_cell hzr (i * 8 + 3)).trans (hcur 3 _ rfl)
  have r4 := (blk_cell hzr (i * 8 + 4)).trans (hcur 4 _ rfl)
  have r5 := (blk_cell hzr (i * 8 + 5)).trans (hcur 5 _ rfl)
  have r6 := (blk_cell hzr (i * 8 + 6)).trans (hcur 6 _ rfl)
  have r7 := (blk_cell hzr (i * 8 + 7)).trans (hcur 7 _ rfl)
  have q0 := eq_true (show (0 : Int) ≤ (i : Int) by omega)
  have q1 := eq_true (show (i : Int) < ((l.length : Nat) : Int) by omega)
  have q2 := eq_true hil
  obtain ⟨A7, c7, _, hCx⟩ : ∃ A7 c7, (Value.slice Ax x.f7.length cx) = .slice A7 x.f7.length c7 ∧ Kd.C (Kd.int .i64) w2 A7 x.f7.length x.f7 := by
    obtain ⟨A7, c7, e, _, hc⟩ := Kd.R_reads hRx
    exact ⟨A7, c7, e, hc⟩
  have hCx' : Kd.C (Kd.int .i64) w2 Ax x.f7.length x.f7 := by
    obtain ⟨A8, c8, e, _, hc⟩ := Kd.R_reads hRx
    injection e with e1 _ _
    rw [e1]
    exact hc
  have HCP := Aside0.mk (copy_calls x Ax cx w2 (by have := HIN.out.2.2.2.2; omega) hCx')
  unfold ragg at HCP
  clear hzg hR hgb hgr hzr hcur hRx hi hil hCx hCx' HPL HX1
  go_wp2_with (go_at_call 31; refine HCP.out.mono ?_; rintro e w4 ⟨A2, c2, rfl, hM, hb⟩; have HM := Aside0.mk hM; have HZ4 := Aside0.mk (blk_below HZ2.out hb); have HB4 := Aside0.mk (below_then HB2.out HB2.out.size hb); clear hM hb z0 r0 r1 r2 r3 r4 r5 r6 r7; have HFL := Aside0.mk (fill8 x A2 c2 HZ4.out (Nat.le_of_eq HG.out.symm) HB4.out); have d0 := blk_cell HZ4.out 0; have f0 := blk_frozen HZ4.out 0; have d1 := blk_cell HZ4.out 1; have f1 := blk_frozen HZ4.out 1; have d2 := blk_cell HZ4.out 2; have f2 := blk_frozen HZ4.out 2; have d3 := blk_cell HZ4.out 3; have f3 := blk_frozen HZ4.out 3; have d4 := blk_cell HZ4.out 4; have f4 := blk_frozen HZ4.out 4; have d5 := blk_cell HZ4.out 5; have f5 := blk_frozen HZ4.out 5; have d6 := blk_cell HZ4.out 6; have f6 := blk_frozen HZ4.out 6; have d7 := blk_cell HZ4.out 7; have f7 := blk_frozen HZ4.out 7)
  (try simp only [Exit.inBlock, Exit.then])
  refine bodyPost_ret (results_ct rfl _ _ g 29 _ (0, 0) _ _ rfl rfl HFL.out.2.1 Try.underlying29 rfl (by kernel_rfl)) rfl ?_
  refine ⟨A2, c2, rfl, ?_, HFL.out.1⟩
  exact Kd.R_step (Kd.R_mono (Kd.R_lower HM.out HB2.out.size) (fun k hk => (⟨Nat.le_trans HB2.out.size hk, fun he => by have h1 := blk_lt HZ2.out; have h2 : w2.heap.size ≤ k := hk; omega⟩ : W.heap.size ≤ k ∧ k ≠ g))) (fun k hk _ => HFL.out.2.2 k hk.2) |> fun h => Kd.R_mono h (fun k hk => hk.1)
end Go.Proofs.Ytaepbgieahedjaa.QS
namespace Go.Proofs.Ytaepbgieahedjaa.QS
set_option linter.unusedVariables false
set_option linter.unusedSimpArgs false
open Go.RowKit Go.Proofs.Ytaepbgieahedjaa.Hp Go.Proofs.YtaepbgieahedjaaW.PrintWords Go.Proofs.YtaepbgieahedjaaW.PrintLast Go.Proofs.YtaepbgieahedjaaW.PrintMore
open Go.Proofs.Ytaepbgieahedjaa.IP
set_option maxHeartbeats 4000000 in
set_option maxRecDepth 100000 in
theorem drop_no {W : World} {base g0 : Nat} {l : List R0} (h : IX W base g0 l) (hr : Rising keyR l) (hn : l.length ≤ 1000) (id : Int) (hk : hasKey keyR l id = false) : Calls Try.prog 15 #[.pointer (some ⟨g0, 0, none⟩), .int .u64 id] W fun e w' => e = .returned (.tuple #[zrec, .int .i64 8]) ∧ Below W.heap.size W w' := by
  have hz := heap_alloc_new W (.cells #[.int .u64 0, .int .u64 0, .int .i64 0, .int .i64 0, .int .u64 0, .bool false, .int .i64 0, .slice none 0 0] 29)
  have hb := below_alloc (Below.refl W.heap.size W) (.cells #[.int .u64 0, .int .u64 0, .int .i64 0, .int .i64 0, .int .u64 0, .bool false, .int .i64 0, .slice none 0 0] 29)
  obtain ⟨g, hg⟩ : ∃ g, g = W.heap.size := ⟨_, rfl⟩
  have HX1 := Aside0.mk (h.below hb)
  have HIN := Aside0.mk (And.intro hr (And.intro hn hk))
  clear h hr hn hk
  go_enter Try.func15, Try.ntmps15
  go_upto_region 1 with fail
  generalize W.alloc (.cells #[.int .u64 0, .int .u64 0, .int .i64 0, .int .i64 0, .int .u64 0, .bool false, .int .i64 0, .slice none 0 0] 29) = W1 at hz hb HX1 ⊢
  rw [← hg] at hz ⊢
  have HG := Aside0.mk hg
  have HZ := Aside0.mk hz
  have HB := Aside0.mk hb
  clear hz hb hg
  have HPL := Aside0.mk (place_calls HX1.out HIN.out.1 (by have := HIN.out.2.1; omega) id)
  rw [HIN.out.2.2] at HPL
  go_upto_region 4 with (go_at_call 27; refine HPL.out.mono ?_; rintro e w2 ⟨rfl, hb⟩; have HZ2 := Aside0.mk (blk_below HZ.out hb); have HB2 := Aside0.mk (below_then HB.out HB.out.size hb); clear hb)
  have d0 := blk_cell HZ2.out 0
  have f0 := blk_frozen HZ2.out 0
  have d1 := blk_cell HZ2.out 1
  have f1 := blk_frozen HZ2.out 1
  have d2 := blk_cell HZ2.out 2
  have f2 := blk_frozen HZ2.out 2
  have d3 := blk_cell HZ2.out 3
  have f3 := blk_frozen HZ2.out 3
  have d4 := blk_cell HZ2.out 4
  have f4 := blk_frozen HZ2.out 4
  have d5 := blk_cell HZ2.out 5
  have f5 := blk_frozen HZ2.out 5
  have d6 := blk_cell HZ2.out 6
  have f6 := blk_frozen HZ2.out 6
  have d7 := blk_cell HZ2.out 7
  have f7 := blk_frozen HZ2.out 7
  have HS := Aside0.mk (zero8 HZ2.out (Nat.le_of_eq HG.out.symm) HB2.out)
  clear HPL HX1
  go_wp2_with fail
  (try simp only [Exit.inBlock, Exit.then])
  refine bodyPost_ret (results_ct rfl _ _ g 29 _ (0, 0) _ _ rfl rfl HS.out.2 Try.underlying29 rfl (by kernel_rfl)) rfl ?_
  exact ⟨rfl, HS.out.1⟩
def DropTo (W w' : World) (e : Ending) (base g : Nat) (x : R0) (l : List R0) (r : Option Nat) : Prop := ∃ A c, e = .returned (.tuple #[ragg x A c, .int .i64 0]) ∧ Kd.C (Kd.int .i64) w' A x.f7.length x.f7 ∧ x.f7.length ≤ c ∧ PutTo W w' base g l r ∧ Below base W w'
set_option maxHeartbeats 4000000 in
set_option maxRecDepth 100000 in
theorem drop_yes {W : World} {base g0 : Nat} {l : List R0} {r : Option Nat} (h : IXr W base g0 l r) (hr : Rising keyR l) (hn : l.length ≤ 1000) (id : Int) (hk : hasKey keyR l id = true) (x : R0) (hx : l[low keyR l id]? = some x) : Calls Try.prog 15 #[.pointer (some ⟨g0, 0, none⟩), .int .u64 id] W fun e w' => DropTo W w' e base g0 x (dropAt l (low keyR l id)) r := by
  obtain ⟨i, hi⟩ : ∃ i, i = low keyR l id := ⟨_, rfl⟩
  have hil : i < l.length := by rw [hi]; exact (List.getElem?_eq_some_iff.1 hx).1
  have hX := h.ix
  obtain ⟨A, c, hzg, hR, hgb, hr0⟩ := h
  have hR0 : k29.R 29 W base (fun k => g0 < k ∧ k < W.heap.size) (.slice A l.length c) l := Kd.R_mono (Kd.R_bound hR) (fun k hk => ⟨hk.1, hk.2.2.1⟩)
  obtain ⟨gr, Ax, cx, cur, hA, hgr, hzr, hcur, hRx⟩ := IX.at hR hx
  subst hA
  have HR9 : Aside0 (r = some gr) := ⟨hr0⟩
  clear hr0
  rw [← hi] at hcur ⊢
  have hgrW := blk_lt hzr
  have hg0W := blk_lt hzg
  have hz := heap_alloc_new W (.cells #[.int .u64 0, .int .u64 0, .int .i64 0, .int .i64 0, .int .u64 0, .bool false, .int .i64 0, .slice none 0 0] 29)
  have hb := below_alloc (Below.refl W.heap.size W) (.cells #[.int .u64 0, .int .u64 0, .int .i64 0, .int .i64 0, .int .u64 0, .bool false, .int .i64 0, .slice none 0 0] 29)
  obtain ⟨g, hg⟩ : ∃ g, g = W.heap.size := ⟨_, rfl⟩
  have HX1 := Aside0.mk (hX.below hb)
  have HIN := Aside0.mk (And.intro hr (And.intro hn (And.intro hk (And.intro hx hi))))
  have HR0 := Aside0.mk hR0
  have HRX := Aside0.mk hRx
  have HLT : Aside0 (g0 < gr ∧ gr < W.heap.size ∧ base ≤ g0 ∧ g0 < W.heap.size ∧ l.length ≤ 1000 ∧ i < l.length) := ⟨hgr, hgrW, hgb, hg0W, hn, hil⟩
  have HZG := Aside0.mk hzg
  have HZR := Aside0.mk (And.intro hzr hcur)
  clear hr hn hk hx hX hR hR0 hRx hgr hgrW hg0W hgb hil hzg hzr hcur
  go_enter Try.func15, Try.ntmps15
  go_upto_region 1 with fail
  generalize W.alloc (.cells #[.int .u64 0, .int .u64 0, .int .i64 0, .int .i64 0, .int .u64 0, .bool false, .int .i64 0, .slice none 0 0] 29) = W1 at hz hb HX1 ⊢
  rw [← hg] at hz ⊢
  have HG := Aside0.mk hg
  have HZ := Aside0.mk hz
  have HB := Aside0.mk hb
  clear hz hb hg
  have HPL := Aside0.mk (place_calls HX1.out HIN.out.1 (by have := HIN.out.2.1; omega) id)
  rw [HIN.out.2.2.1, ← HIN.out.2.2.2.2] at HPL
  clear hi
  go_upto_region 6 with (go_at_call 27; refine HPL.out.mono ?_; rintro e w2 ⟨rfl, hb⟩; have HZ2 := Aside0.mk (blk_below HZ.out hb); have HB2 := Aside0.mk (below_then HB.out HB.out.size hb); clear hb)
  have hzg2 := blk_below HZG.out HB2.out
  have hzr2 := blk_below HZR.out.1 HB2.out
  have hcur := HZR.out.2
  have z0 := blk_cell hzg2 0
  have r0 := (blk_cell hzr2 (i * 8)).trans (hcur 0 _ rfl)
  have r1 := (blk_cell hzr2 (i * 8 + 1)).trans (hcur 1 _ rfl)
  have r2 := (blk_cell hzr2 (i * 8 + 2)).trans (hcur 2 _ rfl)
  have r3 := (blk_cell hzr2 (i * 8 + 3)).trans (hcur 3 _ rfl)
  have r4 := (blk_cell hzr2 (i * 8 + 4)).trans (hcur 4 _ rfl)
  have r5 := (blk_cell hzr2 (i * 8 + 5)).trans (hcur 5 _ rfl)
  have r6 := (blk_cell hzr2 (i * 8 + 6)).trans (hcur 6 _ rfl)
  have r7 := (blk_cell hzr2 (i * 8 + 7)).trans (hcur 7 _ rfl)
  have q0 := eq_true (show (0 : Int) ≤ (i : Int) by omega)
  have q1 := eq_true (show (i : Int) < ((l.length : Nat) : Int) by have := HLT.out; omega)
  have q2 := eq_true HLT.out.2.2.2.2.2
  have hz3 := heap_alloc_new w2 (.cells #[.int .u64 x.f0, .int .u64 x.f1, .int .i64 x.f2, .int .i64 x.f3, .int .u64 x.f4, .bool x.f5, .int .i64 x.f6, .slice Ax x.f7.length cx] 29)
  have hb3 := below_alloc (Below.refl w2.heap.size w2) (.cells #[.int .u64 x.f0, .int .u64 x.f1, .int .i64 x.f2, .int .i64 x.f3, .int .u64 x.f4, .bool x.f5, .int .i64 x.f6, .slice Ax x.f7.length cx] 29)
  obtain ⟨g3, hg3⟩ : ∃ g, g = w2.heap.size := ⟨_, rfl⟩
  have HZG2 := Aside0.mk hzg2
  clear hzg2 hzr2 hcur HPL HX1
  go_upto_region 7 with fail
  generalize w2.alloc (.cells #[.int .u64 x.f0, .int .u64 x.f1, .int .i64 x.f2, .int .i64 x.f3, .int .u64 x.f4, .bool x.f5, .int .i64 x.f6, .slice Ax x.f7.length cx] 29) = W3 at hz3 hb3 ⊢
  rw [← hg3] at hz3 ⊢
  have HG3 : Aside0 (g3 = w2.heap.size ∧ W.heap.size < w2.heap.size) := ⟨hg3, Nat.lt_of_le_of_lt (Nat.le_of_eq HG.out.symm) (blk_lt HZ2.out)⟩
  have HZ3 := Aside0.mk (blk_below HZ2.out hb3)
  have HX3 := Aside0.mk hz3
  have HZG3 := Aside0.mk (blk_below HZG2.out hb3)
  have HB3 := Aside0.mk (below_then HB2.out HB2.out.size hb3)
  have HDL := Aside0.mk (delete_calls (Kd.R_below HR0.out HB3.out) (by have := HLT.out; omega) HLT.out.2.2.2.2.2)
  have hwi : IntKind.i64.wrap ((i : Int) + 1) = (i : Int) + 1 := by have := HLT.out; rw [IntKind.wrap_i64]; omega
  have z0 := blk_cell HZG3.out 0
  clear hz3 hb3 hg3 r0 r1 r2 r3 r4 r5 r6 r7 q0 q1 q2 HZG2
  have i0 : (i : Int) ≤ 1000 := by have := HLT.out; omega
  go_upto_region 8 with (go_at_call 28; (with_reducible refine HDL.out.mono ?_); rintro e w4 ⟨A4, c4, rfl, hR4, hg4, hw4⟩; have HW4 := Aside0.mk hw4; have HR4 := Aside0.mk hR4; have HG4 := Aside0.mk hg4; have HZG4 := Aside0.mk (blk_grown HZG3.out hg4 (fun e => by have := HLT.out; have e2 : g0 = gr := Option.some.inj e; omega)); clear hR4 hg4 hw4 z0; have z0 := blk_cell HZG4.out 0; have zf := blk_frozen HZG4.out 0)
  have hne : g ≠ gr ∧ g3 ≠ gr ∧ g ≠ g0 ∧ g3 ≠ g0 ∧ g ≠ g3 := by have h1 := HLT.out; have h2 := HG.out; have h3 := HG3.out; omega
  have hz4 := blk_grown HZ3.out HG4.out (fun e => hne.1 (Option.some.inj e))
  have hx4 := blk_grown HX3.out HG4.out (fun e => hne.2.1 (Option.some.inj e))
  have hz5 := blk_far (p := ⟨g0, 0, none⟩) hz4 hne.2.2.1 (.slice A4 (dropAt l i).length c4)
  have hx5 := blk_far (p := ⟨g0, 0, none⟩) hx4 hne.2.2.2.1 (.slice A4 (dropAt l i).length c4)
  have hg5 := blk_put HZG4.out 0 (.slice A4 (dropAt l i).length c4) (cs' := #[.slice A4 (dropAt l i).length c4]) rfl
  have hb5 := (pw_below_grown (HB3.out.mono (by have := HLT.out; omega)) _ (by have h1 := HLT.out; have h2 := HB3.out.size; omega) HG4.out (fun k hk => by have h1 := HLT.out; have e : gr = k := Option.some.inj hk; omega)).setCell (p := ⟨g0, 0, none⟩) HLT.out.2.2.1 (.slice A4 (dropAt l i).length c4)
  have hR5 := Kd.R_far (p := ⟨g0, 0, none⟩) HR4.out (fun k hk => Nat.ne_of_gt hk.1) (.slice A4 (dropAt l i).length c4)
  have hm5 : ∀ k, k < W.heap.size → k ≠ gr → k ≠ g0 → (w4.setCell ⟨g0, 0, none⟩ (.slice A4 (dropAt l i).length c4)).heap[k]? = W.heap[k]? := fun k h1 h2 h3 => by
    rw [Below.heap_setCell _ _ _ k h3, HG4.out.block k (Nat.lt_of_lt_of_le h1 HB3.out.size) (fun e => h2 (Option.some.inj e)), HB3.out.block k h1]
  generalize w4.setCell ⟨g0, 0, none⟩ (.slice A4 (dropAt l i).length c4) = W5 at hz5 hx5 hg5 hb5 hR5 hm5 ⊢
  have HFL := Aside0.mk (fill8 x Ax cx hz5 (show base ≤ g by have h1 := HLT.out; have h2 := HG.out; omega) hb5)
  have HN := Aside0.mk hne
  have HX5 := Aside0.mk hx5
  have HZ5 := Aside0.mk hz5
  have HE := Aside0.mk (And.intro hg5 (And.intro hR5 hm5))
  clear hne hz4 hx4 hz5 hx5 hg5 hb5 hR5 hm5 z0 zf hwi i0 HR4 HG4 HZG4
  have x0 := blk_cell HX5.out 0
  have x1 := blk_cell HX5.out 1
  have x2 := blk_cell HX5.out 2
  have x3 := blk_cell HX5.out 3
  have x4 := blk_cell HX5.out 4
  have x5 := blk_cell HX5.out 5
  have x6 := blk_cell HX5.out 6
  have x7 := blk_cell HX5.out 7
  have d0 := blk_cell HZ5.out 0
  have f0 := blk_frozen HZ5.out 0
  have d1 := blk_cell HZ5.out 1
  have f1 := blk_frozen HZ5.out 1
  have d2 := blk_cell HZ5.out 2
  have f2 := blk_frozen HZ5.out 2
  have d3 := blk_cell HZ5.out 3
  have f3 := blk_frozen HZ5.out 3
  have d4 := blk_cell HZ5.out 4
  have f4 := blk_frozen HZ5.out 4
  have d5 := blk_cell HZ5.out 5
  have f5 := blk_frozen HZ5.out 5
  have d6 := blk_cell HZ5.out 6
  have f6 := blk_frozen HZ5.out 6
  have d7 := blk_cell HZ5.out 7
  have f7 := blk_frozen HZ5.out 7
  go_wp2_with fail
  (try simp only [Exit.inBlock, Exit.then])
  refine bodyPost_ret (results_ct rfl _ _ g 29 _ (0, 0) _ _ rfl rfl HFL.out.2.1 Try.underlying29 rfl (by kernel_rfl)) rfl ?_
  have hxl : x.f7.length ≤ cx := by
    obtain ⟨A8, c8, e, h8, _⟩ := Kd.R_reads HRX.out
    injection e with _ _ e3
    rw [e3]
    exact h8
  refine ⟨Ax, cx, rfl, ?_, hxl, ⟨⟨_, ⟨A4, c4, (HFL.out.2.2 g0 (fun e => HN.out.2.2.1 e.symm)).trans HE.out.1, ?_, HLT.out.2.2.1, rfl⟩, fun k hk => (HW4.out k hk).elim (fun h => .inl (by rw [HR9.out]; exact h)) (fun h => .inr (Nat.le_trans HB3.out.size h))⟩, fun k h1 h2 h3 => (HFL.out.2.2 k (by have := HG.out; omega)).trans (HE.out.2.2 k h1 (fun e => h3 (by rw [HR9.out, e])) h2)⟩, HFL.out.1⟩
  · have hf := Kd.R_step (Kd.R_mono (Kd.R_bound HRX.out) (fun k hk => (⟨hk.1.1, hk.1.2, hk.2.2.1⟩ : g0 < k ∧ k ≠ gr ∧ k < W.heap.size))) (fun k hk _ => (HFL.out.2.2 k (by have := HG.out; omega)).trans (HE.out.2.2 k hk.2.2 hk.2.1 (Nat.ne_of_gt hk.1)))
    obtain ⟨A8, c8, e, _, hc⟩ := Kd.R_reads hf
    injection e with e1 _ _
    rw [← e1] at hc
    exact hc
  · exact Kd.R_mono (Kd.R_step HE.out.2.1 (fun k hk _ => HFL.out.2.2 k (by have := HG.out; have := hk.2; omega))) (fun k hk => hk.1)
end Go.Proofs.Ytaepbgieahedjaa.QS
namespace Go.Proofs.Ytaepbgieahedjaa.QS
set_option linter.unusedVariables false
set_option linter.unusedSimpArgs false
open Go.RowKit Go.Proofs.Ytaepbgieahedjaa.Hp Go.Proofs.YtaepbgieahedjaaW.PrintWords Go.Proofs.YtaepbgieahedjaaW.PrintLast Go.Proofs.YtaepbgieahedjaaW.PrintMore
open Go.Proofs.Ytaepbgieahedjaa.IP
def frI (n : Int) : Int := if n < 1 then 0 else wrap64 ((wrap64 (Int.tdiv (wrap64 (n - 1)) 100)) + 1)
theorem frames_calls (n : Int) (w : World) : Calls Try.prog 14 #[.int .i64 n] w fun e w' => e = .returned (.int .i64 (frI n)) ∧ Below w.heap.size w w' := by
  refine (index_Frames.calls n (frI n) w ?_).mono ?_
  · unfold index_Frames.f frI
    split <;> rfl
  · rintro e w' ⟨rfl, h⟩
    exact ⟨rfl, h.below⟩
def inB (n : Int) (x : R0) : Bool := decide (x.f1 ≤ n) && decide (IntKind.u64.wrap (n - x.f1) < IntKind.u64.wrap (frI x.f3))
def fr0.T1 : Bool × List (List Nat × List Nat) := (true, [([], []), ([], []), ([1], [1]), ([0, 2], [0, 2]), ([3], [3]), ([4], [4]), ([4], [4]), ([6, 4], [4, 6]), ([5, 7, 4], [4, 5, 7]), ([4], [4]), ([9, 4], [4, 9]), ([10, 4, 4], [4, 10]), ([11, 4], [4, 11]), ([8, 12, 4], [4, 8, 12]), ([4, 13], [4, 13]), ([14, 11, 0, 1, 2, 3, 4, 5, 6, 7, 8, 9, 10, 11, 12, 13, 14], [14])])
def fr0.B1 : List Nat := [0, 0, 2, 7, 15, 31, 31, 95, 255, 31, 543, 1567, 3615, 8191, 16383, 32767]
theorem fr0.tab1 : rtab .any (opsOf Try.f26 1) = fr0.T1 := by kernel_rfl
theorem fr0.bits1 : waitsOk fr0.T1.2 fr0.B1 = true := by kernel_rfl
def fr1.T1 : Bool × List (List Nat × List Nat) := (true, [([], []), ([], []), ([1], [1]), ([0, 2], [0, 2]), ([3], [3]), ([4], [4]), ([4], [4]), ([6, 4], [4, 6]), ([5, 7, 4], [4, 5, 7]), ([4], [4]), ([9, 4], [4, 9]), ([10, 4, 4], [4, 10]), ([11, 4], [4, 11]), ([8, 12, 4], [4, 8, 12]), ([4, 13], [4, 13]), ([14, 11, 0, 1, 2, 3, 4, 5, 6, 7, 8, 9, 10, 11, 12, 13, 14], [14])])
def fr1.B1 : List Nat := [0, 0, 2, 7, 15, 31, 31, 95, 255, 31, 543, 1567, 3615, 8191, 16383, 32767]
theorem fr1.tab1 : rtab .any (opsOf Try.f26 1) = fr1.T1 := by kernel_rfl
theorem fr1.bits1 : waitsOk fr1.T1.2 fr1.B1 = true := by kernel_rfl
set_option maxHeartbeats 2000000 in
set_option maxRecDepth 100000 in
theorem frame_fn {gb : Nat} {n : Int} (x : R0) (Ap : Option Addr) (cpp : Nat) (W : World) (hc : W.heap[gb]? = some (.cells #[.int .u64 n] 23 (0, 0))) : Calls Try.prog 26 (#[.agg #[.int .u64 x.f0, .int .u64 x.f1, .int .i64 x.f2, .int .i64 x.f3, .int .u64 x.f4, .bool x.f5, .int .i64 x.f6, .slice Ap x.f7.length cpp]] ++ #[.pointer (some ⟨gb, 0, none⟩)]) W fun e w' => e = .returned (.bool (inB n x)) ∧ Below W.heap.size W w' := by
  have hz := heap_alloc_new W (.cells #[.int .u64 x.f0, .int .u64 x.f1, .int .i64 x.f2, .int .i64 x.f3, .int .u64 x.f4, .bool x.f5, .int .i64 x.f6, .slice Ap x.f7.length cpp] 29)
  have hb := below_alloc (Below.refl W.heap.size W) (.cells #[.int .u64 x.f0, .int .u64 x.f1, .int .i64 x.f2, .int .i64 x.f3, .int .u64 x.f4, .bool x.f5, .int .i64 x.f6, .slice Ap x.f7.length cpp] 29)
  have hk := blk_below hc hb
  obtain ⟨g2, hg2⟩ : ∃ g, g = W.heap.size := ⟨_, rfl⟩
  show Calls Try.prog 26 #[.agg #[.int .u64 x.f0, .int .u64 x.f1, .int .i64 x.f2, .int .i64 x.f3, .int .u64 x.f4, .bool x.f5, .int .i64 x.f6, .slice Ap x.f7.length cpp], .pointer (some ⟨gb, 0, none⟩)] W _
  clear hc
  obtain ⟨rb, hrb⟩ : ∃ b, b = inB n x := ⟨_, rfl⟩
  rw [← hrb]
  unfold inB at hrb
  obtain ⟨F, hF⟩ : ∃ F, F = frI x.f3 := ⟨_, rfl⟩
  rw [← hF] at hrb
  have HRB := Aside0.mk hrb
  clear hrb
  have HFC : Aside0 (∀ W, Calls Try.prog 14 #[.int .i64 x.f3] W fun e w' => e = .returned (.int .i64 F) ∧ Below W.heap.size W w') := ⟨fun W => by rw [hF]; exact frames_calls x.f3 W⟩
  clear hF
  go_enter Try.func26, Try.ntmps26
  go_upto_region 1 with fail
  generalize W.alloc (.cells #[.int .u64 x.f0, .int .u64 x.f1, .int .i64 x.f2, .int .i64 x.f3, .int .u64 x.f4, .bool x.f5, .int .i64 x.f6, .slice Ap x.f7.length cpp] 29) = W1 at hz hb hk ⊢
  rw [← hg2] at hz ⊢
  have HZ := Aside0.mk hz
  have HB := Aside0.mk hb
  have HK := Aside0.mk hk
  have HB1 := Aside0.mk (Below.refl W1.heap.size W1)
  have B0 := Aside0.mk (below_drew1 (Below.refl W1.heap.size W1))
  clear hz hb hg2 hk
  cases h1 : decide (x.f1 ≤ n) with
  | false =>
    have HE : Aside0 (rb = false) := ⟨by rw [HRB.out, h1, Bool.false_and]⟩
    refine start_ (n := 16) (S := fun w' => True) (ds := []) #[false, false, false, false, false, false, false, false, false, false, false, false, false, false, false, false] (by kernel_rfl) rfl rfl trivial (fun hHeld => ?_)
    refine with_tabW fr0.tab1 fr0.bits1 (fun HT_ HW_ => ?_)
    generalize W1.drew = wz at B0 hHeld ⊢
    refine inv_at [0, 1, 2, 3, 4, 5, 6, 7, 8, 9, 10, 11, 12, 13, 14, 15] (fun a0_ b a w' => a = putSel a0_ b [(0, 4, .int .u64 n), (1, 5, .pointer (some ⟨g2, 1, none⟩)), (2, 6, .int .u64 x.f1), (3, 7, .bool false), (4, 8, .bool false), (5, 9, undef), (6, 10, undef), (7, 11, undef), (8, 12, undef), (9, 13, undef), (10, 14, undef), (11, 15, undef), (12, 16, undef), (13, 17, undef), (14, 18, .bool false), (15, 3, .bool false)] ∧ (Below W1.heap.size W1 w')) HT_.out HW_.out (by kernel_rfl) (by kernel_rfl) ?_ ?_ ?_
    · exact ⟨by simp only [putSel, Bool.false_eq_true, if_false], B0.out⟩
    · skip
      clear B0
      refine steps_cons ?_ ?_
      · rintro b a w' ⟨ha, Q_B0⟩ hb_ hon hoff
        refine ⟨_, rfl, fun K hK => ?_⟩
        have e1 : a.tmps[1]? = some (.pointer (some ⟨gb, 0, none⟩)) := by rw [ha]; exact (putSel_off rfl).trans rfl
        replace ha := Aside0.mk ha
        have B0 := Aside0.mk Q_B0
        have c0_ := blk_cell (blk_below HK.out B0.out) 0
        refine value_ (w1 := w') (v := .int .u64 n) (by rfl) rfl ?_ ?_
        · go_simp
          (try simp only [i64_w])
          try rfl
        refine hK.out _ _ ⟨(by rw [ha.out]; exact putSel_upk 0 hb_ rfl rfl rfl), Q_B0⟩
      refine steps_cons ?_ ?_
      · rintro b a w' ⟨ha, Q_B0⟩ hb_ hon hoff
        refine ⟨_, rfl, fun K hK => ?_⟩
        have e2 : a.tmps[2]? = some (.pointer (some ⟨g2, 0, none⟩)) := by rw [ha]; exact (putSel_off rfl).trans rfl
        replace ha := Aside0.mk ha
        have B0 := Aside0.mk Q_B0
        refine value_ (w1 := w') (v := .pointer (some ⟨g2, 1, none⟩)) (by rfl) rfl ?_ ?_
        · go_simp
          (try simp only [i64_w])
          try rfl
        refine hK.out _ _ ⟨(by rw [ha.out]; exact putSel_upk 1 hb_ rfl rfl rfl), Q_B0⟩
      refine steps_cons ?_ ?_
      · rintro b a w' ⟨ha, Q_B0⟩ hb_ hon hoff
        refine ⟨_, rfl, fun K hK => ?_⟩
        have e5 : a.tmps[5]? = some (.pointer (some ⟨g2, 1, none⟩)) := by rw [ha]; exact putSel_on (e := (1, 5, .pointer (some ⟨g2, 1, none⟩))) 1 rfl rfl (hon 1 (by kernel_rfl)) rfl
        replace ha := Aside0.mk ha
        have B0 := Aside0.mk Q_B0
        have c0_ := blk_cell (blk_below HZ.out B0.out) 1
        refine value_ (w1 := w') (v := .int .u64 x.f1) (by rfl) rfl ?_ ?_
        · go_simp
          (try simp only [i64_w])
          try rfl
        refine hK.out _ _ ⟨(by rw [ha.out]; exact putSel_upk 2 hb_ rfl rfl rfl), Q_B0⟩
      refine steps_cons ?_ ?_
      · rintro b a w' ⟨ha, Q_B0⟩ hb_ hon hoff
        refine ⟨_, rfl, fun K hK => ?_⟩
        have e4 : a.tmps[4]? = some (.int .u64 n) := by rw [ha]; exact putSel_on (e := (0, 4, .int .u64 n)) 0 rfl rfl (hon 0 (by kernel_rfl)) rfl
        have e6 : a.tmps[6]? = some (.int .u64 x.f1) := by rw [ha]; exact putSel_on (e := (2, 6, .int .u64 x.f1)) 2 rfl rfl (hon 2 (by kernel_rfl)) rfl
        replace ha := Aside0.mk ha
        have B0 := Aside0.mk Q_B0
        refine value_ (w1 := w') (v := .bool false) (by rfl) rfl ?_ ?_
        · go_simp
          (try simp only [i64_w])
          try rfl
        refine hK.out _ _ ⟨(by rw [ha.out]; exact putSel_upk 3 hb_ rfl rfl rfl), Q_B0⟩
      refine steps_cons ?_ ?_
      · rintro b a w' ⟨ha, Q_B0⟩ hb_ hon hoff
        refine ⟨_, rfl, fun K hK => ?_⟩
        have e7 : a.tmps[7]? = some (.bool false) := by rw [ha]; exact putSel_on (e := (3, 7, .bool false)) 3 rfl rfl (hon 3 (by kernel_rfl)) rfl
        replace ha := Aside0.mk ha
        have B0 := Aside0.mk Q_B0
        refine value_ (w1 := w') (v := .bool false) (by rfl) rfl ?_ ?_
        · go_simp
          (try simp only [i64_w])
          try rfl
        refine hK.out _ _ ⟨(by rw [ha.out]; exact putSel_upk 4 hb_ rfl rfl rfl), Q_B0⟩
      refine steps_cons ?_ ?_
      · rintro b a w' ⟨ha, Q_B0⟩ hb_ hon hoff
        refine ⟨_, rfl, fun K hK => ?_⟩
        have e8 : a.tmps[8]? = some (.bool false) := by rw [ha]; exact putSel_on (e := (4, 8, .bool false)) 4 rfl rfl (hon 4 (by kernel_rfl)) rfl
        replace ha := Aside0.mk ha
        have B0 := Aside0.mk Q_B0
        refine off_ (wanted_off rfl rfl rfl (e8.trans (by first | rfl | (simp [*]; done)))) ?_
        refine hK.out _ _ ⟨(by rw [ha.out]; exact putSel_upk 5 hb_ rfl rfl rfl), Q_B0⟩
      refine steps_cons ?_ ?_
      · rintro b a w' ⟨ha, Q_B0⟩ hb_ hon hoff
        refine ⟨_, rfl, fun K hK => ?_⟩
        have e8 : a.tmps[8]? = some (.bool false) := by rw [ha]; exact putSel_on (e := (4, 8, .bool false)) 4 rfl rfl (hon 4 (by kernel_rfl)) rfl
        replace ha := Aside0.mk ha
        have B0 := Aside0.mk Q_B0
        refine off_ (wanted_off rfl rfl rfl (e8.trans (by first | rfl | (simp [*]; done)))) ?_
        refine hK.out _ _ ⟨(by rw [ha.out]; exact putSel_upk 6 hb_ rfl rfl rfl), Q_B0⟩
      refine steps_cons ?_ ?_
      · rintro b a w' ⟨ha, Q_B0⟩ hb_ hon hoff
        refine ⟨_, rfl, fun K hK => ?_⟩
        have e8 : a.tmps[8]? = some (.bool false) := by rw [ha]; exact putSel_on (e := (4, 8, .bool false)) 4 rfl rfl (hon 4 (by kernel_rfl)) rfl
        replace ha := Aside0.mk ha
        have B0 := Aside0.mk Q_B0
        refine off_ (wanted_off rfl rfl rfl (e8.trans (by first | rfl | (simp [*]; done)))) ?_
        refine hK.out _ _ ⟨(by rw [ha.out]; exact putSel_upk 7 hb_ rfl rfl rfl), Q_B0⟩
      refine steps_cons ?_ ?_
      · rintro b a w' ⟨ha, Q_B0⟩ hb_ hon hoff
        refine ⟨_, rfl, fun K hK => ?_⟩
        have e8 : a.tmps[8]? = some (.bool false) := by rw [ha]; exact putSel_on (e := (4, 8, .bool false)) 4 rfl rfl (hon 4 (by kernel_rfl)) rfl
        replace ha := Aside0.mk ha
        have B0 := Aside0.mk Q_B0
        refine off_ (wanted_off rfl rfl rfl (e8.trans (by first | rfl | (simp [*]; done)))) ?_
        refine hK.out _ _ ⟨(by rw [ha.out]; exact putSel_upk 8 hb_ rfl rfl rfl), Q_B0⟩
      refine steps_cons ?_ ?_
      · rintro b a w' ⟨ha, Q_B0⟩ hb_ hon hoff
        refine ⟨_, rfl, fun K hK => ?_⟩
        have e8 : a.tmps[8]? = some (.bool false) := by rw [ha]; exact putSel_on (e := (4, 8, .bool false)) 4 rfl rfl (hon 4 (by kernel_rfl)) rfl
        replace ha := Aside0.mk ha
        have B0 := Aside0.mk Q_B0
        refine off_ (wanted_off rfl rfl rfl (e8.trans (by first | rfl | (simp [*]; done)))) ?_
        refine hK.out _ _ ⟨(by rw [ha.out]; exact putSel_upk 9 hb_ rfl rfl rfl), Q_B0⟩
      refine steps_cons ?_ ?_
      · rintro b a w' ⟨ha, Q_B0⟩ hb_ hon hoff
        refine ⟨_, rfl, fun K hK => ?_⟩
        have e8 : a.tmps[8]? = some (.bool false) := by rw [ha]; exact putSel_on (e := (4, 8, .bool false)) 4 rfl rfl (hon 4 (by kernel_rfl)) rfl
        replace ha := Aside0.mk ha
        have B0 := Aside0.mk Q_B0
        refine off_ (wanted_off rfl rfl rfl (e8.trans (by first | rfl | (simp [*]; done)))) ?_
        refine hK.out _ _ ⟨(by rw [ha.out]; exact putSel_upk 10 hb_ rfl rfl rfl), Q_B0⟩
      refine steps_cons ?_ ?_
      · rintro b a w' ⟨ha, Q_B0⟩ hb_ hon hoff
        refine ⟨_, rfl, fun K hK => ?_⟩
        have e8 : a.tmps[8]? = some (.bool false) := by rw [ha]; exact putSel_on (e := (4, 8, .bool false)) 4 rfl rfl (hon 4 (by kernel_rfl)) rfl
        replace ha := Aside0.mk ha
        have B0 := Aside0.mk Q_B0
        refine off_ (wanted_off rfl rfl rfl (e8.trans (by first | rfl | (simp [*]; done)))) ?_
        refine hK.out _ _ ⟨(by rw [ha.out]; exact putSel_upk 11 hb_ rfl rfl rfl), Q_B0⟩
      refine steps_cons ?_ ?_
      · rintro b a w' ⟨ha, Q_B0⟩ hb_ hon hoff
        refine ⟨_, rfl, fun K hK => ?_⟩
        have e8 : a.tmps[8]? = some (.bool false) := by rw [ha]; exact putSel_on (e := (4, 8, .bool false)) 4 rfl rfl (hon 4 (by kernel_rfl)) rfl
        replace ha := Aside0.mk ha
        have B0 := Aside0.mk Q_B0
        refine off_ (wanted_off rfl rfl rfl (e8.trans (by first | rfl | (simp [*]; done)))) ?_
        refine hK.out _ _ ⟨(by rw [ha.out]; exact putSel_upk 12 hb_ rfl rfl rfl), Q_B0⟩
      refine steps_cons ?_ ?_
      · rintro b a w' ⟨ha, Q_B0⟩ hb_ hon hoff
        refine ⟨_, rfl, fun K hK => ?_⟩
        have e8 : a.tmps[8]? = some (.bool false) := by rw [ha]; exact putSel_on (e := (4, 8, .bool false)) 4 rfl rfl (hon 4 (by kernel_rfl)) rfl
        replace ha := Aside0.mk ha
        have B0 := Aside0.mk Q_B0
        refine off_ (wanted_off rfl rfl rfl (e8.trans (by first | rfl | (simp [*]; done)))) ?_
        refine hK.out _ _ ⟨(by rw [ha.out]; exact putSel_upk 13 hb_ rfl rfl rfl), Q_B0⟩
      refine steps_cons ?_ ?_
      · rintro b a w' ⟨ha, Q_B0⟩ hb_ hon hoff
        refine ⟨_, rfl, fun K hK => ?_⟩
        have e8 : a.tmps[8]? = some (.bool false) := by rw [ha]; exact putSel_on (e := (4, 8, .bool false)) 4 rfl rfl (hon 4 (by kernel_rfl)) rfl
        have e17 : a.tmps[17]? = some (undef) := by rw [ha]; exact putSel_on (e := (13, 17, undef)) 13 rfl rfl (hon 13 (by kernel_rfl)) rfl
        replace ha := Aside0.mk ha
        have B0 := Aside0.mk Q_B0
        refine value_ (w1 := w') (v := .bool false) (by rfl) rfl ?_ ?_
        · go_simp
          (try simp only [i64_w])
          try rfl
        refine hK.out _ _ ⟨(by rw [ha.out]; exact putSel_upk 14 hb_ rfl rfl rfl), Q_B0⟩
      refine steps_cons ?_ ?_
      · rintro b a w' ⟨ha, Q_B0⟩ hb_ hon hoff
        refine ⟨_, rfl, fun K hK => ?_⟩
        have e18 : a.tmps[18]? = some (.bool false) := by rw [ha]; exact putSel_on (e := (14, 18, .bool false)) 14 rfl rfl (hon 14 (by kernel_rfl)) rfl
        replace ha := Aside0.mk ha
        have B0 := Aside0.mk Q_B0
        refine value_ (w1 := w') (v := .bool false) (by rfl) rfl ?_ ?_
        · go_simp
          (try simp only [i64_w])
          try rfl
        refine hK.out _ _ ⟨(by rw [ha.out]; exact putSel_upk 15 hb_ rfl rfl rfl), Q_B0⟩
      exact steps_nil
    rintro b a w9 hall ⟨ha, Q_B0⟩
    clear B0
    have hb0_ := hall 0 (by kernel_rfl)
    have hb1_ := hall 1 (by kernel_rfl)
    have hb2_ := hall 2 (by kernel_rfl)
    have hb3_ := hall 3 (by kernel_rfl)
    have hb4_ := hall 4 (by kernel_rfl)
    have hb5_ := hall 5 (by kernel_rfl)
    have hb6_ := hall 6 (by kernel_rfl)
    have hb7_ := hall 7 (by kernel_rfl)
    have hb8_ := hall 8 (by kernel_rfl)
    have hb9_ := hall 9 (by kernel_rfl)
    have hb10_ := hall 10 (by kernel_rfl)
    have hb11_ := hall 11 (by kernel_rfl)
    have hb12_ := hall 12 (by kernel_rfl)
    have hb13_ := hall 13 (by kernel_rfl)
    have hb14_ := hall 14 (by kernel_rfl)
    have hb15_ := hall 15 (by kernel_rfl)
    subst ha
    simp only [putSel, hb0_, hb1_, hb2_, hb3_, hb4_, hb5_, hb6_, hb7_, hb8_, hb9_, hb10_, hb11_, hb12_, hb13_, hb14_, hb15_, if_true, Act.put, List.setIfInBounds_toArray, List.set_cons_zero, List.set_cons_succ]
    have B0 := Aside0.mk Q_B0
    clear Q_B0
    clear hall hb0_ hb1_ hb2_ hb3_ hb4_ hb5_ hb6_ hb7_ hb8_ hb9_ hb10_ hb11_ hb12_ hb13_ hb14_ hb15_
    go_wp2_with fail
    go_ret
    exact ⟨by rw [HE.out]; rfl, below_then HB.out HB.out.size B0.out⟩
  | true =>
    obtain ⟨bq, hbq⟩ : ∃ b, b = decide (IntKind.u64.wrap (n - x.f1) < IntKind.u64.wrap F) := ⟨_, rfl⟩
    have e1 := hbq.symm
    have HE : Aside0 (rb = bq) := ⟨by rw [HRB.out, h1, Bool.true_and, hbq]⟩
    clear hbq
    refine start_ (n := 16) (S := fun w' => True) (ds := []) #[false, false, false, false, false, false, false, false, false, false, false, false, false, false, false, false] (by kernel_rfl) rfl rfl trivial (fun hHeld => ?_)
    refine with_tabW fr1.tab1 fr1.bits1 (fun HT_ HW_ => ?_)
    generalize W1.drew = wz at B0 hHeld ⊢
    refine inv_at [0, 1, 2, 3, 4, 5, 6, 7, 8, 9, 10, 11, 12, 13, 14, 15] (fun a0_ b a w' => a = putSel a0_ b [(0, 4, .int .u64 n), (1, 5, .pointer (some ⟨g2, 1, none⟩)), (2, 6, .int .u64 x.f1), (3, 7, .bool true), (4, 8, .bool true), (5, 9, .int .u64 n), (6, 10, .pointer (some ⟨g2, 1, none⟩)), (7, 11, .int .u64 x.f1), (8, 12, .int .u64 (IntKind.u64.wrap (n - x.f1))), (9, 13, .pointer (some ⟨g2, 3, none⟩)), (10, 14, .int .i64 x.f3), (11, 15, .int .i64 F), (12, 16, .int .u64 (IntKind.u64.wrap F)), (13, 17, .bool bq), (14, 18, .bool bq), (15, 3, .bool bq)] ∧ (Below W1.heap.size W1 w')) HT_.out HW_.out (by kernel_rfl) (by kernel_rfl) ?_ ?_ ?_
    · exact ⟨by simp only [putSel, Bool.false_eq_true, if_false], B0.out⟩
    · skip
      clear B0
      refine steps_cons ?_ ?_
      · rintro b a w' ⟨ha, Q_B0⟩ hb_ hon hoff
        refine ⟨_, rfl, fun K hK => ?_⟩
        have e1 : a.tmps[1]? = some (.pointer (some ⟨gb, 0, none⟩)) := by rw [ha]; exact (putSel_off rfl).trans rfl
        replace ha := Aside0.mk ha
        have B0 := Aside0.mk Q_B0
        have c0_ := blk_cell (blk_below HK.out B0.out) 0
        refine value_ (w1 := w') (v := .int .u64 n) (by rfl) rfl ?_ ?_
        · go_simp
          (try simp only [i64_w])
          try rfl
        refine hK.out _ _ ⟨(by rw [ha.out]; exact putSel_upk 0 hb_ rfl rfl rfl), Q_B0⟩
      refine steps_cons ?_ ?_
      · rintro b a w' ⟨ha, Q_B0⟩ hb_ hon hoff
        refine ⟨_, rfl, fun K hK => ?_⟩
        have e2 : a.tmps[2]? = some (.pointer (some ⟨g2, 0, none⟩)) := by rw [ha]; exact (putSel_off rfl).trans rfl
        replace ha := Aside0.mk ha
        have B0 := Aside0.mk Q_B0
        refine value_ (w1 := w') (v := .pointer (some ⟨g2, 1, none⟩)) (by rfl) rfl ?_ ?_
        · go_simp
          (try simp only [i64_w])
          try rfl
        refine hK.out _ _ ⟨(by rw [ha.out]; exact putSel_upk 1 hb_ rfl rfl rfl), Q_B0⟩
      refine steps_cons ?_ ?_
      · rintro b a w' ⟨ha, Q_B0⟩ hb_ hon hoff
        refine ⟨_, rfl, fun K hK => ?_⟩
        have e5 : a.tmps[5]? = some (.pointer (some ⟨g2, 1, none⟩)) := by rw [ha]; exact putSel_on (e := (1, 5, .pointer (some ⟨g2, 1, none⟩))) 1 rfl rfl (hon 1 (by kernel_rfl)) rfl
        replace ha := Aside0.mk ha
        have B0 := Aside0.mk Q_B0
        have c0_ := blk_cell (blk_below HZ.out B0.out) 1
        refine value_ (w1 := w') (v := .int .u64 x.f1) (by rfl) rfl ?_ ?_
        · go_simp
          (try simp only [i64_w])
          try rfl
        refine hK.out _ _ ⟨(by rw [ha.out]; exact putSel_upk 2 hb_ rfl rfl rfl), Q_B0⟩
      refine steps_cons ?_ ?_
      · rintro b a w' ⟨ha, Q_B0⟩ hb_ hon hoff
        refine ⟨_, rfl, fun K hK => ?_⟩
        have e4 : a.tmps[4]? = some (.int .u64 n) := by rw [ha]; exact putSel_on (e := (0, 4, .int .u64 n)) 0 rfl rfl (hon 0 (by kernel_rfl)) rfl
        have e6 : a.tmps[6]? = some (.int .u64 x.f1) := by rw [ha]; exact putSel_on (e := (2, 6, .int .u64 x.f1)) 2 rfl rfl (hon 2 (by kernel_rfl)) rfl
        replace ha := Aside0.mk ha
        have B0 := Aside0.mk Q_B0
        refine value_ (w1 := w') (v := .bool true) (by rfl) rfl ?_ ?_
        · go_simp
          (try simp only [i64_w])
          try rfl
        refine hK.out _ _ ⟨(by rw [ha.out]; exact putSel_upk 3 hb_ rfl rfl rfl), Q_B0⟩
      refine steps_cons ?_ ?_
      · rintro b a w' ⟨ha, Q_B0⟩ hb_ hon hoff
        refine ⟨_, rfl, fun K hK => ?_⟩
        have e7 : a.tmps[7]? = some (.bool true) := by rw [ha]; exact putSel_on (e := (3, 7, .bool true)) 3 rfl rfl (hon 3 (by kernel_rfl)) rfl
        replace ha := Aside0.mk ha
        have B0 := Aside0.mk Q_B0
        refine value_ (w1 := w') (v := .bool true) (by rfl) rfl ?_ ?_
        · go_simp
          (try simp only [i64_w])
          try rfl
        refine hK.out _ _ ⟨(by rw [ha.out]; exact putSel_upk 4 hb_ rfl rfl rfl), Q_B0⟩
      refine steps_cons ?_ ?_
      · rintro b a w' ⟨ha, Q_B0⟩ hb_ hon hoff
        refine ⟨_, rfl, fun K hK => ?_⟩
        have e1 : a.tmps[1]? = some (.pointer (some ⟨gb, 0, none⟩)) := by rw [ha]; exact (putSel_off rfl).trans rfl
        have e8 : a.tmps[8]? = some (.bool true) := by rw [ha]; exact putSel_on (e := (4, 8, .bool true)) 4 rfl rfl (hon 4 (by kernel_rfl)) rfl
        replace ha := Aside0.mk ha
        have B0 := Aside0.mk Q_B0
        have c0_ := blk_cell (blk_below HK.out B0.out) 0
        refine value_ (w1 := w') (v := .int .u64 n) (wanted_on rfl rfl rfl (e8.trans (by first | rfl | (simp [*]; done)))) rfl ?_ ?_
        · go_simp
          (try simp only [i64_w])
          try rfl
        refine hK.out _ _ ⟨(by rw [ha.out]; exact putSel_upk 5 hb_ rfl rfl rfl), Q_B0⟩
      refine steps_cons ?_ ?_
      · rintro b a w' ⟨ha, Q_B0⟩ hb_ hon hoff
        refine ⟨_, rfl, fun K hK => ?_⟩
        have e2 : a.tmps[2]? = some (.pointer (some ⟨g2, 0, none⟩)) := by rw [ha]; exact (putSel_off rfl).trans rfl
        have e8 : a.tmps[8]? = some (.bool true) := by rw [ha]; exact putSel_on (e := (4, 8, .bool true)) 4 rfl rfl (hon 4 (by kernel_rfl)) rfl
        replace ha := Aside0.mk ha
        have B0 := Aside0.mk Q_B0
        refine value_ (w1 := w') (v := .pointer (some ⟨g2, 1, none⟩)) (wanted_on rfl rfl rfl (e8.trans (by first | rfl | (simp [*]; done)))) rfl ?_ ?_
        · go_simp
          (try simp only [i64_w])
          try rfl
        refine hK.out _ _ ⟨(by rw [ha.out]; exact putSel_upk 6 hb_ rfl rfl rfl), Q_B0⟩
      refine steps_cons ?_ ?_
      · rintro b a w' ⟨ha, Q_B0⟩ hb_ hon hoff
        refine ⟨_, rfl, fun K hK => ?_⟩
        have e10 : a.tmps[10]? = some (.pointer (some ⟨g2, 1, none⟩)) := by rw [ha]; exact putSel_on (e := (6, 10, .pointer (some ⟨g2, 1, none⟩))) 6 rfl rfl (hon 6 (by kernel_rfl)) rfl
        have e8 : a.tmps[8]? = some (.bool true) := by rw [ha]; exact putSel_on (e := (4, 8, .bool true)) 4 rfl rfl (hon 4 (by kernel_rfl)) rfl
        replace ha := Aside0.mk ha
        have B0 := Aside0.mk Q_B0
        have c0_ := blk_cell (blk_below HZ.out B0.out) 1
        refine value_ (w1 := w') (v := .int .u64 x.f1) (wanted_on rfl rfl rfl (e8.trans (by first | rfl | (simp [*]; done)))) rfl ?_ ?_
        · go_simp
          (try simp only [i64_w])
          try rfl
        refine hK.out _ _ ⟨(by rw [ha.out]; exact putSel_upk 7 hb_ rfl rfl rfl), Q_B0⟩
      refine steps_cons ?_ ?_
      · rintro b a w' ⟨ha, Q_B0⟩ hb_ hon hoff
        refine ⟨_, rfl, fun K hK => ?_⟩
        have e9 : a.tmps[9]? = some (.int .u64 n) := by rw [ha]; exact putSel_on (e := (5, 9, .int .u64 n)) 5 rfl rfl (hon 5 (by kernel_rfl)) rfl
        have e11 : a.tmps[11]? = some (.int .u64 x.f1) := by rw [ha]; exact putSel_on (e := (7, 11, .int .u64 x.f1)) 7 rfl rfl (hon 7 (by kernel_rfl)) rfl
        have e8 : a.tmps[8]? = some (.bool true) := by rw [ha]; exact putSel_on (e := (4, 8, .bool true)) 4 rfl rfl (hon 4 (by kernel_rfl)) rfl
        replace ha := Aside0.mk ha
        have B0 := Aside0.mk Q_B0
        refine value_ (w1 := w') (v := .int .u64 (IntKind.u64.wrap (n - x.f1))) (wanted_on rfl rfl rfl (e8.trans (by first | rfl | (simp [*]; done)))) rfl ?_ ?_
        · go_simp
          (try simp only [i64_w])
          try rfl
        refine hK.out _ _ ⟨(by rw [ha.out]; exact putSel_upk 8 hb_ rfl rfl rfl), Q_B0⟩
      refine steps_cons ?_ ?_
      · rintro b a w' ⟨ha, Q_B0⟩ hb_ hon hoff
        refine ⟨_, rfl, fun K hK => ?_⟩
        have e2 : a.tmps[2]? = some (.pointer (some ⟨g2, 0, none⟩)) := by rw [ha]; exact (putSel_off rfl).trans rfl
        have e8 : a.tmps[8]? = some (.bool true) := by rw [ha]; exact putSel_on (e := (4, 8, .bool true)) 4 rfl rfl (hon 4 (by kernel_rfl)) rfl
        replace ha := Aside0.mk ha
        have B0 := Aside0.mk Q_B0
        refine value_ (w1 := w') (v := .pointer (some ⟨g2, 3, none⟩)) (wanted_on rfl rfl rfl (e8.trans (by first | rfl | (simp [*]; done)))) rfl ?_ ?_
        · go_simp
          (try simp only [i64_w])
          try rfl
        refine hK.out _ _ ⟨(by rw [ha.out]; exact putSel_upk 9 hb_ rfl rfl rfl), Q_B0⟩
      refine steps_cons ?_ ?_
      · rintro b a w' ⟨ha, Q_B0⟩ hb_ hon hoff
        refine ⟨_, rfl, fun K hK => ?_⟩
        have e13 : a.tmps[13]? = some (.pointer (some ⟨g2, 3, none⟩)) := by rw [ha]; exact putSel_on (e := (9, 13, .pointer (some ⟨g2, 3, none⟩))) 9 rfl rfl (hon 9 (by kernel_rfl)) rfl
        have e8 : a.tmps[8]? = some (.bool true) := by rw [ha]; exact putSel_on (e := (4, 8, .bool true)) 4 rfl rfl (hon 4 (by kernel_rfl)) rfl
        replace ha := Aside0.mk ha
        have B0 := Aside0.mk Q_B0
        have c0_ := blk_cell (blk_below HZ.out B0.out) 3
        refine value_ (w1 := w') (v := .int .i64 x.f3) (wanted_on rfl rfl rfl (e8.trans (by first | rfl | (simp [*]; done)))) rfl ?_ ?_
        · go_simp
          (try simp only [i64_w])
          try rfl
        refine hK.out _ _ ⟨(by rw [ha.out]; exact putSel_upk 10 hb_ rfl rfl rfl), Q_B0⟩
      refine steps_cons ?_ ?_
      · rintro b a w' ⟨ha, Q_B0⟩ hb_ hon hoff
        refine ⟨_, rfl, fun K hK => ?_⟩
        have e14 : a.tmps[14]? = some (.int .i64 x.f3) := by rw [ha]; exact putSel_on (e := (10, 14, .int .i64 x.f3)) 10 rfl rfl (hon 10 (by kernel_rfl)) rfl
        have e8 : a.tmps[8]? = some (.bool true) := by rw [ha]; exact putSel_on (e := (4, 8, .bool true)) 4 rfl rfl (hon 4 (by kernel_rfl)) rfl
        replace ha := Aside0.mk ha
        have B0 := Aside0.mk Q_B0
        refine goes_ Try.func14 (by kernel_rfl) rfl #[.int .i64 x.f3] (wanted_on rfl rfl rfl (e8.trans rfl)) rfl rfl (by first | (simp only [List.map_toArray, List.map_cons, List.map_nil, Act.eval, Array.getD_eq_getD_getElem?, Option.getD_some, e14, e8]; done) | (simp only [List.map_toArray, List.map_cons, List.map_nil, Act.eval, Array.getD_eq_getD_getElem?, Option.getD_some, e14, e8]; rfl)) ?_
        with_reducible refine (HFC.out _).mono ?_
        rintro e w2 ⟨rfl, hb⟩
        refine ⟨_, rfl, ?_⟩
        refine hK.out _ _ ⟨(by rw [ha.out]; exact putSel_upk 11 hb_ rfl rfl rfl), below_then B0.out B0.out.size hb⟩
      refine steps_cons ?_ ?_
      · rintro b a w' ⟨ha, Q_B0⟩ hb_ hon hoff
        refine ⟨_, rfl, fun K hK => ?_⟩
        have e15 : a.tmps[15]? = some (.int .i64 F) := by rw [ha]; exact putSel_on (e := (11, 15, .int .i64 F)) 11 rfl rfl (hon 11 (by kernel_rfl)) rfl
        have e8 : a.tmps[8]? = some (.bool true) := by rw [ha]; exact putSel_on (e := (4, 8, .bool true)) 4 rfl rfl (hon 4 (by kernel_rfl)) rfl
        replace ha := Aside0.mk ha
        have B0 := Aside0.mk Q_B0
        refine value_ (w1 := w') (v := .int .u64 (IntKind.u64.wrap F)) (wanted_on rfl rfl rfl (e8.trans (by first | rfl | (simp [*]; done)))) rfl ?_ ?_
        · go_simp
          (try simp only [i64_w])
          try rfl
        refine hK.out _ _ ⟨(by rw [ha.out]; exact putSel_upk 12 hb_ rfl rfl rfl), Q_B0⟩
      refine steps_cons ?_ ?_
      · rintro b a w' ⟨ha, Q_B0⟩ hb_ hon hoff
        refine ⟨_, rfl, fun K hK => ?_⟩
        have e12 : a.tmps[12]? = some (.int .u64 (IntKind.u64.wrap (n - x.f1))) := by rw [ha]; exact putSel_on (e := (8, 12, .int .u64 (IntKind.u64.wrap (n - x.f1)))) 8 rfl rfl (hon 8 (by kernel_rfl)) rfl
        have e16 : a.tmps[16]? = some (.int .u64 (IntKind.u64.wrap F)) := by rw [ha]; exact putSel_on (e := (12, 16, .int .u64 (IntKind.u64.wrap F))) 12 rfl rfl (hon 12 (by kernel_rfl)) rfl
        have e8 : a.tmps[8]? = some (.bool true) := by rw [ha]; exact putSel_on (e := (4, 8, .bool true)) 4 rfl rfl (hon 4 (by kernel_rfl)) rfl
        replace ha := Aside0.mk ha
        have B0 := Aside0.mk Q_B0
        refine value_ (w1 := w') (v := .bool bq) (wanted_on rfl rfl rfl (e8.trans (by first | rfl | (simp [*]; done)))) rfl ?_ ?_
        · go_simp
          (try simp only [i64_w])
          try rfl
        refine hK.out _ _ ⟨(by rw [ha.out]; exact putSel_upk 13 hb_ rfl rfl rfl), Q_B0⟩
      refine steps_cons ?_ ?_
      · rintro b a w' ⟨ha, Q_B0⟩ hb_ hon hoff
        refine ⟨_, rfl, fun K hK => ?_⟩
        have e8 : a.tmps[8]? = some (.bool true) := by rw [ha]; exact putSel_on (e := (4, 8, .bool true)) 4 rfl rfl (hon 4 (by kernel_rfl)) rfl
        have e17 : a.tmps[17]? = some (.bool bq) := by rw [ha]; exact putSel_on (e := (13, 17, .bool bq)) 13 rfl rfl (hon 13 (by kernel_rfl)) rfl
        replace ha := Aside0.mk ha
        have B0 := Aside0.mk Q_B0
        refine value_ (w1 := w') (v := .bool bq) (by rfl) rfl ?_ ?_
        · go_simp
          (try simp only [i64_w])
          try rfl
        refine hK.out _ _ ⟨(by rw [ha.out]; exact putSel_upk 14 hb_ rfl rfl rfl), Q_B0⟩
      refine steps_cons ?_ ?_
      · rintro b a w' ⟨ha, Q_B0⟩ hb_ hon hoff
        refine ⟨_, rfl, fun K hK => ?_⟩
        have e18 : a.tmps[18]? = some (.bool bq) := by rw [ha]; exact putSel_on (e := (14, 18, .bool bq)) 14 rfl rfl (hon 14 (by kernel_rfl)) rfl
        replace ha := Aside0.mk ha
        have B0 := Aside0.mk Q_B0
        refine value_ (w1 := w') (v := .bool bq) (by rfl) rfl ?_ ?_
        · go_simp
          (try simp only [i64_w])
          try rfl
        refine hK.out _ _ ⟨(by rw [ha.out]; exact putSel_upk 15 hb_ rfl rfl rfl), Q_B0⟩
      exact steps_nil
    rintro b a w9 hall ⟨ha, Q_B0⟩
    clear B0
    have hb0_ := hall 0 (by kernel_rfl)
    have hb1_ := hall 1 (by kernel_rfl)
    have hb2_ := hall 2 (by kernel_rfl)
    have hb3_ := hall 3 (by kernel_rfl)
    have hb4_ := hall 4 (by kernel_rfl)
    have hb5_ := hall 5 (by kernel_rfl)
    have hb6_ := hall 6 (by kernel_rfl)
    have hb7_ := hall 7 (by kernel_rfl)
    have hb8_ := hall 8 (by kernel_rfl)
    have hb9_ := hall 9 (by kernel_rfl)
    have hb10_ := hall 10 (by kernel_rfl)
    have hb11_ := hall 11 (by kernel_rfl)
    have hb12_ := hall 12 (by kernel_rfl)
    have hb13_ := hall 13 (by kernel_rfl)
    have hb14_ := hall 14 (by kernel_rfl)
    have hb15_ := hall 15 (by kernel_rfl)
    subst ha
    simp only [putSel, hb0_, hb1_, hb2_, hb3_, hb4_, hb5_, hb6_, hb7_, hb8_, hb9_, hb10_, hb11_, hb12_, hb13_, hb14_, hb15_, if_true, Act.put, List.setIfInBounds_toArray, List.set_cons_zero, List.set_cons_succ]
    have B0 := Aside0.mk Q_B0
    clear Q_B0
    clear hall hb0_ hb1_ hb2_ hb3_ hb4_ hb5_ hb6_ hb7_ hb8_ hb9_ hb10_ hb11_ hb12_ hb13_ hb14_ hb15_
    go_wp2_with fail
    go_ret
    exact ⟨by rw [HE.out]; rfl, below_then HB.out HB.out.size B0.out⟩
end Go.Proofs.Ytaepbgieahedjaa.QS
namespace Go.Proofs.Ytaepbgieahedjaa.QS
set_option linter.unusedVariables false
set_option linter.unusedSimpArgs false
open Go.RowKit Go.Proofs.Ytaepbgieahedjaa.Hp Go.Proofs.YtaepbgieahedjaaW.PrintWords Go.Proofs.YtaepbgieahedjaaW.PrintLast Go.Proofs.YtaepbgieahedjaaW.PrintMore
open Go.Proofs.Ytaepbgieahedjaa.IP
def frm4.T4 : Bool × List (List Nat × List Nat) := (true, [([], []), ([0], [0]), ([1], [1]), ([], []), ([], []), ([4], [4]), ([5], [5]), ([6], [6]), ([3, 7], [3, 7]), ([8], [8]), ([2, 0, 1, 2], [2]), ([9, 10, 0, 1, 2, 3, 4, 5, 6, 7, 8, 9, 10], [9]), ([11, 0, 1, 2, 3, 4, 5, 6, 7, 8, 9, 10, 11], [])])
def frm4.B4 : List Nat := [0, 1, 3, 0, 0, 16, 48, 112, 248, 504, 7, 2047, 4095]
theorem frm4.tab4 : rtab .any (opsOf Try.f10 4) = frm4.T4 := by kernel_rfl
theorem frm4.bits4 : waitsOk frm4.T4.2 frm4.B4 = true := by kernel_rfl
def FrameTo (W w' : World) (e : Ending) (x : R0) (n : Int) : Prop := ∃ A c, e = .returned (.tuple #[ragg x A c, .int .i64 (IntKind.i64.wrap (IntKind.u64.wrap (n - x.f1))), .bool true]) ∧ Kd.C (Kd.int .i64) w' A x.f7.length x.f7 ∧ x.f7.length ≤ c ∧ Below W.heap.size W w'
set_option maxHeartbeats 4000000 in
set_option maxRecDepth 100000 in
theorem frame_yes {W : World} {base g0 : Nat} {l : List R0} (h : IX W base g0 l) (hn : l.length ≤ 1000) (hp : ∀ x ∈ l, x.f7.length ≤ 1000) (n : Int) (x : R0) (r : List R0) (hf : l.filter (inB n) = x :: r) : Calls Try.prog 10 #[.pointer (some ⟨g0, 0, none⟩), .int .u64 n] W fun e w' => FrameTo W w' e x n := by
  have hbx := heap_alloc_new W (.cells #[.int .u64 n] 23)
  have hz := heap_alloc_new (W.alloc (.cells #[.int .u64 n] 23)) (.cells #[.int .u64 0, .int .u64 0, .int .i64 0, .int .i64 0, .int .u64 0, .bool false, .int .i64 0, .slice none 0 0] 29)
  have hb := below_alloc (below_alloc (Below.refl W.heap.size W) (.cells #[.int .u64 n] 23)) (.cells #[.int .u64 0, .int .u64 0, .int .i64 0, .int .i64 0, .int .u64 0, .bool false, .int .i64 0, .slice none 0 0] 29)
  have hs : (W.alloc (.cells #[.int .u64 n] 23)).heap.size = W.heap.size + 1 := by simp
  have hbx := blk_below hbx (below_alloc (Below.refl _ _) (.cells #[.int .u64 0, .int .u64 0, .int .i64 0, .int .i64 0, .int .u64 0, .bool false, .int .i64 0, .slice none 0 0] 29))
  rw [hs] at hz
  obtain ⟨g, hg⟩ : ∃ g, g = W.heap.size + 1 := ⟨_, rfl⟩
  obtain ⟨gb, hgb⟩ : ∃ g, g = W.heap.size := ⟨_, rfl⟩
  have HX1 := Aside0.mk (h.below hb)
  have HN := Aside0.mk (And.intro hn hp)
  have HF := Aside0.mk hf
  clear h hn hp hf
  go_enter Try.func10, Try.ntmps10
  go_upto_region 1 with fail
  generalize (W.alloc (.cells #[.int .u64 n] 23)).alloc (.cells #[.int .u64 0, .int .u64 0, .int .i64 0, .int .i64 0, .int .u64 0, .bool false, .int .i64 0, .slice none 0 0] 29) = W1 at hz hb hbx HX1 ⊢
  clear hs
  rw [← hg] at hz ⊢
  rw [← hgb] at hbx ⊢
  have HG : Aside0 (W.heap.size ≤ g) := ⟨by omega⟩
  have HGB : Aside0 (gb + 1 = g) := ⟨by omega⟩
  have HZ := Aside0.mk hz
  have HB := Aside0.mk hb
  have HBX := Aside0.mk hbx
  have HS := Aside0.mk (isome_calls 26 _ #[.pointer (some ⟨gb, 0, none⟩)] Try.func26 rfl rfl (inB n) l base g0 W1 HN.out.1 HN.out.2 HX1.out (fun W' hW x Ap cpp => frame_fn x Ap cpp W' (blk_below HBX.out hW)))
  clear hz hb hg hgb hbx
  go_upto_region 4 with (go_at_call 25; refine HS.out.mono ?_; rintro e w2 ⟨v, rfl, hR, hb⟩; rw [HF.out] at hR; obtain ⟨Av, cv, rfl⟩ := Kd.R_slice hR; have HR := Aside0.mk hR; have HZ2 := Aside0.mk (blk_below HZ.out hb); have HBX2 := Aside0.mk (blk_below HBX.out hb); have HB2 := Aside0.mk (below_then HB.out HB.out.size hb); clear hb hR)
  have hR3 : k29.R 29 w2 W1.heap.size (fun k => g < k) (.slice Av (x :: r).length cv) (x :: r) := Kd.R_mono HR.out (fun k hk => Nat.lt_of_lt_of_le (blk_lt HZ.out) hk)
  obtain ⟨gq, Ax, cx, cur, rfl, hgq, hzq, hcur, hRx⟩ := IX.at (i := 0) hR3 rfl
  have HCUR : Aside0 (∀ k u, (encR x Ax cx)[k]? = some u → cur[k]? = some u) := ⟨fun k u h => by have := hcur k u h; rwa [Nat.zero_mul, Nat.zero_add] at this⟩
  have B0 := Aside0.mk (below_then HB2.out HB2.out.size (below_drew1 (Below.refl w2.heap.size w2)))
  have ZQ := Aside0.mk (show w2.drew.heap[gq]? = some (.cells cur 29 (0, 0)) from hzq)
  have ZN := Aside0.mk (show w2.drew.heap[gb]? = some (.cells #[.int .u64 n] 23 (0, 0)) from HBX2.out)
  have ZZ := Aside0.mk (show w2.drew.heap[g]? = some (.cells #[.int .u64 0, .int .u64 0, .int .i64 0, .int .i64 0, .int .u64 0, .bool false, .int .i64 0, .slice none 0 0] 29 (0, 0)) from HZ2.out)
  have RX := Aside0.mk (Kd.R_below hRx (below_drew1 (Below.refl w2.heap.size w2)))
  have HNE : Aside0 (gq ≠ g ∧ gb ≠ g) := ⟨by omega, by have := HGB.out; omega⟩
  have q0 := eq_true (show (0 : Int) < (r.length : Int) + 1 by omega)
  have FIN := True.intro
  clear hR3 hgq hzq hcur hRx HR HS HF HBX HZ2 HBX2 HB2
  refine start_ (n := 13) (S := fun w' => True) (ds := []) #[false, false, false, false, false, false, false, false, false, false, false, false, false] (by kernel_rfl) rfl rfl trivial (fun hHeld => ?_)
  refine with_tabW frm4.tab4 frm4.bits4 (fun HT_ HW_ => ?_)
  generalize w2.drew = wz at B0 ZQ ZN ZZ RX hHeld ⊢
  refine inv_at [0, 1, 2, 3, 4, 5, 6, 7, 8, 9, 10, 11, 12] (fun a0_ b a w' => a = putSel a0_ b [(0, 15, .slice (some ⟨gq, 0, none⟩) (r.length + 1) cv), (1, 16, .pointer (some ⟨gq, 0, none⟩)), (2, 17, .agg #[.int .u64 x.f0, .int .u64 x.f1, .int .i64 x.f2, .int .i64 x.f3, .int .u64 x.f4, .bool x.f5, .int .i64 x.f6, .slice Ax x.f7.length cx]), (3, 18, .int .u64 n), (4, 19, .slice (some ⟨gq, 0, none⟩) (r.length + 1) cv), (5, 20, .pointer (some ⟨gq, 0, none⟩)), (6, 21, .pointer (some ⟨gq, 1, none⟩)), (7, 22, .int .u64 x.f1), (8, 23, .int .u64 (IntKind.u64.wrap (n - x.f1))), (9, 24, .int .i64 (IntKind.i64.wrap (IntKind.u64.wrap (n - x.f1)))), (11, 5, .int .i64 (IntKind.i64.wrap (IntKind.u64.wrap (n - x.f1)))), (12, 6, .bool true)] ∧ (Below W.heap.size W w') ∧ (w'.heap[gq]? = some (.cells cur 29 (0, 0))) ∧ (w'.heap[gb]? = some (.cells #[.int .u64 n] 23 (0, 0))) ∧ (b 10 = false → w'.heap[g]? = some (.cells #[.int .u64 0, .int .u64 0, .int .i64 0, .int .i64 0, .int .u64 0, .bool false, .int .i64 0, .slice none 0 0] 29 (0, 0))) ∧ ((Kd.int .i64).R 3 w' W1.heap.size (fun k => g < k ∧ k ≠ gq) (.slice Ax x.f7.length cx) x.f7) ∧ (b 10 = true → w'.heap[g]? = some (.cells #[.int .u64 x.f0, .int .u64 x.f1, .int .i64 x.f2, .int .i64 x.f3, .int .u64 x.f4, .bool x.f5, .int .i64 x.f6, .slice Ax x.f7.length cx] 29 (0, 0)))) HT_.out HW_.out (by kernel_rfl) (by kernel_rfl) ?_ ?_ ?_
  · exact ⟨by simp only [putSel, Bool.false_eq_true, if_false], B0.out, ZQ.out, ZN.out, fun _ => ZZ.out, RX.out, fun h_ => absurd h_ (by decide)⟩
  · skip
    clear B0 RX ZN ZQ ZZ
    refine steps_cons ?_ ?_
    · rintro b a w' ⟨ha, Q_B0, Q_ZQ, Q_ZN, Q_ZZ, Q_RX, Q_FIN⟩ hb_ hon hoff
      refine ⟨_, rfl, fun K hK => ?_⟩
      have e7 : a.tmps[7]? = some (.slice (some ⟨gq, 0, none⟩) (r.length + 1) cv) := by rw [ha]; exact (putSel_off rfl).trans rfl
      replace ha := Aside0.mk ha
      have B0 := Aside0.mk Q_B0
      have ZQ := Aside0.mk Q_ZQ
      have ZN := Aside0.mk Q_ZN
      have ZZ := Aside0.mk (Q_ZZ (hoff 10 (by kernel_rfl)))
      have RX := Aside0.mk Q_RX
      refine value_ (w1 := w') (v := .slice (some ⟨gq, 0, none⟩) (r.length + 1) cv) (by rfl) rfl ?_ ?_
      · go_simp
        (try simp only [i64_w])
        try rfl
      refine hK.out _ _ ⟨(by rw [ha.out]; exact putSel_upk 0 hb_ rfl rfl rfl), Q_B0, Q_ZQ, Q_ZN, Q_ZZ, Q_RX, fun h0_ => absurd ((hoff 10 (by kernel_rfl)).symm.trans h0_) (by decide)⟩
    refine steps_cons ?_ ?_
    · rintro b a w' ⟨ha, Q_B0, Q_ZQ, Q_ZN, Q_ZZ, Q_RX, Q_FIN⟩ hb_ hon hoff
      refine ⟨_, rfl, fun K hK => ?_⟩
      have e15 : a.tmps[15]? = some (.slice (some ⟨gq, 0, none⟩) (r.length + 1) cv) := by rw [ha]; exact putSel_on (e := (0, 15, .slice (some ⟨gq, 0, none⟩) (r.length + 1) cv)) 0 rfl rfl (hon 0 (by kernel_rfl)) rfl
      replace ha := Aside0.mk ha
      have B0 := Aside0.mk Q_B0
      have ZQ := Aside0.mk Q_ZQ
      have ZN := Aside0.mk Q_ZN
      have ZZ := Aside0.mk (Q_ZZ (hoff 10 (by kernel_rfl)))
      have RX := Aside0.mk Q_RX
      refine value_ (w1 := w') (v := .pointer (some ⟨gq, 0, none⟩)) (by rfl) rfl ?_ ?_
      · go_simp
        (try simp only [i64_w])
        try rfl
      refine hK.out _ _ ⟨(by rw [ha.out]; exact putSel_upk 1 hb_ rfl rfl rfl), Q_B0, Q_ZQ, Q_ZN, Q_ZZ, Q_RX, fun h0_ => absurd ((hoff 10 (by kernel_rfl)).symm.trans h0_) (by decide)⟩
    refine steps_cons ?_ ?_
    · rintro b a w' ⟨ha, Q_B0, Q_ZQ, Q_ZN, Q_ZZ, Q_RX, Q_FIN⟩ hb_ hon hoff
      refine ⟨_, rfl, fun K hK => ?_⟩
      have e16 : a.tmps[16]? = some (.pointer (some ⟨gq, 0, none⟩)) := by rw [ha]; exact putSel_on (e := (1, 16, .pointer (some ⟨gq, 0, none⟩))) 1 rfl rfl (hon 1 (by kernel_rfl)) rfl
      replace ha := Aside0.mk ha
      have B0 := Aside0.mk Q_B0
      have ZQ := Aside0.mk Q_ZQ
      have ZN := Aside0.mk Q_ZN
      have ZZ := Aside0.mk (Q_ZZ (hoff 10 (by kernel_rfl)))
      have RX := Aside0.mk Q_RX
      have r0_ := (blk_cell ZQ.out 0).trans (HCUR.out 0 _ rfl)
      have r1_ := (blk_cell ZQ.out 1).trans (HCUR.out 1 _ rfl)
      have r2_ := (blk_cell ZQ.out 2).trans (HCUR.out 2 _ rfl)
      have r3_ := (blk_cell ZQ.out 3).trans (HCUR.out 3 _ rfl)
      have r4_ := (blk_cell ZQ.out 4).trans (HCUR.out 4 _ rfl)
      have r5_ := (blk_cell ZQ.out 5).trans (HCUR.out 5 _ rfl)
      have r6_ := (blk_cell ZQ.out 6).trans (HCUR.out 6 _ rfl)
      have r7_ := (blk_cell ZQ.out 7).trans (HCUR.out 7 _ rfl)
      refine value_ (w1 := w') (v := .agg #[.int .u64 x.f0, .int .u64 x.f1, .int .i64 x.f2, .int .i64 x.f3, .int .u64 x.f4, .bool x.f5, .int .i64 x.f6, .slice Ax x.f7.length cx]) (by rfl) rfl ?_ ?_
      · go_simp
        (try simp only [i64_w])
        try rfl
      refine hK.out _ _ ⟨(by rw [ha.out]; exact putSel_upk 2 hb_ rfl rfl rfl), Q_B0, Q_ZQ, Q_ZN, Q_ZZ, Q_RX, fun h0_ => absurd ((hoff 10 (by kernel_rfl)).symm.trans h0_) (by decide)⟩
    refine steps_cons ?_ ?_
    · rintro b a w' ⟨ha, Q_B0, Q_ZQ, Q_ZN, Q_ZZ, Q_RX, Q_FIN⟩ hb_ hon hoff
      refine ⟨_, rfl, fun K hK => ?_⟩
      have e3 : a.tmps[3]? = some (.pointer (some ⟨gb, 0, none⟩)) := by rw [ha]; exact (putSel_off rfl).trans rfl
      replace ha := Aside0.mk ha
      have B0 := Aside0.mk Q_B0
      have ZQ := Aside0.mk Q_ZQ
      have ZN := Aside0.mk Q_ZN
      have RX := Aside0.mk Q_RX
      have c0_ := blk_cell (ZN.out) 0
      refine value_ (w1 := w') (v := .int .u64 n) (by rfl) rfl ?_ ?_
      · go_simp
        (try simp only [i64_w])
        try rfl
      refine hK.out _ _ ⟨(by rw [ha.out]; exact putSel_upk 3 hb_ rfl rfl rfl), Q_B0, Q_ZQ, Q_ZN, Q_ZZ, Q_RX, Q_FIN⟩
    refine steps_cons ?_ ?_
    · rintro b a w' ⟨ha, Q_B0, Q_ZQ, Q_ZN, Q_ZZ, Q_RX, Q_FIN⟩ hb_ hon hoff
      refine ⟨_, rfl, fun K hK => ?_⟩
      have e7 : a.tmps[7]? = some (.slice (some ⟨gq, 0, none⟩) (r.length + 1) cv) := by rw [ha]; exact (putSel_off rfl).trans rfl
      replace ha := Aside0.mk ha
      have B0 := Aside0.mk Q_B0
      have ZQ := Aside0.mk Q_ZQ
      have ZN := Aside0.mk Q_ZN
      have RX := Aside0.mk Q_RX
      refine value_ (w1 := w') (v := .slice (some ⟨gq, 0, none⟩) (r.length + 1) cv) (by rfl) rfl ?_ ?_
      · go_simp
        (try simp only [i64_w])
        try rfl
      refine hK.out _ _ ⟨(by rw [ha.out]; exact putSel_upk 4 hb_ rfl rfl rfl), Q_B0, Q_ZQ, Q_ZN, Q_ZZ, Q_RX, Q_FIN⟩
    refine steps_cons ?_ ?_
    · rintro b a w' ⟨ha, Q_B0, Q_ZQ, Q_ZN, Q_ZZ, Q_RX, Q_FIN⟩ hb_ hon hoff
      refine ⟨_, rfl, fun K hK => ?_⟩
      have e19 : a.tmps[19]? = some (.slice (some ⟨gq, 0, none⟩) (r.length + 1) cv) := by rw [ha]; exact putSel_on (e := (4, 19, .slice (some ⟨gq, 0, none⟩) (r.length + 1) cv)) 4 rfl rfl (hon 4 (by kernel_rfl)) rfl
      replace ha := Aside0.mk ha
      have B0 := Aside0.mk Q_B0
      have ZQ := Aside0.mk Q_ZQ
      have ZN := Aside0.mk Q_ZN
      have RX := Aside0.mk Q_RX
      refine value_ (w1 := w') (v := .pointer (some ⟨gq, 0, none⟩)) (by rfl) rfl ?_ ?_
      · go_simp
        (try simp only [i64_w])
        try rfl
      refine hK.out _ _ ⟨(by rw [ha.out]; exact putSel_upk 5 hb_ rfl rfl rfl), Q_B0, Q_ZQ, Q_ZN, Q_ZZ, Q_RX, Q_FIN⟩
    refine steps_cons ?_ ?_
    · rintro b a w' ⟨ha, Q_B0, Q_ZQ, Q_ZN, Q_ZZ, Q_RX, Q_FIN⟩ hb_ hon hoff
      refine ⟨_, rfl, fun K hK => ?_⟩
      have e20 : a.tmps[20]? = some (.pointer (some ⟨gq, 0, none⟩)) := by rw [ha]; exact putSel_on (e := (5, 20, .pointer (some ⟨gq, 0, none⟩))) 5 rfl rfl (hon 5 (by kernel_rfl)) rfl
      replace ha := Aside0.mk ha
      have B0 := Aside0.mk Q_B0
      have ZQ := Aside0.mk Q_ZQ
      have ZN := Aside0.mk Q_ZN
      have RX := Aside0.mk Q_RX
      refine value_ (w1 := w') (v := .pointer (some ⟨gq, 1, none⟩)) (by rfl) rfl ?_ ?_
      · go_simp
        (try simp only [i64_w])
        try rfl
      refine hK.out _ _ ⟨(by rw [ha.out]; exact putSel_upk 6 hb_ rfl rfl rfl), Q_B0, Q_ZQ, Q_ZN, Q_ZZ, Q_RX, Q_FIN⟩
    refine steps_cons ?_ ?_
    · rintro b a w' ⟨ha, Q_B0, Q_ZQ, Q_ZN, Q_ZZ, Q_RX, Q_FIN⟩ hb_ hon hoff
      refine ⟨_, rfl, fun K hK => ?_⟩
      have e21 : a.tmps[21]? = some (.pointer (some ⟨gq, 1, none⟩)) := by rw [ha]; exact putSel_on (e := (6, 21, .pointer (some ⟨gq, 1, none⟩))) 6 rfl rfl (hon 6 (by kernel_rfl)) rfl
      replace ha := Aside0.mk ha
      have B0 := Aside0.mk Q_B0
      have ZQ := Aside0.mk Q_ZQ
      have ZN := Aside0.mk Q_ZN
      have RX := Aside0.mk Q_RX
      have r1_ := (blk_cell ZQ.out 1).trans (HCUR.out 1 _ rfl)
      refine value_ (w1 := w') (v := .int .u64 x.f1) (by rfl) rfl ?_ ?_
      · go_simp
        (try simp only [i64_w])
        try rfl
      refine hK.out _ _ ⟨(by rw [ha.out]; exact putSel_upk 7 hb_ rfl rfl rfl), Q_B0, Q_ZQ, Q_ZN, Q_ZZ, Q_RX, Q_FIN⟩
    refine steps_cons ?_ ?_
    · rintro b a w' ⟨ha, Q_B0, Q_ZQ, Q_ZN, Q_ZZ, Q_RX, Q_FIN⟩ hb_ hon hoff
      refine ⟨_, rfl, fun K hK => ?_⟩
      have e18 : a.tmps[18]? = some (.int .u64 n) := by rw [ha]; exact putSel_on (e := (3, 18, .int .u64 n)) 3 rfl rfl (hon 3 (by kernel_rfl)) rfl
      have e22 : a.tmps[22]? = some (.int .u64 x.f1) := by rw [ha]; exact putSel_on (e := (7, 22, .int .u64 x.f1)) 7 rfl rfl (hon 7 (by kernel_rfl)) rfl
      replace ha := Aside0.mk ha
      have B0 := Aside0.mk Q_B0
      have ZQ := Aside0.mk Q_ZQ
      have ZN := Aside0.mk Q_ZN
      have RX := Aside0.mk Q_RX
      refine value_ (w1 := w') (v := .int .u64 (IntKind.u64.wrap (n - x.f1))) (by rfl) rfl ?_ ?_
      · go_simp
        (try simp only [i64_w])
        try rfl
      refine hK.out _ _ ⟨(by rw [ha.out]; exact putSel_upk 8 hb_ rfl rfl rfl), Q_B0, Q_ZQ, Q_ZN, Q_ZZ, Q_RX, Q_FIN⟩
    refine steps_cons ?_ ?_
    · rintro b a w' ⟨ha, Q_B0, Q_ZQ, Q_ZN, Q_ZZ, Q_RX, Q_FIN⟩ hb_ hon hoff
      refine ⟨_, rfl, fun K hK => ?_⟩
      have e23 : a.tmps[23]? = some (.int .u64 (IntKind.u64.wrap (n - x.f1))) := by rw [ha]; exact putSel_on (e := (8, 23, .int .u64 (IntKind.u64.wrap (n - x.f1)))) 8 rfl rfl (hon 8 (by kernel_rfl)) rfl
      replace ha := Aside0.mk ha
      have B0 := Aside0.mk Q_B0
      have ZQ := Aside0.mk Q_ZQ
      have ZN := Aside0.mk Q_ZN
      have RX := Aside0.mk Q_RX
      refine value_ (w1 := w') (v := .int .i64 (IntKind.i64.wrap (IntKind.u64.wrap (n - x.f1)))) (by rfl) rfl ?_ ?_
      · go_simp
        (try simp only [i64_w])
        try rfl
      refine hK.out _ _ ⟨(by rw [ha.out]; exact putSel_upk 9 hb_ rfl rfl rfl), Q_B0, Q_ZQ, Q_ZN, Q_ZZ, Q_RX, Q_FIN⟩
    refine steps_cons ?_ ?_
    · rintro b a w' ⟨ha, Q_B0, Q_ZQ, Q_ZN, Q_ZZ, Q_RX, Q_FIN⟩ hb_ hon hoff
      refine ⟨_, rfl, fun K hK => ?_⟩
      have e4 : a.tmps[4]? = some (.pointer (some ⟨g, 0, none⟩)) := by rw [ha]; exact (putSel_off rfl).trans rfl
      have e17 : a.tmps[17]? = some (.agg #[.int .u64 x.f0, .int .u64 x.f1, .int .i64 x.f2, .int .i64 x.f3, .int .u64 x.f4, .bool x.f5, .int .i64 x.f6, .slice Ax x.f7.length cx]) := by rw [ha]; exact putSel_on (e := (2, 17, .agg #[.int .u64 x.f0, .int .u64 x.f1, .int .i64 x.f2, .int .i64 x.f3, .int .u64 x.f4, .bool x.f5, .int .i64 x.f6, .slice Ax x.f7.length cx])) 2 rfl rfl (hon 2 (by kernel_rfl)) rfl
      replace ha := Aside0.mk ha
      have B0 := Aside0.mk Q_B0
      have ZQ := Aside0.mk Q_ZQ
      have ZN := Aside0.mk Q_ZN
      have ZZ := Aside0.mk (Q_ZZ hb_)
      have RX := Aside0.mk Q_RX
      have c0_ := blk_cell ZZ.out 0
      have c1_ := blk_cell ZZ.out 1
      have c2_ := blk_cell ZZ.out 2
      have c3_ := blk_cell ZZ.out 3
      have c4_ := blk_cell ZZ.out 4
      have c5_ := blk_cell ZZ.out 5
      have c6_ := blk_cell ZZ.out 6
      have c7_ := blk_cell ZZ.out 7
      have fr0_ := blk_frozen ZZ.out 0
      have fr1_ := blk_frozen ZZ.out 1
      have fr2_ := blk_frozen ZZ.out 2
      have fr3_ := blk_frozen ZZ.out 3
      have fr4_ := blk_frozen ZZ.out 4
      have fr5_ := blk_frozen ZZ.out 5
      have fr6_ := blk_frozen ZZ.out 6
      have fr7_ := blk_frozen ZZ.out 7
      refine skip_ (w1 := ?_) (by rfl) rfl ?_ ?_
      rotate_left
      · go_simp
        rfl
      refine hK.out _ _ ⟨(by rw [ha.out]; exact putSel_none (v := undef) rfl), (fill8 x Ax cx ZZ.out HG.out B0.out).1, ((fill8 x Ax cx ZZ.out HG.out B0.out).2.2 gq HNE.out.1).trans ZQ.out, ((fill8 x Ax cx ZZ.out HG.out B0.out).2.2 gb HNE.out.2).trans ZN.out, fun h0_ => absurd ((up_self b 10).symm.trans h0_) (by decide), Kd.R_step RX.out (fun k hk _ => (fill8 x Ax cx ZZ.out HG.out B0.out).2.2 k (Nat.ne_of_gt hk.1)), fun _ => (fill8 x Ax cx ZZ.out HG.out B0.out).2.1⟩
    refine steps_cons ?_ ?_
    · rintro b a w' ⟨ha, Q_B0, Q_ZQ, Q_ZN, Q_ZZ, Q_RX, Q_FIN⟩ hb_ hon hoff
      refine ⟨_, rfl, fun K hK => ?_⟩
      have e24 : a.tmps[24]? = some (.int .i64 (IntKind.i64.wrap (IntKind.u64.wrap (n - x.f1)))) := by rw [ha]; exact putSel_on (e := (9, 24, .int .i64 (IntKind.i64.wrap (IntKind.u64.wrap (n - x.f1))))) 9 rfl rfl (hon 9 (by kernel_rfl)) rfl
      replace ha := Aside0.mk ha
      have B0 := Aside0.mk Q_B0
      have ZQ := Aside0.mk Q_ZQ
      have ZN := Aside0.mk Q_ZN
      have RX := Aside0.mk Q_RX
      have FIN := Aside0.mk (Q_FIN (hon 10 (by kernel_rfl)))
      refine value_ (w1 := w') (v := .int .i64 (IntKind.i64.wrap (IntKind.u64.wrap (n - x.f1)))) (by rfl) rfl ?_ ?_
      · go_simp
        (try simp only [i64_w])
        try rfl
      refine hK.out _ _ ⟨(by rw [ha.out]; exact putSel_upk 10 hb_ rfl rfl rfl), Q_B0, Q_ZQ, Q_ZN, fun h0_ => absurd ((hon 10 (by kernel_rfl)).symm.trans h0_) (by decide), Q_RX, Q_FIN⟩
    refine steps_cons ?_ ?_
    · rintro b a w' ⟨ha, Q_B0, Q_ZQ, Q_ZN, Q_ZZ, Q_RX, Q_FIN⟩ hb_ hon hoff
      refine ⟨_, rfl, fun K hK => ?_⟩
      replace ha := Aside0.mk ha
      have B0 := Aside0.mk Q_B0
      have ZQ := Aside0.mk Q_ZQ
      have ZN := Aside0.mk Q_ZN
      have RX := Aside0.mk Q_RX
      have FIN := Aside0.mk (Q_FIN (hon 10 (by kernel_rfl)))
      refine value_ (w1 := w') (v := .bool true) (by rfl) rfl ?_ ?_
      · go_simp
        (try simp only [i64_w])
        try rfl
      refine hK.out _ _ ⟨(by rw [ha.out]; exact putSel_upk 11 hb_ rfl rfl rfl), Q_B0, Q_ZQ, Q_ZN, fun h0_ => absurd ((hon 10 (by kernel_rfl)).symm.trans h0_) (by decide), Q_RX, Q_FIN⟩
    exact steps_nil
  rintro b a w9 hall ⟨ha, Q_B0, Q_ZQ, Q_ZN, Q_ZZ, Q_RX, Q_FIN⟩
  clear B0 RX ZN ZQ ZZ
  have hb0_ := hall 0 (by kernel_rfl)
  have hb1_ := hall 1 (by kernel_rfl)
  have hb2_ := hall 2 (by kernel_rfl)
  have hb3_ := hall 3 (by kernel_rfl)
  have hb4_ := hall 4 (by kernel_rfl)
  have hb5_ := hall 5 (by kernel_rfl)
  have hb6_ := hall 6 (by kernel_rfl)
  have hb7_ := hall 7 (by kernel_rfl)
  have hb8_ := hall 8 (by kernel_rfl)
  have hb9_ := hall 9 (by kernel_rfl)
  have hb10_ := hall 10 (by kernel_rfl)
  have hb11_ := hall 11 (by kernel_rfl)
  have hb12_ := hall 12 (by kernel_rfl)
  subst ha
  simp only [putSel, hb0_, hb1_, hb2_, hb3_, hb4_, hb5_, hb6_, hb7_, hb8_, hb9_, hb10_, hb11_, hb12_, if_true, Act.put, List.setIfInBounds_toArray, List.set_cons_zero, List.set_cons_succ]
  have B0 := Aside0.mk Q_B0
  clear Q_B0
  have ZQ := Aside0.mk Q_ZQ
  clear Q_ZQ
  have ZN := Aside0.mk Q_ZN
  clear Q_ZN
  clear Q_ZZ
  have RX := Aside0.mk Q_RX
  clear Q_RX
  have FIN := Aside0.mk (Q_FIN hb10_)
  clear Q_FIN
  clear hall hb0_ hb1_ hb2_ hb3_ hb4_ hb5_ hb6_ hb7_ hb8_ hb9_ hb10_ hb11_ hb12_
  go_wp2_with fail
  (try simp only [Exit.inBlock, Exit.then])
  refine bodyPost_ret (results_ctt rfl _ _ g 29 _ (0, 0) _ _ _ rfl rfl rfl FIN.out Try.underlying29 rfl (by kernel_rfl)) rfl ?_
  obtain ⟨A8, c8, e, hl, hc⟩ := Kd.R_reads RX.out
  injection e with e1 _ e3
  subst e1 e3
  exact ⟨Ax, cx, rfl, hc, hl, B0.out⟩
end Go.Proofs.Ytaepbgieahedjaa.QS
namespace Go.Proofs.Ytaepbgieahedjaa.QS
set_option linter.unusedVariables false
set_option linter.unusedSimpArgs false
open Go.RowKit Go.Proofs.Ytaepbgieahedjaa.Hp Go.Proofs.YtaepbgieahedjaaW.PrintWords Go.Proofs.YtaepbgieahedjaaW.PrintLast Go.Proofs.YtaepbgieahedjaaW.PrintMore
open Go.Proofs.Ytaepbgieahedjaa.IP
section
variable {P : Program} {ops : Array Oper} {Q : Exit → Act → World → Prop}
theorem app_step {oi : Oper} {N : Option Tmp} {a : Act} {w : World} {K : Act → World → Prop} (hw : Region.wanted oi (yielded ops a.tmps) = true) (hN : oi.dst = N) {ts tx : Tmp} {t : TypeId} (ho : oi.op = .call { callee := .builtin .append, args := #[.tmp ts, .tmp tx], argTypes := #[t, t] })
    {v xv : Value} (hs : a.tmps[ts]? = some v) (hx : a.tmps[tx]? = some xv) {v' : Value} {w' : World} (hr : (Builtin.append_ #[t, t] oi.type #[v, xv]).run P w = .ok v' w') (h : K (a.put N v') w') :
    if Region.wanted oi (yielded ops a.tmps) = true then Oper.wp P oi a w K Q else K (a.put N undef) w := by
  rw [if_pos hw]
  subst hN
  have e1 : a.eval (.tmp ts) = v := by simp [Act.eval, Array.getD_eq_getD_getElem?, hs]
  have e2 : a.eval (.tmp tx) = xv := by simp [Act.eval, Array.getD_eq_getD_getElem?, hx]
  unfold Oper.wp execOp
  simp only [ho, resolve, invoke, builtin, Sem.run_bind, Sem.run_pure, Result.andThen_ok, List.map_toArray, List.map_cons, List.map_nil, e1, e2, hr]
  exact h
end
theorem int_app {W : World} {base : Nat} {v : Value} {xs : List Int} (ho : W.ownsRow base 3 1 v xs.length (nums .i64 xs)) (ad : Addr) (m c : Nat) (ys : List Int) (hm : ys.length = m) (h0 : 0 < m) (hc : ∀ (j : Nat) (u : Value), (nums .i64 ys)[j]? = some u → W.cell? (ad.add j) = some u) (hn : xs.length + m ≤ 100000) (hb : base ≤ W.heap.size) (ty : TypeId) (n : Nat) (hN : xs.length + m = n) :
    ∃ A' c' w', (Builtin.append_ #[27, 27] ty #[v, .slice (some ad) m c]).run Try.prog W = .ok (.slice A' n c') w' ∧ w'.ownsRow base 3 1 (.slice A' n c') (xs ++ ys).length (nums .i64 (xs ++ ys)) ∧ W.grownBy w' v.ownBlock ∧ ∀ k, (Value.slice A' n c').ownBlock = some k → v.ownBlock = some k ∨ W.heap.size ≤ k := by
  subst hN
  obtain ⟨v', w', h1, h2, h3, h4⟩ := app_any base ty 27 3 Try.underlying27 inf_int rfl (by decide) (by decide) (by decide) v xs.length (nums .i64 xs) ho ad m c (nums .i64 ys) (by rw [nums_length, hm, Nat.mul_one]) hc (by intro u hu; obtain ⟨x, _, rfl⟩ := List.mem_map.1 hu; rfl) hn hb
  obtain ⟨g, cap, rfl, _, _⟩ := h2.form (by omega)
  refine ⟨_, _, w', h1, ?_, h3, fun k hk => ?_⟩
  · rw [List.length_append, hm]
    have e : nums .i64 (xs ++ ys) = nums .i64 xs ++ nums .i64 ys := by unfold nums; rw [List.map_append]
    rw [e]
    exact h2
  · rcases h4 with h4 | h4
    · exact .inl (h4.symm.trans hk)
    · rw [h4] at hk
      exact .inr (Nat.le_of_eq (Option.some.inj hk))
theorem one_src {W : World} {gx : Nat} {y : Int} (h : W.heap[gx]? = some (.cells #[.int .i64 y] 3 (0, 0))) : ∀ (j : Nat) (u : Value), (nums .i64 [y])[j]? = some u → W.cell? ((⟨gx, 0, none⟩ : Addr).add j) = some u := by
  intro j u hu
  cases j with
  | zero => rw [add_at, blk_cell h]; exact hu
  | succ j => cases hu
def pagesOf (l : List R0) : List Int := l.flatMap fun x => x.f6 :: x.f7
theorem pages_succ {l : List R0} {i : Nat} {x : R0} (h : l[i]? = some x) : pagesOf (l.take (i + 1)) = pagesOf (l.take i) ++ [x.f6] ++ x.f7 := by
  unfold pagesOf
  rw [List.take_add_one, h, List.flatMap_append]
  simp
theorem pages_len (l : List R0) (h : ∀ x ∈ l, x.f7.length ≤ 14) : (pagesOf l).length ≤ l.length * 15 := by
  unfold pagesOf
  induction l with
  | nil => simp
  | cons a r ih =>
    rw [List.flatMap_cons, List.length_append, List.length_cons, List.length_cons, Nat.add_mul]
    have := h a (List.mem_cons_self ..)
    have := ih (fun x hx => h x (List.mem_cons_of_mem _ hx))
    omega
def PagesTo (W w' : World) (e : Ending) (l : List Int) : Prop := ∃ v, e = .returned v ∧ (Kd.int .i64).R 3 w' W.heap.size (fun k => W.heap.size ≤ k) v l ∧ Below W.heap.size W w'
def ipg5.T5 : Bool × List (List Nat × List Nat) := (true, [([], []), ([], []), ([1], [1]), ([2], [2]), ([0, 3], [0, 3]), ([], []), ([5], [5]), ([4, 6, 4], [4, 6]), ([7, 7, 0, 1, 2, 3, 4, 5, 6, 7], [0, 7])])
def ipg5.B5 : List Nat := [0, 0, 2, 6, 15, 0, 32, 127, 255]
theorem ipg5.tab5 : rtab .any (opsOf Try.f13 5) = ipg5.T5 := by kernel_rfl
theorem ipg5.bits5 : waitsOk ipg5.T5.2 ipg5.B5 = true := by kernel_rfl
set_option maxHeartbeats 4000000 in
set_option maxRecDepth 100000 in
theorem pages_calls {W : World} {base g0 : Nat} {l : List R0} (h : IX W base g0 l) (hn : l.length ≤ 1000) (hp : ∀ x ∈ l, 1 ≤ x.f7.length ∧ x.f7.length ≤ 14) : Calls Try.prog 13 #[.pointer (some ⟨g0, 0, none⟩)] W fun e w' => PagesTo W w' e (pagesOf l) := by
  have HS := Aside0.mk (all_calls h hn (fun x hx => by have := hp x hx; omega))
  have HN := Aside0.mk (And.intro hn hp)
  clear h hn hp
  go_enter Try.func13, Try.ntmps13
  go_upto_block 0 with (go_at_call 21; refine HS.out.mono ?_; rintro e w2 ⟨v, rfl, hR, hb⟩; obtain ⟨A, cp, e1, hcl, hC⟩ := Kd.R_reads hR; subst e1; have HC := Aside0.mk hC; have HB := Aside0.mk hb; clear hb hR hC hcl)
  clear HS
  go_wp2_with fail
  go_loopg [3, 9] (l.length + 1) (fun kq v3 v9 w' => ∃ i : Nat, v9 = .int .i64 (i : Int) ∧ Aside0 (i ≤ l.length ∧ kq + i = l.length + 1) ∧ Aside0 (w'.ownsRow w2.heap.size 3 1 v3 (pagesOf (l.take i)).length (nums .i64 (pagesOf (l.take i)))) ∧ Aside0 (Below w2.heap.size w2 w'))
  case atStart => exact ⟨0, rfl, ⟨Nat.zero_le _, rfl⟩, ⟨World.ownsRow_nil _ _ _ _⟩, ⟨Below.refl _ _⟩⟩
  case round =>
    obtain ⟨i, rfl, HI, HO, BB⟩ := hrel
    by_cases hi : i < l.length
    case neg =>
      have hie : i = l.length := by have := HI.out; omega
      subst hie
      have t1 : decide ((l.length : Int) < (l.length : Int)) = false := decide_eq_false (by omega)
      have ho := HO.out
      rw [List.take_length] at ho
      replace ho := Aside0.mk ho
      clear HO hi
      go_wp2_with fail
      go_ret
      have hsz : W.heap.size ≤ w2.heap.size := HB.out.size
      exact ⟨_, rfl, Kd.R_lower (Kd.R_of_own (enc := Value.int .i64) ho.out (fun k hk => Nat.le_trans hsz (ho.out.lt k hk).1)) hsz, below_then HB.out HB.out.size BB.out⟩
    case pos =>
      have t1 : decide ((i : Int) < (l.length : Int)) = true := decide_eq_true (by omega)
      have t2 : decide (i < l.length) = true := decide_eq_true hi
      obtain ⟨ad, Ap, cpp, rfl, hx0, hx1, hx2, hx3, hx4, hx5, hx6, hx7, hlp, hCp⟩ := at_T29 HC.out (i : Int) (by omega) (by omega)
      obtain ⟨x, hxe⟩ : ∃ x, x = l[i] := ⟨_, rfl⟩
      have hrd : rd_T29 l (i : Int) = x := by
        unfold rd_T29
        rw [hxe, Int.toNat_natCast, List.getD_eq_getElem?_getD, List.getElem?_eq_getElem hi]
        rfl
      rw [hrd] at hx0 hx1 hx2 hx3 hx4 hx5 hx6 hx7 hlp hCp
      rw [Int.toNat_natCast] at hx0 hx1 hx2 hx3 hx4 hx5 hx6 hx7
      replace hx0 := pw_cell_below BB.out hx0
      replace hx1 := pw_cell_below BB.out hx1
      replace hx2 := pw_cell_below BB.out hx2
      replace hx3 := pw_cell_below BB.out hx3
      replace hx4 := pw_cell_below BB.out hx4
      replace hx5 := pw_cell_below BB.out hx5
      replace hx6 := pw_cell_below BB.out hx6
      replace hx7 := pw_cell_below BB.out hx7
      have hxp := HN.out.2 x (by rw [hxe]; exact List.getElem_mem hi)
      have HXI : Aside0 (l[i]? = some x) := ⟨by rw [List.getElem?_eq_getElem hi, hxe]⟩
      have p1 := eq_true (show (0 : Int) ≤ (i : Int) by omega)
      have q1 := eq_true (show (i : Int) < (l.length : Int) by omega)
      obtain ⟨acc, hacc⟩ : ∃ acc, acc = pagesOf (l.take i) := ⟨_, rfl⟩
      rw [← hacc] at HO
      have HAL : Aside0 (acc.length ≤ 15000) := ⟨by
        rw [hacc]
        have h1 := pages_len (l.take i) (fun y hy => (HN.out.2 y (List.mem_of_mem_take hy)).2)
        have h2 := List.length_take_le i l
        have h3 := HN.out.1
        have h4 : (l.take i).length ≤ 1000 := by rw [List.length_take]; omega
        omega⟩
      have HAS : Aside0 (pagesOf (l.take (i + 1)) = acc ++ [x.f6] ++ x.f7) := ⟨by rw [hacc]; exact pages_succ HXI.out⟩
      obtain ⟨adp, hadp⟩ : ∃ ad, Ap = some ad := by
        obtain ⟨ad, e, _⟩ := (Kd.reads_of_C (d := (0 : Int)) hCp).2.2 (by omega)
        exact ⟨ad, e⟩
      subst hadp
      obtain ⟨g5, hg5⟩ : ∃ g, g = wr.heap.size := ⟨_, rfl⟩
      have hbx := heap_alloc_new wr (.cells #[.int .u64 x.f0, .int .u64 x.f1, .int .i64 x.f2, .int .i64 x.f3, .int .u64 x.f4, .bool x.f5, .int .i64 x.f6, .slice (some adp) x.f7.length cpp] 29)
      have hbb := below_alloc (Below.refl wr.heap.size wr) (.cells #[.int .u64 x.f0, .int .u64 x.f1, .int .i64 x.f2, .int .i64 x.f3, .int .u64 x.f4, .bool x.f5, .int .i64 x.f6, .slice (some adp) x.f7.length cpp] 29)
      have HI2 := Aside0.mk hi
      have HU : Aside0 (∀ k, u3.ownBlock = some k → k ≠ g5) := ⟨fun k hk => by have := (HO.out.lt k hk).2; omega⟩
      have HC2 := Aside0.mk hCp
      have HO1 := Aside0.mk (HO.out.alloc (.cells #[.int .u64 x.f0, .int .u64 x.f1, .int .i64 x.f2, .int .i64 x.f3, .int .u64 x.f4, .bool x.f5, .int .i64 x.f6, .slice (some adp) x.f7.length cpp] 29))
      have HXP := Aside0.mk hxp
      have HLP := Aside0.mk hlp
      clear hlp hCp hrd hxp hi hxe
      go_upto_region 5 with fail
      generalize wr.alloc (.cells #[.int .u64 x.f0, .int .u64 x.f1, .int .i64 x.f2, .int .i64 x.f3, .int .u64 x.f4, .bool x.f5, .int .i64 x.f6, .slice (some adp) x.f7.length cpp] 29) = W1 at hbx hbb HO1 ⊢
      rw [← hg5] at hbx ⊢
      clear hx0 hx1 hx2 hx3 hx4 hx5 hx6 hx7 p1 q1 t1 t2 HO
      have HSZ : Aside0 (w2.heap.size ≤ W1.heap.size) := ⟨Nat.le_trans BB.out.size hbb.size⟩
      have BX := Aside0.mk (below_then (below_then BB.out BB.out.size hbb) (Nat.le_trans BB.out.size hbb.size) (below_drew1 (Below.refl W1.heap.size W1)))
      have OR := Aside0.mk (HO1.out.kept (grown_of_below (below_drew1 (Below.refl W1.heap.size W1)) none) (by cases h : u3.ownBlock with | none => exact .inl rfl | some k => exact .inr (by simp)))
      have ZR := Aside0.mk (show W1.drew.heap[g5]? = some (.cells #[.int .u64 x.f0, .int .u64 x.f1, .int .i64 x.f2, .int .i64 x.f3, .int .u64 x.f4, .bool x.f5, .int .i64 x.f6, .slice (some adp) x.f7.length cpp] 29 (0, 0)) from hbx)
      obtain ⟨n1, hn1⟩ : ∃ n, acc.length + 1 = n := ⟨_, rfl⟩
      obtain ⟨n2, hn2⟩ : ∃ n, (acc ++ [x.f6]).length + x.f7.length = n := ⟨_, rfl⟩
      have HN1 := Aside0.mk hn1
      have HN2 := Aside0.mk hn2
      have SZ := Aside0.mk (show W1.heap.size ≤ W1.drew.heap.size from Nat.le_refl _)
      have HCW := Aside0.mk (And.intro (blk_lt hbx) hbb)
      have HCC : Aside0 (∀ w' : World, Below w2.heap.size w2 w' → ∀ (j : Nat) (u : Value), (nums .i64 x.f7)[j]? = some u → w'.cell? (adp.add j) = some u) := ⟨fun w' hb j u hu => by
        unfold nums at hu
        rw [List.getElem?_map] at hu
        obtain ⟨y, hy, rfl⟩ := Option.map_eq_some_iff.1 hu
        have hj := (List.getElem?_eq_some_iff.1 hy).1
        obtain ⟨ad', he, hc⟩ := (Kd.reads_of_C (d := (0 : Int)) (Kd.C_below HC2.out hb)).2.2 (by omega)
        obtain rfl := Option.some.inj he
        rw [hc j hj, List.getD_eq_getElem?_getD, hy]
        rfl⟩
      have GX := True.intro
      have ON := True.intro
      have FIN := True.intro
      have HLL : Aside0 ((acc ++ [x.f6]).length + x.f7.length ≤ 100000 ∧ acc.length + 1 ≤ 100000 ∧ 0 < x.f7.length) := ⟨by have := HAL.out; have := HXP.out; rw [List.length_append, List.length_singleton]; omega⟩
      clear hbx hbb hn1 hn2 hg5 hacc
      refine start_ (n := 9) (S := fun w' => True) (ds := []) #[false, false, false, false, false, false, false, false, false] (by kernel_rfl) rfl rfl trivial (fun hHeld => ?_)
      refine with_tabW ipg5.tab5 ipg5.bits5 (fun HT_ HW_ => ?_)
      generalize W1.drew = wz at BX SZ OR ZR hHeld ⊢
      refine inv_at [0, 1, 2, 3, 4, 5, 6, 7, 8] (fun a0_ b a w' => ∃ (gx : Nat) (A17 : Option Addr) (c17 : Nat) (A20 : Option Addr) (c20 : Nat) (m3_ : Value) (m4_ : Value) (m7_ : Value) (m8_ : Value), a = putSel a0_ b [(0, 13, u3), (1, 14, .pointer (some ⟨g5, 6, none⟩)), (2, 15, .int .i64 x.f6), (3, 16, m3_), (4, 17, m4_), (5, 18, .pointer (some ⟨g5, 7, none⟩)), (6, 19, .slice (some adp) x.f7.length cpp), (7, 20, m7_), (8, 3, m8_)] ∧ (Below w2.heap.size w2 w') ∧ (W1.heap.size ≤ w'.heap.size) ∧ (b 4 = false → w'.ownsRow w2.heap.size 3 1 u3 acc.length (nums .i64 acc)) ∧ (w'.heap[g5]? = some (.cells #[.int .u64 x.f0, .int .u64 x.f1, .int .i64 x.f2, .int .i64 x.f3, .int .u64 x.f4, .bool x.f5, .int .i64 x.f6, .slice (some adp) x.f7.length cpp] 29 (0, 0))) ∧ (b 3 = true → b 4 = false → w'.heap[gx]? = some (.cells #[.int .i64 x.f6] 3 (0, 0))) ∧ (b 4 = true → b 7 = false → (w'.ownsRow w2.heap.size 3 1 (.slice A17 n1 c17) (acc ++ [x.f6]).length (nums .i64 (acc ++ [x.f6])) ∧ ∀ k, (Value.slice A17 n1 c17).ownBlock = some k → k ≠ g5)) ∧ (b 7 = true → w'.ownsRow w2.heap.size 3 1 (.slice A20 n2 c20) (acc ++ [x.f6] ++ x.f7).length (nums .i64 (acc ++ [x.f6] ++ x.f7))) ∧ (b 3 = true → (m3_ : Value) = .slice (some ⟨gx, 0, none⟩) 1 1) ∧ (b 4 = true → (m4_ : Value) = .slice A17 n1 c17) ∧ (b 7 = true → (m7_ : Value) = .slice A20 n2 c20) ∧ (b 8 = true → (m8_ : Value) = .slice A20 n2 c20)) HT_.out HW_.out (by kernel_rfl) (by kernel_rfl) ?_ ?_ ?_
      · exact ⟨0, none, 0, none, 0, .bool false, .bool false, .bool false, .bool false, by simp only [putSel, Bool.false_eq_true, if_false], BX.out, SZ.out, fun _ => OR.out, ZR.out, fun h_ => absurd h_ (by decide), fun h_ => absurd h_ (by decide), fun h_ => absurd h_ (by decide), fun h_ => absurd h_ (by decide), fun h_ => absurd h_ (by decide), fun h_ => absurd h_ (by decide), fun h_ => absurd h_ (by decide)⟩
      · skip
        clear BX OR SZ ZR
        refine steps_cons ?_ ?_
        · rintro b a w' ⟨gx, A17, c17, A20, c20, m3_, m4_, m7_, m8_, ha, Q_BX, Q_SZ, Q_OR, Q_ZR, Q_GX, Q_ON, Q_FIN, Q_X3_, Q_X4_, Q_X7_, Q_X8_⟩ hb_ hon hoff
          refine ⟨_, rfl, fun K hK => ?_⟩
          have e3 : a.tmps[3]? = some (u3) := by rw [ha]; exact (putSel_not (hoff 8 (by kernel_rfl)) rfl).trans rfl
          replace ha := Aside0.mk ha
          have BX := Aside0.mk Q_BX
          have SZ := Aside0.mk Q_SZ
          have OR := Aside0.mk (Q_OR (hoff 4 (by kernel_rfl)))
          have ZR := Aside0.mk Q_ZR
          refine value_ (w1 := w') (v := u3) (by rfl) rfl ?_ ?_
          · go_simp
            (try simp only [i64_w])
            try rfl
          refine hK.out _ _ ⟨gx, A17, c17, A20, c20, m3_, m4_, m7_, m8_, (by rw [ha.out]; exact putSel_upk 0 hb_ rfl rfl rfl), Q_BX, Q_SZ, Q_OR, Q_ZR, Q_GX, fun h0_ _ => absurd ((hoff 4 (by kernel_rfl)).symm.trans h0_) (by decide), fun h0_ => absurd ((hoff 7 (by kernel_rfl)).symm.trans h0_) (by decide), Q_X3_, fun h0_ => absurd ((hoff 4 (by kernel_rfl)).symm.trans h0_) (by decide), fun h0_ => absurd ((hoff 7 (by kernel_rfl)).symm.trans h0_) (by decide), fun h0_ => absurd ((hoff 8 (by kernel_rfl)).symm.trans h0_) (by decide)⟩
        refine steps_cons ?_ ?_
        · rintro b a w' ⟨gx, A17, c17, A20, c20, m3_, m4_, m7_, m8_, ha, Q_BX, Q_SZ, Q_OR, Q_ZR, Q_GX, Q_ON, Q_FIN, Q_X3_, Q_X4_, Q_X7_, Q_X8_⟩ hb_ hon hoff
          refine ⟨_, rfl, fun K hK => ?_⟩
          have e5 : a.tmps[5]? = some (.pointer (some ⟨g5, 0, none⟩)) := by rw [ha]; exact (putSel_off rfl).trans rfl
          replace ha := Aside0.mk ha
          have BX := Aside0.mk Q_BX
          have SZ := Aside0.mk Q_SZ
          have OR := Aside0.mk (Q_OR (hoff 4 (by kernel_rfl)))
          have ZR := Aside0.mk Q_ZR
          refine value_ (w1 := w') (v := .pointer (some ⟨g5, 6, none⟩)) (by rfl) rfl ?_ ?_
          · go_simp
            (try simp only [i64_w])
            try rfl
          refine hK.out _ _ ⟨gx, A17, c17, A20, c20, m3_, m4_, m7_, m8_, (by rw [ha.out]; exact putSel_upk 1 hb_ rfl rfl rfl), Q_BX, Q_SZ, Q_OR, Q_ZR, fun h0_ _ => absurd ((hoff 3 (by kernel_rfl)).symm.trans h0_) (by decide), fun h0_ _ => absurd ((hoff 4 (by kernel_rfl)).symm.trans h0_) (by decide), fun h0_ => absurd ((hoff 7 (by kernel_rfl)).symm.trans h0_) (by decide), fun h0_ => absurd ((hoff 3 (by kernel_rfl)).symm.trans h0_) (by decide), fun h0_ => absurd ((hoff 4 (by kernel_rfl)).symm.trans h0_) (by decide), fun h0_ => absurd ((hoff 7 (by kernel_rfl)).symm.trans h0_) (by decide), fun h0_ => absurd ((hoff 8 (by kernel_rfl)).symm.trans h0_) (by decide)⟩
        refine steps_cons ?_ ?_
        · rintro b a w' ⟨gx, A17, c17, A20, c20, m3_, m4_, m7_, m8_, ha, Q_BX, Q_SZ, Q_OR, Q_ZR, Q_GX, Q_ON, Q_FIN, Q_X3_, Q_X4_, Q_X7_, Q_X8_⟩ hb_ hon hoff
          refine ⟨_, rfl, fun K hK => ?_⟩
          have e14 : a.tmps[14]? = some (.pointer (some ⟨g5, 6, none⟩)) := by rw [ha]; exact putSel_on (e := (1, 14, .pointer (some ⟨g5, 6, none⟩))) 1 rfl rfl (hon 1 (by kernel_rfl)) rfl
          replace ha := Aside0.mk ha
          have BX := Aside0.mk Q_BX
          have SZ := Aside0.mk Q_SZ
          have OR := Aside0.mk (Q_OR (hoff 4 (by kernel_rfl)))
          have ZR := Aside0.mk Q_ZR
          have c0_ := blk_cell (ZR.out) 6
          refine value_ (w1 := w') (v := .int .i64 x.f6) (by rfl) rfl ?_ ?_
          · go_simp
            (try simp only [i64_w])
            try rfl
          refine hK.out _ _ ⟨gx, A17, c17, A20, c20, m3_, m4_, m7_, m8_, (by rw [ha.out]; exact putSel_upk 2 hb_ rfl rfl rfl), Q_BX, Q_SZ, Q_OR, Q_ZR, fun h0_ _ => absurd ((hoff 3 (by kernel_rfl)).symm.trans h0_) (by decide), fun h0_ _ => absurd ((hoff 4 (by kernel_rfl)).symm.trans h0_) (by decide), fun h0_ => absurd ((hoff 7 (by kernel_rfl)).symm.trans h0_) (by decide), fun h0_ => absurd ((hoff 3 (by kernel_rfl)).symm.trans h0_) (by decide), fun h0_ => absurd ((hoff 4 (by kernel_rfl)).symm.trans h0_) (by decide), fun h0_ => absurd ((hoff 7 (by kernel_rfl)).symm.trans h0_) (by decide), fun h0_ => absurd ((hoff 8 (by kernel_rfl)).symm.trans h0_) (by decide)⟩
        refine steps_cons ?_ ?_
        · rintro b a w' ⟨gx, A17, c17, A20, c20, m3_, m4_, m7_, m8_, ha, Q_BX, Q_SZ, Q_OR, Q_ZR, Q_GX, Q_ON, Q_FIN, Q_X3_, Q_X4_, Q_X7_, Q_X8_⟩ hb_ hon hoff
          refine ⟨_, rfl, fun K hK => ?_⟩
          have e15 : a.tmps[15]? = some (.int .i64 x.f6) := by rw [ha]; exact putSel_on (e := (2, 15, .int .i64 x.f6)) 2 rfl rfl (hon 2 (by kernel_rfl)) rfl
          replace ha := Aside0.mk ha
          have BX := Aside0.mk Q_BX
          have SZ := Aside0.mk Q_SZ
          have OR := Aside0.mk (Q_OR (hoff 4 (by kernel_rfl)))
          have ZR := Aside0.mk Q_ZR
          refine value_ (w1 := w'.alloc (Obj.cells #[.int .i64 x.f6] 3)) (v := .slice (some ⟨w'.heap.size, 0, none⟩) 1 1) (by rfl) rfl (by first | (go_simp; done) | (go_simp; rfl)) ?_
          have hb := below_alloc (Below.refl w'.heap.size w') (Obj.cells #[.int .i64 x.f6] 3)
          refine hK.out _ _ ⟨w'.heap.size, A17, c17, A20, c20, (.slice (some ⟨w'.heap.size, 0, none⟩) 1 1), m4_, m7_, m8_, (by rw [ha.out]; exact putSel_upk 3 hb_ rfl rfl rfl), below_then BX.out BX.out.size hb, Nat.le_trans SZ.out hb.size, fun _ => OR.out.alloc _, blk_below ZR.out hb, fun _ _ => heap_alloc_new w' _, fun h0_ _ => absurd ((hoff 4 (by kernel_rfl)).symm.trans h0_) (by decide), fun h0_ => absurd ((hoff 7 (by kernel_rfl)).symm.trans h0_) (by decide), fun _ => rfl, fun h0_ => absurd ((hoff 4 (by kernel_rfl)).symm.trans h0_) (by decide), fun h0_ => absurd ((hoff 7 (by kernel_rfl)).symm.trans h0_) (by decide), fun h0_ => absurd ((hoff 8 (by kernel_rfl)).symm.trans h0_) (by decide)⟩
        refine steps_cons ?_ ?_
        · rintro b a w' ⟨gx, A17, c17, A20, c20, m3_, m4_, m7_, m8_, ha, Q_BX, Q_SZ, Q_OR, Q_ZR, Q_GX, Q_ON, Q_FIN, Q_X3_, Q_X4_, Q_X7_, Q_X8_⟩ hb_ hon hoff
          refine ⟨_, rfl, fun K hK => ?_⟩
          have e13 : a.tmps[13]? = some (u3) := by rw [ha]; exact putSel_on (e := (0, 13, u3)) 0 rfl rfl (hon 0 (by kernel_rfl)) rfl
          have e16 : a.tmps[16]? = some (m3_) := by rw [ha]; exact putSel_on (e := (3, 16, m3_)) 3 rfl rfl (hon 3 (by kernel_rfl)) rfl
          rw [Q_X3_ (hon 3 (by kernel_rfl))] at e16
          replace ha := Aside0.mk ha
          have BX := Aside0.mk Q_BX
          have SZ := Aside0.mk Q_SZ
          have OR := Aside0.mk (Q_OR hb_)
          have ZR := Aside0.mk Q_ZR
          have GX := Aside0.mk (Q_GX (hon 3 (by kernel_rfl)) hb_)
          obtain ⟨A_, c_, w2_, hr_, ho_, hg_, hk_⟩ := int_app OR.out ⟨gx, 0, none⟩ 1 1 [x.f6] rfl (by decide) (one_src GX.out) HLL.out.2.1 BX.out.size 27 n1 HN1.out
          refine app_step (by rfl) rfl rfl e13 e16 hr_ ?_
          refine hK.out _ _ ⟨gx, A_, c_, A20, c20, m3_, (.slice A_ n1 c_), m7_, m8_, (by rw [ha.out]; exact putSel_upk 4 hb_ rfl rfl rfl), pw_below_grown BX.out _ BX.out.size hg_ (fun k hk => (OR.out.lt k hk).1), Nat.le_trans SZ.out hg_.size, fun h0_ => absurd ((up_self b 4).symm.trans h0_) (by decide), blk_grown ZR.out hg_ (fun e_ => HU.out g5 e_.symm rfl), fun _ h1_ => absurd ((up_self b 4).symm.trans h1_) (by decide), fun _ _ => ⟨ho_, fun k hk => (hk_ k hk).elim (HU.out k) (fun h => Nat.ne_of_gt (Nat.lt_of_lt_of_le HCW.out.1 (Nat.le_trans SZ.out h)))⟩, fun h0_ => absurd ((hoff 7 (by kernel_rfl)).symm.trans h0_) (by decide), Q_X3_, fun _ => rfl, fun h0_ => absurd ((hoff 7 (by kernel_rfl)).symm.trans h0_) (by decide), fun h0_ => absurd ((hoff 8 (by kernel_rfl)).symm.trans h0_) (by decide)⟩
        refine steps_cons ?_ ?_
        · rintro b a w' ⟨gx, A17, c17, A20, c20, m3_, m4_, m7_, m8_, ha, Q_BX, Q_SZ, Q_OR, Q_ZR, Q_GX, Q_ON, Q_FIN, Q_X3_, Q_X4_, Q_X7_, Q_X8_⟩ hb_ hon hoff
          refine ⟨_, rfl, fun K hK => ?_⟩
          have e5 : a.tmps[5]? = some (.pointer (some ⟨g5, 0, none⟩)) := by rw [ha]; exact (putSel_off rfl).trans rfl
          replace ha := Aside0.mk ha
          have BX := Aside0.mk Q_BX
          have SZ := Aside0.mk Q_SZ
          have ZR := Aside0.mk Q_ZR
          refine value_ (w1 := w') (v := .pointer (some ⟨g5, 7, none⟩)) (by rfl) rfl ?_ ?_
          · go_simp
            (try simp only [i64_w])
            try rfl
          refine hK.out _ _ ⟨gx, A17, c17, A20, c20, m3_, m4_, m7_, m8_, (by rw [ha.out]; exact putSel_upk 5 hb_ rfl rfl rfl), Q_BX, Q_SZ, Q_OR, Q_ZR, Q_GX, Q_ON, fun h0_ => absurd ((hoff 7 (by kernel_rfl)).symm.trans h0_) (by decide), Q_X3_, Q_X4_, fun h0_ => absurd ((hoff 7 (by kernel_rfl)).symm.trans h0_) (by decide), fun h0_ => absurd ((hoff 8 (by kernel_rfl)).symm.trans h0_) (by decide)⟩
        refine steps_cons ?_ ?_
        · rintro b a w' ⟨gx, A17, c17, A20, c20, m3_, m4_, m7_, m8_, ha, Q_BX, Q_SZ, Q_OR, Q_ZR, Q_GX, Q_ON, Q_FIN, Q_X3_, Q_X4_, Q_X7_, Q_X8_⟩ hb_ hon hoff
          refine ⟨_, rfl, fun K hK => ?_⟩
          have e18 : a.tmps[18]? = some (.pointer (some ⟨g5, 7, none⟩)) := by rw [ha]; exact putSel_on (e := (5, 18, .pointer (some ⟨g5, 7, none⟩))) 5 rfl rfl (hon 5 (by kernel_rfl)) rfl
          replace ha := Aside0.mk ha
          have BX := Aside0.mk Q_BX
          have SZ := Aside0.mk Q_SZ
          have ZR := Aside0.mk Q_ZR
          have c0_ := blk_cell (ZR.out) 7
          refine value_ (w1 := w') (v := .slice (some adp) x.f7.length cpp) (by rfl) rfl ?_ ?_
          · go_simp
            (try simp only [i64_w])
            try rfl
          refine hK.out _ _ ⟨gx, A17, c17, A20, c20, m3_, m4_, m7_, m8_, (by rw [ha.out]; exact putSel_upk 6 hb_ rfl rfl rfl), Q_BX, Q_SZ, Q_OR, Q_ZR, Q_GX, Q_ON, fun h0_ => absurd ((hoff 7 (by kernel_rfl)).symm.trans h0_) (by decide), Q_X3_, Q_X4_, fun h0_ => absurd ((hoff 7 (by kernel_rfl)).symm.trans h0_) (by decide), fun h0_ => absurd ((hoff 8 (by kernel_rfl)).symm.trans h0_) (by decide)⟩
        refine steps_cons ?_ ?_
        · rintro b a w' ⟨gx, A17, c17, A20, c20, m3_, m4_, m7_, m8_, ha, Q_BX, Q_SZ, Q_OR, Q_ZR, Q_GX, Q_ON, Q_FIN, Q_X3_, Q_X4_, Q_X7_, Q_X8_⟩ hb_ hon hoff
          refine ⟨_, rfl, fun K hK => ?_⟩
          have e17 : a.tmps[17]? = some (m4_) := by rw [ha]; exact putSel_on (e := (4, 17, m4_)) 4 rfl rfl (hon 4 (by kernel_rfl)) rfl
          rw [Q_X4_ (hon 4 (by kernel_rfl))] at e17
          have e19 : a.tmps[19]? = some (.slice (some adp) x.f7.length cpp) := by rw [ha]; exact putSel_on (e := (6, 19, .slice (some adp) x.f7.length cpp)) 6 rfl rfl (hon 6 (by kernel_rfl)) rfl
          replace ha := Aside0.mk ha
          have BX := Aside0.mk Q_BX
          have SZ := Aside0.mk Q_SZ
          have ZR := Aside0.mk Q_ZR
          have ON := Aside0.mk (Q_ON (hon 4 (by kernel_rfl)) hb_)
          obtain ⟨A_, c_, w2_, hr_, ho_, hg_, hk_⟩ := int_app ON.out.1 adp x.f7.length cpp x.f7 rfl HLL.out.2.2 (HCC.out w' BX.out) HLL.out.1 BX.out.size 27 n2 HN2.out
          refine app_step (by rfl) rfl rfl e17 e19 hr_ ?_
          refine hK.out _ _ ⟨gx, A17, c17, A_, c_, m3_, m4_, (.slice A_ n2 c_), m8_, (by rw [ha.out]; exact putSel_upk 7 hb_ rfl rfl rfl), pw_below_grown BX.out _ BX.out.size hg_ (fun k hk => (ON.out.1.lt k hk).1), Nat.le_trans SZ.out hg_.size, fun h0_ => absurd ((hon 4 (by kernel_rfl)).symm.trans h0_) (by decide), blk_grown ZR.out hg_ (fun e_ => ON.out.2 g5 e_.symm rfl), fun _ h1_ => absurd ((hon 4 (by kernel_rfl)).symm.trans h1_) (by decide), fun _ h1_ => absurd ((up_self b 7).symm.trans h1_) (by decide), fun _ => ho_, Q_X3_, Q_X4_, fun _ => rfl, fun h0_ => absurd ((hoff 8 (by kernel_rfl)).symm.trans h0_) (by decide)⟩
        refine steps_cons ?_ ?_
        · rintro b a w' ⟨gx, A17, c17, A20, c20, m3_, m4_, m7_, m8_, ha, Q_BX, Q_SZ, Q_OR, Q_ZR, Q_GX, Q_ON, Q_FIN, Q_X3_, Q_X4_, Q_X7_, Q_X8_⟩ hb_ hon hoff
          refine ⟨_, rfl, fun K hK => ?_⟩
          have e20 : a.tmps[20]? = some (m7_) := by rw [ha]; exact putSel_on (e := (7, 20, m7_)) 7 rfl rfl (hon 7 (by kernel_rfl)) rfl
          rw [Q_X7_ (hon 7 (by kernel_rfl))] at e20
          replace ha := Aside0.mk ha
          have BX := Aside0.mk Q_BX
          have SZ := Aside0.mk Q_SZ
          have ZR := Aside0.mk Q_ZR
          have FIN := Aside0.mk (Q_FIN (hon 7 (by kernel_rfl)))
          refine value_ (w1 := w') (v := .slice A20 n2 c20) (by rfl) rfl ?_ ?_
          · go_simp
            (try simp only [i64_w])
            try rfl
          refine hK.out _ _ ⟨gx, A17, c17, A20, c20, m3_, m4_, m7_, (.slice A20 n2 c20), (by rw [ha.out]; exact putSel_upk 8 hb_ rfl rfl rfl), Q_BX, Q_SZ, fun h0_ => absurd ((hon 4 (by kernel_rfl)).symm.trans h0_) (by decide), Q_ZR, fun _ h1_ => absurd ((hon 4 (by kernel_rfl)).symm.trans h1_) (by decide), fun _ h1_ => absurd ((hon 7 (by kernel_rfl)).symm.trans h1_) (by decide), Q_FIN, Q_X3_, Q_X4_, Q_X7_, fun _ => rfl⟩
        exact steps_nil
      rintro b a w9 hall ⟨gx, A17, c17, A20, c20, m3_, m4_, m7_, m8_, ha, Q_BX, Q_SZ, Q_OR, Q_ZR, Q_GX, Q_ON, Q_FIN, Q_X3_, Q_X4_, Q_X7_, Q_X8_⟩
      clear BX OR SZ ZR
      have hb0_ := hall 0 (by kernel_rfl)
      have hb1_ := hall 1 (by kernel_rfl)
      have hb2_ := hall 2 (by kernel_rfl)
      have hb3_ := hall 3 (by kernel_rfl)
      have hb4_ := hall 4 (by kernel_rfl)
      have hb5_ := hall 5 (by kernel_rfl)
      have hb6_ := hall 6 (by kernel_rfl)
      have hb7_ := hall 7 (by kernel_rfl)
      have hb8_ := hall 8 (by kernel_rfl)
      subst ha
      obtain rfl := Q_X3_ hb3_
      obtain rfl := Q_X4_ hb4_
      obtain rfl := Q_X7_ hb7_
      obtain rfl := Q_X8_ hb8_
      simp only [putSel, hb0_, hb1_, hb2_, hb3_, hb4_, hb5_, hb6_, hb7_, hb8_, if_true, Act.put, List.setIfInBounds_toArray, List.set_cons_zero, List.set_cons_succ]
      have BX := Aside0.mk Q_BX
      clear Q_BX
      have SZ := Aside0.mk Q_SZ
      clear Q_SZ
      clear Q_OR
      have ZR := Aside0.mk Q_ZR
      clear Q_ZR
      clear Q_GX
      clear Q_ON
      have FIN := Aside0.mk (Q_FIN hb7_)
      clear Q_FIN
      clear hall hb0_ hb1_ hb2_ hb3_ hb4_ hb5_ hb6_ hb7_ hb8_
      have t3 : IntKind.i64.wrap ((i : Int) + 1) = ((i + 1 : Nat) : Int) := by have := HI2.out; have := HN.out.1; rw [i64_w]; unfold wrap64; omega
      go_wp2_with fail
      go_roundg (l.length - i)
      case measure => have := HI.out; have := HI2.out; omega
      case rel => exact ⟨i + 1, by first | rfl | (rw [← i64_w, t3]) | (simp; unfold wrap64; have := HI2.out; have := HN.out.1; omega), ⟨by have := HI2.out; omega, by have := HI.out; have := HI2.out; omega⟩, ⟨by rw [HAS.out]; exact FIN.out⟩, BX⟩
end Go.Proofs.Ytaepbgieahedjaa.QS
namespace Go.Proofs.Ytaepbgieahedjaa.QS
set_option linter.unusedVariables false
set_option linter.unusedSimpArgs false
open Go.RowKit Go.Proofs.Ytaepbgieahedjaa.Hp Go.Proofs.YtaepbgieahedjaaW.PrintWords Go.Proofs.YtaepbgieahedjaaW.PrintLast Go.Proofs.YtaepbgieahedjaaW.PrintMore
open Go.Proofs.Ytaepbgieahedjaa.IP
set_option maxHeartbeats 4000000 in
set_option maxRecDepth 100000 in
theorem new_one (x : R0) (A : Option Addr) (c : Nat) (w : World) (hC : Kd.C k29 w A 1 [x]) (hp : x.f7.length ≤ 1000) (hm : mayB x = true) : Calls Try.prog 7 #[.slice A 1 c] w fun e w' => ∃ g, e = .returned (.pointer (some ⟨g, 0, none⟩)) ∧ IX w' w.heap.size g [x] ∧ Below w.heap.size w w' := by
  have hz := heap_alloc_new w (.cells #[.slice none 0 0] 57)
  have hb := below_alloc (Below.refl w.heap.size w) (.cells #[.slice none 0 0] 57)
  obtain ⟨g, hg⟩ : ∃ g, g = w.heap.size := ⟨_, rfl⟩
  have kb : ∀ W : World, (Instr.build 57 #[]).run Try.prog W = .ok (.agg #[.slice none 0 0]) W := fun W => by kernel_rfl
  have HC := Aside0.mk hC
  have HXM := Aside0.mk (And.intro hp hm)
  clear hC hp hm
  go_enter Try.func7, Try.ntmps7
  go_upto_region 2 with fail
  generalize w.alloc (.cells #[.slice none 0 0] 57) = W1 at hz hb ⊢
  rw [← hg] at hz ⊢
  have HB := Aside0.mk hb
  have HX : Aside0 (IX W1 w.heap.size g ([x].take 0)) := ⟨none, 0, hz, Kd.R_nil _ _ _ _ _, Nat.le_of_eq hg.symm⟩
  clear hz hb hg kb
  go_wp2_with fail
  go_loopg [10] 2 (fun kq v10 w' => ∃ i : Nat, v10 = .int .i64 (i : Int) ∧ Aside0 (i ≤ 1 ∧ kq + i = 2) ∧ Aside0 (IX w' w.heap.size g ([x].take i)) ∧ Aside0 (Below w.heap.size w w'))
  case atStart => exact ⟨0, by first | rfl | go_num, ⟨by decide, rfl⟩, HX, HB⟩
  case round =>
    obtain ⟨i, rfl, HI, HX2, HB2⟩ := hrel
    rcases Nat.eq_zero_or_pos i with hi | hi
    · subst hi
      obtain ⟨ad, Ap, cpp, rfl, x0, x1, x2, x3, x4, x5, x6, x7, hlp, hCp⟩ := at_T29 (Kd.C_below HC.out HB2.out) (0 : Int) (by decide) (by decide)
      have hrd : rd_T29 [x] (0 : Int) = x := rfl
      rw [hrd] at x0 x1 x2 x3 x4 x5 x6 x7 hlp hCp
      have h0 : ad.add ((0 : Int).toNat * 8) = ad := by simp [Addr.add]
      rw [h0] at x0 x1 x2 x3 x4 x5 x6 x7
      clear h0
      have hz5 := heap_alloc_new wr (.cells #[.int .u64 x.f0, .int .u64 x.f1, .int .i64 x.f2, .int .i64 x.f3, .int .u64 x.f4, .bool x.f5, .int .i64 x.f6, .slice Ap x.f7.length cpp] 29)
      have hb5 := below_alloc (Below.refl wr.heap.size wr) (.cells #[.int .u64 x.f0, .int .u64 x.f1, .int .i64 x.f2, .int .i64 x.f3, .int .u64 x.f4, .bool x.f5, .int .i64 x.f6, .slice Ap x.f7.length cpp] 29)
      obtain ⟨g5, hg5⟩ : ∃ g, g = wr.heap.size := ⟨_, rfl⟩
      have HCP := Aside0.mk (Kd.C_below hCp hb5)
      have HX5 := Aside0.mk (HX2.out.below hb5)
      clear hlp hCp hrd
      go_upto_region 5 with fail
      generalize wr.alloc (.cells #[.int .u64 x.f0, .int .u64 x.f1, .int .i64 x.f2, .int .i64 x.f3, .int .u64 x.f4, .bool x.f5, .int .i64 x.f6, .slice Ap x.f7.length cpp] 29) = W5 at hz5 hb5 HCP HX5 ⊢
      rw [← hg5] at hz5 ⊢
      have HB5 := Aside0.mk (below_then HB2.out HB2.out.size hb5)
      have c0 := blk_cell hz5 0
      have c1 := blk_cell hz5 1
      have c2 := blk_cell hz5 2
      have c3 := blk_cell hz5 3
      have c4 := blk_cell hz5 4
      have c5 := blk_cell hz5 5
      have c6 := blk_cell hz5 6
      have c7 := blk_cell hz5 7
      have hput := put_end (base := w.heap.size) (l := []) HX5.out x Ap cpp HCP.out HXM.out.1 HXM.out.2 (fun i j a b _ ha _ => by simp at ha) (by decide) rfl rfl
      unfold ragg at hput
      have HPUT := Aside0.mk hput
      clear hz5 hb5 hg5 hput x0 x1 x2 x3 x4 x5 x6 x7
      go_wp2_with (go_at_call 17; refine HPUT.out.mono ?_; rintro e w6 ⟨rfl, hX, hb⟩; have HX6 := Aside0.mk hX; have HB6 := Aside0.mk (HB5.out.trans hb); clear hX hb c0 c1 c2 c3 c4 c5 c6 c7)
      go_roundg 1
      case measure => have := HI.out; omega
      case rel => exact ⟨1, by first | rfl | go_num, ⟨by decide, rfl⟩, HX6, HB6⟩
    · have h1 : i = 1 := by have := HI.out; omega
      subst h1
      clear hi
      go_wp2_with fail
      go_ret
      exact ⟨g, rfl, HX2.out, HB2.out⟩
end Go.Proofs.Ytaepbgieahedjaa.QS
namespace Go.Proofs.Ytaepbgieahedjaa.QS
set_option linter.unusedVariables false
set_option linter.unusedSimpArgs false
open Go.RowKit Go.Proofs.Ytaepbgieahedjaa.Hp Go.Proofs.YtaepbgieahedjaaW.PrintWords Go.Proofs.YtaepbgieahedjaaW.PrintLast Go.Proofs.YtaepbgieahedjaaW.PrintMore
open Go.Proofs.Ytaepbgieahedjaa.IP
theorem C_one {W : World} {g gp c : Nat} {x : R0} {cx : Nat} {cp : Array Value} (hg : W.heap[g]? = some (.cells #[.int .u64 x.f0, .int .u64 x.f1, .int .i64 x.f2, .int .i64 x.f3, .int .u64 x.f4, .bool x.f5, .int .i64 x.f6, .slice (some ⟨gp, 0, none⟩) x.f7.length x.f7.length] 29 (0, 0))) (hp : W.heap[gp]? = some (.cells (nums .i64 x.f7).toArray 3 (0, 0))) (hne : gp ≠ g) (hl : x.f7.length ≤ 1000) :
    Kd.C k29 W (some ⟨g, 0, none⟩) 1 [x] := by
  have hR := R_of_rows (W := W) (base := 0) (ok := fun _ => True) (v := .slice (some ⟨g, 0, none⟩) 1 1) (ps := [(x, (some ⟨gp, 0, none⟩, x.f7.length))]) (fun _ _ => trivial) ?_ ?_
  · obtain ⟨A, c, e, _, hC⟩ := Kd.R_reads hR
    injection e with e1 _ _
    rw [e1]
    exact hC
  · exact ⟨rfl, .inr ⟨g, 1, _, rfl, Nat.zero_le _, hg, Nat.le_refl _, by decide, rfl, rfl⟩⟩
  · intro p hpm
    obtain rfl := List.mem_singleton.1 hpm
    have ho : W.ownsRow 0 3 1 (.slice (some ⟨gp, 0, none⟩) x.f7.length x.f7.length) x.f7.length (nums .i64 x.f7) := ⟨by rw [nums_length, Nat.mul_one], .inr ⟨gp, x.f7.length, _, rfl, Nat.zero_le _, hp, Nat.le_refl _, by unfold maxLen; omega, by rw [List.size_toArray, nums_length, Nat.mul_one], by rw [Nat.mul_one, ← nums_length .i64 x.f7]; exact List.take_length⟩⟩
    exact Kd.R_of_own (enc := Value.int .i64) ho (fun k hk => ⟨trivial, fun e => by have h1 : gp = k := Option.some.inj hk; have h2 : k = g := Option.some.inj e; omega⟩)
abbrev xa : R0 := ⟨4, 5, 0, 250, 9, false, 1, [2, 3]⟩
theorem xa_in : [xa].filter (inB 7) = [xa] := by
  have h : inB 7 xa = true := by kernel_rfl
  rw [List.filter_cons, h, if_pos rfl]
  rfl
theorem ints123 (A A' : Option Addr) (c c' : Nat) (w : World) (h1 : Kd.C (Kd.int .i64) w A 3 [1, 2, 3]) (h2 : 3 ≤ c) (h3 : Kd.C (Kd.int .i64) w A' 3 [1, 2, 3]) (h4 : 3 ≤ c') : Calls Try.prog 12 #[.slice A 3 c, .slice A' 3 c'] w fun e w' => e = .returned (.bool true) ∧ Below w.heap.size w w' := by
  refine (wagtailref01_Ints.calls 9 A c [1, 2, 3] A' c' [1, 2, 3] true w h1 h2 h3 h4 (by kernel_rfl)).mono ?_
  rintro e w' ⟨he, hb⟩
  exact ⟨he, by first | exact hb | exact hb.below⟩
theorem C_lit {W : World} {g : Nat} {xs : List Int} (h : W.heap[g]? = some (.cells (nums .i64 xs).toArray 3 (0, 0))) (hl : xs.length ≤ 1000) : Kd.C (Kd.int .i64) W (some ⟨g, 0, none⟩) xs.length xs := by
  have ho : W.ownsRow 0 3 1 (.slice (some ⟨g, 0, none⟩) xs.length xs.length) xs.length (nums .i64 xs) := ⟨by rw [nums_length, Nat.mul_one], .inr ⟨g, xs.length, _, rfl, Nat.zero_le _, h, Nat.le_refl _, by unfold maxLen; omega, by rw [List.size_toArray, nums_length, Nat.mul_one], by rw [Nat.mul_one, ← nums_length .i64 xs]; exact List.take_length⟩⟩
  obtain ⟨A, c, e, _, hC⟩ := Kd.R_reads (Kd.R_of_own (enc := Value.int .i64) (ok := fun _ => True) ho (fun _ _ => trivial))
  injection e with e1 _ _
  rw [e1]
  exact hC
theorem xa_over : ([xa].filter fun x => decide (x.f4 ≤ 9)) = [xa] := rfl
theorem xa_alive : ([xa].filter fun x => decide (8 < x.f4)) = [xa] := rfl
theorem xa_pages : pagesOf [xa] = [1, 2, 3] := rfl
theorem fr250 : frI 250 = 3 := by kernel_rfl
set_option maxHeartbeats 4000000 in
set_option maxRecDepth 100000 in
theorem awake27_calls (w : World) : Calls Try.prog 6 #[] w fun e w' => e = .returned (.bool true) ∧ Below w.heap.size w w' := by
  have hzp := heap_alloc_new w (.cells #[.int .i64 2, .int .i64 3] 3)
  have hbp := below_alloc (Below.refl w.heap.size w) (.cells #[.int .i64 2, .int .i64 3] 3)
  obtain ⟨gp, hgp⟩ : ∃ g, g = w.heap.size := ⟨_, rfl⟩
  have hs1 : (w.alloc (.cells #[.int .i64 2, .int .i64 3] 3)).heap.size = w.heap.size + 1 := by simp
  rw [← hgp] at hzp hs1
  have HN : Aside0 (∀ wq : World, wq = (w.alloc (.cells #[.int .i64 2, .int .i64 3] 3)).alloc (.cells #[.int .u64 4, .int .u64 5, .int .i64 0, .int .i64 250, .int .u64 9, .bool false, .int .i64 1, .slice (some ⟨gp, 0, none⟩) 2 2] 29) → Below w.heap.size w wq ∧ Calls Try.prog 7 #[.slice (some ⟨gp + 1, 0, none⟩) 1 1] wq fun e w' => ∃ g, e = .returned (.pointer (some ⟨g, 0, none⟩)) ∧ IX w' wq.heap.size g [xa] ∧ Below wq.heap.size wq w') := ⟨fun wq e => by
    subst e
    have hb2 := below_alloc hbp (.cells #[.int .u64 4, .int .u64 5, .int .i64 0, .int .i64 250, .int .u64 9, .bool false, .int .i64 1, .slice (some ⟨gp, 0, none⟩) 2 2] 29)
    have hz2 := heap_alloc_new (w.alloc (.cells #[.int .i64 2, .int .i64 3] 3)) (.cells #[.int .u64 4, .int .u64 5, .int .i64 0, .int .i64 250, .int .u64 9, .bool false, .int .i64 1, .slice (some ⟨gp, 0, none⟩) 2 2] 29)
    rw [hs1] at hz2
    exact ⟨hb2, new_one xa (some ⟨gp + 1, 0, none⟩) 1 _ (C_one (c := 0) (cx := 0) (cp := #[]) (gp := gp) hz2 (blk_below hzp (below_alloc (Below.refl _ _) _)) (by omega) (by decide)) (by decide) (by decide)⟩⟩
  clear hzp hbp hs1
  have HG := Aside0.mk hgp
  go_enter Try.func6, Try.ntmps6
  rw [hgp] at HN
  clear hgp
  go_upto_region 2 with ((go_at_call 7); obtain ⟨hb0, hnew⟩ := HN.out _ rfl; refine hnew.mono ?_; rintro e w3 ⟨g, rfl, hX, hb⟩; have HX := Aside0.mk hX; have HB := Aside0.mk (below_then hb0 hb0.size hb); clear hb0 hnew hX hb)
  clear HN
  have HP : Aside0 (∀ x ∈ [xa], x.f7.length ≤ 1000) := ⟨fun x hx => by rw [List.mem_singleton.1 hx]; decide⟩
  have HP2 : Aside0 (∀ x ∈ [xa], 1 ≤ x.f7.length ∧ x.f7.length ≤ 14) := ⟨fun x hx => by rw [List.mem_singleton.1 hx]; decide⟩
  have HFR := Aside0.mk (frame_yes HX.out (by decide) HP.out 7 xa [] xa_in)
  go_upto_region 3 with ((go_at_call 10); refine HFR.out.mono ?_; rintro e w4 ⟨A4, c4, rfl, _, _, hb⟩; rw [show IntKind.i64.wrap (IntKind.u64.wrap (7 - xa.f1)) = 2 from by decide]; have HX4 := Aside0.mk (HX.out.below hb); have HB4 := Aside0.mk (below_then HB.out HB.out.size hb); clear hb)
  have hz5 := heap_alloc_new w4 (.cells #[.int .u64 4, .int .u64 5, .int .i64 0, .int .i64 250, .int .u64 9, .bool false, .int .i64 1, .slice A4 2 c4] 29)
  have hb5 := below_alloc (Below.refl w4.heap.size w4) (.cells #[.int .u64 4, .int .u64 5, .int .i64 0, .int .i64 250, .int .u64 9, .bool false, .int .i64 1, .slice A4 2 c4] 29)
  obtain ⟨g5, hg5⟩ : ∃ g, g = w4.heap.size := ⟨_, rfl⟩
  clear HX HB HFR
  generalize w4.alloc (.cells #[.int .u64 4, .int .u64 5, .int .i64 0, .int .i64 250, .int .u64 9, .bool false, .int .i64 1, .slice A4 2 c4] 29) = W5 at hz5 hb5 ⊢
  rw [← hg5] at hz5 ⊢
  obtain ⟨bs, HX5⟩ : ∃ bs, Aside0 (IX W5 bs g [xa]) := ⟨_, ⟨HX4.out.below hb5⟩⟩
  have HB5 := Aside0.mk (below_then HB4.out HB4.out.size hb5)
  have c0 := blk_cell hz5 0
  clear hz5 hb5 hg5 HX4 HB4 HG
  go_wp2_with (first
    | (go_at_call 14; refine (frames_calls 250 _).mono ?_; rintro e w6 ⟨rfl, hb⟩; rw [fr250]; have HX6 := Aside0.mk (HX5.out.below hb); have HB6 := Aside0.mk (below_then HB5.out HB5.out.size hb); clear hb c0)
    | (go_at_call 22; refine (over_calls HX6.out (by decide) HP.out 9).mono ?_; rintro e w7 ⟨v, rfl, hR, hb⟩; rw [xa_over] at hR; obtain ⟨A7, c7, rfl⟩ := Kd.R_slice hR; have HX7 := Aside0.mk (HX6.out.below hb); have HB7 := Aside0.mk (below_then HB6.out HB6.out.size hb); clear hb hR)
    | (go_at_call 24; refine (alive_calls HX7.out (by decide) HP.out 8).mono ?_; rintro e w8 ⟨v, rfl, hR, hb⟩; rw [xa_alive] at hR; obtain ⟨A8, c8, rfl⟩ := Kd.R_slice hR; have HX8 := Aside0.mk (HX7.out.below hb); have HB8 := Aside0.mk (below_then HB7.out HB7.out.size hb); clear hb hR)
    | (go_at_call 13; refine (pages_calls HX8.out (by decide) HP2.out).mono ?_; rintro e w9 ⟨v, rfl, hR, hb⟩; rw [xa_pages] at hR; obtain ⟨A9, c9, rfl, hl9, hC9⟩ := Kd.R_reads hR; have HC9 := Aside0.mk (And.intro hC9 hl9); have HB9 := Aside0.mk (below_then HB8.out HB8.out.size hb); clear hb hR hC9 hl9)
    | (go_at_call 12; refine (ints123 _ _ _ _ _ (Kd.C_below HC9.out.1 (below_alloc (Below.refl _ _) _)) HC9.out.2 (C_lit (xs := [1, 2, 3]) (heap_alloc_new _ _) (by decide)) (by decide)).mono ?_; rintro e w10 ⟨rfl, hb⟩; have HB10 := Aside0.mk (below_then (below_alloc HB9.out _) (by have := HB9.out.size; simp; omega) hb); clear hb))
  go_ret
  exact ⟨rfl, HB10.out⟩
end Go.Proofs.Ytaepbgieahedjaa.QS
namespace Go.Proofs.Ytaepbgieahedjaa.QS
set_option linter.unusedVariables false
set_option linter.unusedSimpArgs false
open Go.RowKit Go.Proofs.Ytaepbgieahedjaa.Hp Go.Proofs.YtaepbgieahedjaaW.PrintWords Go.Proofs.YtaepbgieahedjaaW.PrintLast Go.Proofs.YtaepbgieahedjaaW.PrintMore
open Go.Proofs.Ytaepbgieahedjaa.IP
theorem ev_some0 (l : List R0) (now : Int) (over : Bool) (hl : l.length ≤ 1000000) : ∀ (d i : Nat) (acc : List R0), i + d = l.length → acc.length ≤ i → Ev (fun k => wagtailref27_Some.l0 k l now over acc (i : Int)) (acc ++ (l.drop i).filter fun x => decide (x.f4 ≤ now) == over)
  | 0, i, acc, hd, ha => by
    rw [List.drop_of_length_le (by omega), List.filter_nil, List.append_nil]
    refine Ev.step (f := fun k => some acc) (fun k => ?_) (Ev.now _)
    simp only [wagtailref27_Some.l0]
    rw [if_neg (by omega)]
  | d + 1, i, acc, hd, ha => by
    have hi : i < l.length := by omega
    rw [List.drop_eq_getElem_cons hi, List.filter_cons]
    by_cases h1 : (decide (l[i].f4 ≤ now) == over) = true
    · rw [if_pos h1]
      have e := ev_some0 l now over hl d (i + 1) (acc ++ [l[i]]) (by omega) (by rw [List.length_append, List.length_singleton]; omega)
      rw [List.append_assoc, List.singleton_append] at e
      refine Ev.step (f := fun k => wagtailref27_Some.l0 k l now over (acc ++ [l[i]]) ((i + 1 : Nat) : Int)) (fun k => ?_) e
      simp only [wagtailref27_Some.l0]
      rw [if_pos (by omega), if_pos (by omega), rd_nat l i hi, if_pos h1, if_pos (by omega), w_succ i (by omega)]
    · rw [if_neg h1]
      refine Ev.step (f := fun k => wagtailref27_Some.l0 k l now over acc ((i + 1 : Nat) : Int)) (fun k => ?_) (ev_some0 l now over hl d (i + 1) acc (by omega) (by omega))
      simp only [wagtailref27_Some.l0]
      rw [if_pos (by omega), if_pos (by omega), rd_nat l i hi, if_neg h1, w_succ i (by omega)]
theorem rsome_calls (l : List R0) (now : Int) (over : Bool) (hl : l.length ≤ 1000000) (A : Option Addr) (c : Nat) (W : World) (P : Nat → Prop) (h1 : l.length ≤ c) (h2 : Kd.F k29 W P A l.length l) :
    Calls Try.prog 23 #[.slice A l.length c, .int .u64 now, .bool over] W fun e w' => ∃ v, e = .returned v ∧ Kd.V k29 29 w' W.heap.size (fun k => P k ∨ W.heap.size ≤ k) v (l.filter fun x => decide (x.f4 ≤ now) == over) ∧ Below W.heap.size W w' := by
  have e := ev_some0 l now over hl l.length 0 [] (Nat.zero_add _) (Nat.le_refl _)
  rw [List.drop_zero, List.nil_append] at e
  obtain ⟨K, hK⟩ := e
  exact (wagtailref27_Some.calls K P A c l now over _ W (Kd.V_mk h1 h2) (hK K (Nat.le_refl _))).mono (fun e w' ⟨v, he, hN, hb⟩ => ⟨v, he, Kd.N_V hN, hb⟩)
theorem some_true (l : List R0) (now : Int) : (l.filter fun x => decide (x.f4 ≤ now) == true) = l.filter fun x => decide (x.f4 ≤ now) := by
  congr 1
  funext x
  exact beq_true _
theorem some_false (l : List R0) (now : Int) : (l.filter fun x => decide (x.f4 ≤ now) == false) = l.filter fun x => decide (now < x.f4) := by
  congr 1
  funext x
  by_cases h : x.f4 ≤ now
  · rw [decide_eq_true h, decide_eq_false (by omega)]; rfl
  · rw [decide_eq_false h, decide_eq_true (by omega)]; rfl
theorem IXr.lt {W : World} {base g : Nat} {l : List R0} {r : Option Nat} (h : IXr W base g l r) : base ≤ g ∧ g < W.heap.size ∧ ∀ k, r = some k → g < k ∧ k < W.heap.size := by
  obtain ⟨A, c, hz, hR, hg, hr⟩ := h
  exact ⟨hg, blk_lt hz, fun k hk => by rw [hr] at hk; exact ⟨hR.1 k hk, Kd.R_lt hR k hk⟩⟩
def Off (g : Nat) (r : Option Nat) (k : Nat) : Prop := k ≠ g ∧ some k ≠ r
def Want (W : World) (g : Nat) (r : Option Nat) (A : Option Addr) (c : Nat) (l : List R0) : Prop := l.length ≤ c ∧ Kd.F k29 W (Off g r) A l.length l
theorem Want.below {W W' : World} {g : Nat} {r : Option Nat} {A : Option Addr} {c : Nat} {l : List R0} (h : Want W g r A c l) (hb : Below W.heap.size W W') : Want W' g r A c l := ⟨h.1, Kd.F_below h.2 hb⟩
theorem Want.moved {W W' : World} {g : Nat} {r : Option Nat} {A : Option Addr} {c : Nat} {l : List R0} (h : Want W g r A c l) (hf : ∀ k, k < W.heap.size → k ≠ g → some k ≠ r → W'.heap[k]? = W.heap[k]?) {r' : Option Nat} (hr : ∀ k, r' = some k → r = some k ∨ W.heap.size ≤ k) : Want W' g r' A c l := by
  refine ⟨h.1, Kd.F_mono (Kd.F_step (Kd.F_bound h.2) (fun k hk hlt => hf k hlt hk.1.1 hk.1.2)) (fun k hk => ⟨hk.1.1, fun e => ?_⟩)⟩
  rcases hr k e.symm with h2 | h2
  · exact hk.1.2 h2.symm
  · have := hk.2; omega
theorem Want.le {W : World} {g : Nat} {r : Option Nat} {A : Option Addr} {c : Nat} {l : List R0} (h : Want W g r A c l) : l.length ≤ c := h.1
theorem Want.now {W : World} {g : Nat} {r : Option Nat} {A : Option Addr} {c : Nat} {l : List R0} (h : Want W g r A c l) : Kd.C k29 W A l.length l := Kd.F_now h.2
theorem Want.nil (W : World) (g : Nat) (r : Option Nat) : Want W g r none 0 [] := ⟨Nat.le_refl _, Kd.F_nil _ _ _⟩
theorem args_F {w W : World} {A : Option Addr} {n : Nat} {xs : List Int} (h : Kd.C (Kd.int .i64) w A n xs) (hb : Below w.heap.size w W) : Kd.F (Kd.int .i64) W (fun k => k < w.heap.size) A n xs :=
  Kd.F_below (fun W' hW => (Kd.heap_int _).C (fun k hk => hW k hk hk) h) hb
theorem N_empty (W : World) (base : Nat) (ok : Nat → Prop) (hb : base ≤ W.heap.size) (hok : ok W.heap.size) : Kd.N k29 29 (W.alloc (.cells #[] 29)) base ok (.slice (some ⟨W.heap.size, 0, none⟩) 0 0) [] := by
  refine Kd.R_N (R_of_rows (ps := []) (fun k hk => ?_) (World.ownsRow_made W #[] 0 hb (Nat.zero_le _) rfl) (fun p hp => by cases hp))
  have e : W.heap.size = k := Option.some.inj hk
  rw [← e]
  exact hok
theorem F_takeN {W : World} {ok : Nat → Prop} {A : Option Addr} {l : List R0} {m : Nat} (h : Kd.F k29 W ok A l.length l) (hm : m ≤ l.length) : Kd.F k29 W ok A m (l.take m) := by
  have k := Kd.F_take h hm
  rwa [show (l.take m).length = m by rw [List.length_take]; omega] at k
theorem F_dropN {W : World} {ok : Nat → Prop} {A : Option Addr} {l : List R0} {m c : Nat} (h : Kd.F k29 W ok A l.length l) (hm : m ≤ l.length) (hc : l.length ≤ c) : Kd.F k29 W ok (if c = m then A else A.map (·.add (m * 8))) (l.length - m) (l.drop m) := by
  have k := Kd.F_cut h hm hc
  rwa [List.length_drop] at k
theorem slice_fromA (A : Option Addr) (n c m : Nat) (hm : m ≤ n) (j : Int) (hj : j = (m : Int)) (W : World) : (Instr.slice 22 (.slice A n c) (some (.int .i64 j)) none none).run Try.prog W = .ok (.slice (if c = m then A else A.map (·.add (m * 8))) (n - m) (c - m)) W := by
  obtain ⟨i0, hi0, hsz⟩ := Option.map_eq_some_iff.1 size_rec
  have k := cut_from (P := Try.prog) 22 29 .i64 Try.underlying22 hi0 8 hsz A n c j (by omega) (by omega) W
  rwa [show j.toNat = m by omega] at k
theorem rmay_calls (x : R0) (hu : x.f7.length ≤ 1000000) (A : Option Addr) (c : Nat) (W : World) (h1 : Kd.C (Kd.int .i64) W A x.f7.length x.f7) (h2 : x.f7.length ≤ c) :
    Calls Try.prog 18 #[.agg #[.int .u64 x.f0, .int .u64 x.f1, .int .i64 x.f2, .int .i64 x.f3, .int .u64 x.f4, .bool x.f5, .int .i64 x.f6, .slice A x.f7.length c]] W fun e w' => e = .returned (.bool (mayB x)) ∧ Below W.heap.size W w' := by
  obtain ⟨K, hK⟩ := ev_may x (by omega)
  exact wagtailref26_May.calls K x.f0 x.f1 x.f2 x.f3 x.f4 x.f5 x.f6 A c x.f7 _ W h1 h2 (hK K (Nat.le_refl _))
theorem Want.put {w W W' : World} {g n : Nat} {r : Option Nat} {A : Option Addr} {c : Nat} {l : List R0} (h : Kd.V k29 29 W' n (fun k => ((Off g r k ∨ k < w.heap.size) ∨ W.heap.size ≤ k)) (.slice A l.length c) l) (h1 : w.heap.size ≤ g) (h2 : g < W.heap.size) (h3 : ∀ k, r = some k → g < k ∧ k < W.heap.size) : Want W' g r A c l := by
  have k := Kd.V_at h
  refine ⟨k.2.1, Kd.F_mono k.2.2 (fun q hq => ?_)⟩
  rcases hq with (hq | hq) | hq
  · exact hq
  · exact ⟨by omega, fun e => by have := h3 q e.symm; omega⟩
  · exact ⟨by omega, fun e => by have := h3 q e.symm; omega⟩
def GoodL (l : List R0) (n : Nat) : Prop := Rising keyR l ∧ l.length ≤ n ∧ n ≤ 41 ∧ ∀ x ∈ l, x.f7.length ≤ 60
theorem GoodL.put {l : List R0} {n : Nat} (h : GoodL l n) (hn : n ≤ 40) {x : R0} (hx : x.f7.length ≤ 60) (hk : hasKey keyR l x.f0 = false) : GoodL (putAt l (low keyR l x.f0) x) (n + 1) := by
  refine ⟨rising_put h.1 hk, ?_, by omega, fun y hy => ?_⟩
  · rw [putAt_length low_le]; have := h.2.1; omega
  · rcases mem_putAt hy with rfl | hy
    · exact hx
    · exact h.2.2.2 y hy
theorem hasKey_get {l : List R0} {id : Int} (h : hasKey keyR l id = true) : ∃ x, l[low keyR l id]? = some x ∧ low keyR l id < l.length := by
  unfold hasKey at h
  cases hx : l[low keyR l id]? with
  | none => rw [hx] at h; cases h
  | some x => exact ⟨x, rfl, (List.getElem?_eq_some_iff.1 hx).1⟩
theorem GoodL.drop {l : List R0} {n i : Nat} (h : GoodL l n) (hn : n ≤ 40) (hi : i < l.length) : GoodL (dropAt l i) (n + 1) := by
  refine ⟨rising_drop h.1 hi, ?_, by omega, fun y hy => h.2.2.2 y (mem_dropAt hy)⟩
  rw [dropAt_length hi]; have := h.2.1; omega
theorem GoodL.more {l : List R0} {n : Nat} (h : GoodL l n) (hn : n ≤ 40) : GoodL l (n + 1) := ⟨h.1, by have := h.2.1; omega, by omega, h.2.2.2⟩
theorem C_at {W : World} {A : Option Addr} {l : List R0} (h : Kd.C k29 W A l.length l) {i : Nat} {x : R0} (hx : l[i]? = some x) : ∃ ad Ap cp, A = some ad ∧ W.cell? (ad.add (i * 8)) = some (.int .u64 x.f0) ∧ W.cell? ⟨(ad.add (i * 8)).block, (ad.add (i * 8)).off + 1, none⟩ = some (.int .u64 x.f1) ∧ W.cell? ⟨(ad.add (i * 8)).block, (ad.add (i * 8)).off + 2, none⟩ = some (.int .i64 x.f2) ∧ W.cell? ⟨(ad.add (i * 8)).block, (ad.add (i * 8)).off + 3, none⟩ = some (.int .i64 x.f3) ∧ W.cell? ⟨(ad.add (i * 8)).block, (ad.add (i * 8)).off + 4, none⟩ = some (.int .u64 x.f4) ∧ W.cell? ⟨(ad.add (i * 8)).block, (ad.add (i * 8)).off + 5, none⟩ = some (.bool x.f5) ∧ W.cell? ⟨(ad.add (i * 8)).block, (ad.add (i * 8)).off + 6, none⟩ = some (.int .i64 x.f6) ∧ W.cell? ⟨(ad.add (i * 8)).block, (ad.add (i * 8)).off + 7, none⟩ = some (.slice Ap x.f7.length cp) ∧ x.f7.length ≤ cp ∧ Kd.C (Kd.int .i64) W Ap x.f7.length x.f7 := by
  have hi := (List.getElem?_eq_some_iff.1 hx).1
  obtain ⟨ad, Ap, cpp, hA, x0, x1, x2, x3, x4, x5, x6, x7, hlp, hCp⟩ := at_T29 h (i : Int) (by omega) (by omega)
  have hrd : rd_T29 l (i : Int) = x := by
    rw [rd_nat l i hi]
    rw [List.getElem?_eq_getElem hi] at hx
    exact Option.some.inj hx
  rw [hrd] at x0 x1 x2 x3 x4 x5 x6 x7 hlp hCp
  rw [Int.toNat_natCast] at x0 x1 x2 x3 x4 x5 x6 x7
  exact ⟨ad, Ap, cpp, hA, x0, x1, x2, x3, x4, x5, x6, x7, hlp, hCp⟩
end Go.Proofs.Ytaepbgieahedjaa.QS
