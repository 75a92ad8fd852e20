/- The law QueueClasses: the walk by hand. -/
import Derived.Test.YtnopjcakilfepaaC9
import Derived.DeepKeys
namespace Go.Proofs.Ytnopjcakilfepaa.QS
set_option linter.unusedVariables false
set_option linter.unusedSimpArgs false
open Go.RowKit Go.Proofs.Ytnopjcakilfepaa.SS Go.Proofs.Ytnopjcakilfepaa.Hp Go.Proofs.YtnopjcakilfepaaW.PrintWords Go.Proofs.YtnopjcakilfepaaW.PrintLast Go.Proofs.YtnopjcakilfepaaW.PrintMore
-- tabs
def classes13.T13 : Bool × List (List Nat × List Nat) := (true, [([], []), ([0, 0], [0]), ([1], [1]), ([1], [1]), ([2, 3, 1, 1], [1, 2, 3]), ([1], [1]), ([4, 5, 4, 1], [1, 4, 5]), ([1, 6], [1, 6]), ([7, 6], [7]), ([8], [8]), ([9, 8, 8], [8, 9]), ([8], [8]), ([10, 11, 8], [8, 10, 11]), ([8, 12], [8, 12]), ([13, 10, 0, 1, 2, 3, 4, 5, 6, 7, 8, 9, 10, 11, 12, 13], [13])])
def classes13.B13 : List Nat := [0, 1, 3, 3, 15, 3, 63, 127, 255, 511, 1023, 511, 4095, 8191, 16383]
theorem classes13.tab13 : rtab .any (opsOf Try.f4 13) = classes13.T13 := by kernel_rfl
theorem classes13.bits13 : waitsOk classes13.T13.2 classes13.B13 = true := by kernel_rfl
-- tabs end
theorem at_lt {W : World} {ad : Addr} {x : R0} {A : Option Addr} {c : Nat} (h : At W ad x A c) : ad.block < W.heap.size := World.block_lt_of_cell? W _ h.1
theorem At.move {W : World} {ad : Addr} {x : R0} {A : Option Addr} {c : Nat} (h : At W ad x A c) (W' : World) (hb : ad.block < W.heap.size → W'.heap[ad.block]? = W.heap[ad.block]?) : At W' ad x A c := by
  have hb := hb (at_lt h)
  exact ⟨(World.cell?_of_block hb).trans h.1, (World.cell?_of_block (a := ⟨ad.block, _, none⟩) hb).trans h.2.1, (World.cell?_of_block (a := ⟨ad.block, _, none⟩) hb).trans h.2.2.1, (World.cell?_of_block (a := ⟨ad.block, _, none⟩) hb).trans h.2.2.2.1, (World.cell?_of_block (a := ⟨ad.block, _, none⟩) hb).trans h.2.2.2.2.1,
    (World.cell?_of_block (a := ⟨ad.block, _, none⟩) hb).trans h.2.2.2.2.2.1, (World.cell?_of_block (a := ⟨ad.block, _, none⟩) hb).trans h.2.2.2.2.2.2.1, (World.cell?_of_block (a := ⟨ad.block, _, none⟩) hb).trans h.2.2.2.2.2.2.2⟩
theorem class_filter (l : List R0) (p : Int) : classOf l p = (orderOf l).filter fun x => x.f2 == p := by
  have hs := ssort_stable ltS_ord (waits l)
  have e : (l.filter fun x => !x.f5 && (x.f2 == p)) = (waits l).filter fun x => x.f2 == p := by
    unfold waits
    rw [List.filter_filter]
    congr 1
    funext x
    exact Bool.and_comm _ _
  unfold classOf
  rw [e]
  refine (ssort_stable ltS_ord _).eq ltS_ord (v := (orderOf l).filter fun x => x.f2 == p) ⟨hs.1.filter _, fun z => ?_, fun z => ?_⟩
  · unfold orderOf
    rw [List.mem_filter, List.mem_filter, hs.2.1]
  · unfold orderOf
    rw [List.filter_filter, List.filter_filter]
    have h1 := congrArg (List.filter fun x => x.f2 == p) (hs.2.2 z)
    rw [List.filter_filter, List.filter_filter] at h1
    have hc : (fun a : R0 => eqv ltS z a && (a.f2 == p)) = fun a => (a.f2 == p) && eqv ltS z a := by funext a; exact Bool.and_comm _ _
    rw [hc]
    exact h1
def cn (o : List R0) (i : Nat) (p : Int) : Int := (((o.take i).filter fun x => x.f2 == p).length : Int)
theorem cn_range (o : List R0) (i : Nat) (p : Int) : 0 ≤ cn o i p ∧ cn o i p ≤ o.length := by
  unfold cn
  have h1 := List.length_filter_le (fun x : R0 => x.f2 == p) (o.take i)
  rw [List.length_take] at h1
  omega
theorem cn_succ (o : List R0) (i : Nat) (h : i < o.length) (p : Int) : cn o (i + 1) p = cn o i p + if o[i].f2 = p then 1 else 0 := by
  unfold cn
  rw [List.take_add_one, List.getElem?_eq_getElem h, List.filter_append, List.length_append]
  by_cases hp : o[i].f2 = p
  · rw [if_pos hp]; simp [hp]
  · rw [if_neg hp]; simp [hp]
theorem cn_all (l : List R0) (p : Int) : cn (orderOf l) (orderOf l).length p = ((classOf l p).length : Int) := by rw [class_filter]; unfold cn; rw [List.take_length]
theorem class_lt {l : List R0} (hl : lightL l) (p : Int) : lightL (classOf l p) := ⟨by have := class_len l p; have := hl.1; omega, fun x hx => hl.2 x (List.mem_filter.1 (((ssort_stable ltS_ord _).2.1 x).1 hx)).1⟩
theorem eq3 (W : World) (x y z : Int) : (Op.equalIn 10000 34 (.agg #[.int .i64 x, .int .i64 y, .int .i64 z]) (.agg #[.int .i64 x, .int .i64 y, .int .i64 z])).run Try.prog W = .ok true W := by
  have ei : ∀ u : Int, (Op.equalIn 9999 3 (.int .i64 u) (.int .i64 u)).run Try.prog W = .ok true W := fun u => by
    rw [show (9999 : Nat) = 9998 + 1 from rfl, run_equalIn_int (P := Try.prog) W 9998 3 .i64 .i64 u u Try.underlying3]
    simp
  rw [show (10000 : Nat) = 9999 + 1 from rfl, run_equalIn_array (P := Try.prog) W 9999 (e := 3) (n := 3) _ _ Try.underlying34 (by rfl)]
  have p0 : (part 3 #[.int .i64 x, .int .i64 y, .int .i64 z] (0 * Try.prog.cellsOf 3)).run Try.prog W = .ok (.int .i64 x) W := by kernel_rfl
  have p1 : (part 3 #[.int .i64 x, .int .i64 y, .int .i64 z] (1 * Try.prog.cellsOf 3)).run Try.prog W = .ok (.int .i64 y) W := by kernel_rfl
  have p2 : (part 3 #[.int .i64 x, .int .i64 y, .int .i64 z] (2 * Try.prog.cellsOf 3)).run Try.prog W = .ok (.int .i64 z) W := by kernel_rfl
  rw [show List.range 3 = [0, 1, 2] from rfl]
  simp only [Op.eqItems, Sem.run_bind, p0, p1, p2, ei, Result.andThen_ok, Bool.not_true, Bool.false_eq_true, if_false]
  rfl
structure BW (N b7 Bs : Nat) : Prop where
  h1 : N ≤ Bs
  h2 : b7 < Bs
  h3 : N ≤ b7
set_option maxHeartbeats 16000000 in
set_option maxRecDepth 100000 in
theorem classes_law (l : List R0) (prio : Int) (A : Option Addr) (cp : Nat) (hcp : l.length ≤ cp) (hm : l.length ≤ 9223372036854775807) (w : World) (hC : Kd.C k29 w A l.length l) :
    Calls Try.prog 4 #[.slice A l.length cp, .int .i64 prio] w fun e w' => e = .returned (.bool true) ∧ Below w.heap.size w w' := by
  have HLI := Aside0.mk (fun W hW => light_calls l A cp hcp W (Kd.C_below hC hW) hm)
  have HR := Aside0.mk (And.intro hcp hC)
  have HAW := Aside0.mk (fun W => awake_calls W)
  have B0 := Aside0.mk (Below.refl w.heap.size w)
  clear hcp hC hm
  cases hlb : lightB l with
  | false =>
    rw [hlb] at HLI
    clear hlb
    go_enter Try.func4, Try.ntmps4
    go_wp2_with (first | (go_at_call 11; refine (HLI.out _ B0.out).mono ?_; rintro e w2 ⟨rfl, hb⟩; replace B0 := Aside0.mk (below_then B0.out B0.out.size hb); clear hb) | (go_at_call 12; refine (HAW.out _).mono ?_; rintro e w2 ⟨rfl, hb⟩; replace B0 := Aside0.mk (below_then B0.out B0.out.size hb); clear hb))
    go_ret
    exact ⟨rfl, B0.out⟩
  | true =>
    obtain ⟨hl, hl60, hp60⟩ := lightB_L hlb
    rw [hlb] at HLI
    have HRO := Aside0.mk (fun W hW => rorder_calls l hl.1 A cp HR.out.1 W (Kd.C_below HR.out.2 hW))
    have HCL : Aside0 (∀ W, Below w.heap.size w W → Calls Try.prog 19 #[.slice A l.length cp, .int .i64 prio] W fun e w' => ∃ A c, e = .returned (.slice A (classOf l prio).length c) ∧ (classOf l prio).length ≤ c ∧ Kd.C k29 w' A (classOf l prio).length (classOf l prio) ∧ Below W.heap.size W w') := ⟨fun W hW => by
      refine (class_calls l hl prio A cp W (Kd.C_below HR.out.2 hW)).mono ?_
      rintro e w' ⟨v, rfl, hr, hb⟩
      obtain ⟨A1, c1, rfl, h1, h2⟩ := Kd.R_reads hr
      exact ⟨A1, c1, rfl, h1, h2, hb⟩⟩
    have HWT := Aside0.mk (fun W hW => waiting_calls l hl A cp W (Kd.C_below HR.out.2 hW))
    have HOL := Aside0.mk (order_light hl)
    have HLL := Aside0.mk hl
    clear hlb hl hl60 hp60
    go_enter Try.func4, Try.ntmps4
    go_upto_region 6 with (first | (go_at_call 11; refine (HLI.out _ B0.out).mono ?_; rintro e w2 ⟨rfl, hb⟩; replace B0 := Aside0.mk (below_then B0.out B0.out.size hb); clear hb) | (go_at_call 14; (with_reducible refine (HRO.out _ B0.out).mono ?_); rintro e w4 ⟨v4, rfl, hr4, hb⟩; obtain ⟨Aw, cw, rfl, hlw, hCw⟩ := hr4; replace B0 := Aside0.mk (below_then B0.out B0.out.size hb); have HO4 := Aside0.mk (And.intro hlw hCw); clear hb hlw hCw))
    obtain ⟨b7, hb7⟩ : ∃ b7, b7 = w4.heap.size := ⟨_, rfl⟩
    have hZ7 := heap_alloc_new w4 (.cells #[.int .i64 0, .int .i64 0, .int .i64 0] 34)
    have hB7 := below_alloc (Below.refl w4.heap.size w4) (.cells #[.int .i64 0, .int .i64 0, .int .i64 0] 34)
    have hsz : (w4.alloc (.cells #[.int .i64 0, .int .i64 0, .int .i64 0] 34)).heap.size = b7 + 1 := by simp [hb7]
    rw [← hb7] at hZ7 hB7 ⊢
    generalize w4.alloc (.cells #[.int .i64 0, .int .i64 0, .int .i64 0] 34) = W1 at hZ7 hB7 hsz ⊢
    obtain ⟨Bs, hBs⟩ : ∃ Bs, Bs = b7 + 1 := ⟨_, rfl⟩
    rw [← hBs] at hsz
    obtain ⟨o, ho⟩ : ∃ o, o = orderOf l := ⟨_, rfl⟩
    have hCo := HO4.out.2
    rw [← ho] at hCo HOL ⊢
    obtain ⟨ps, hps, hgood, hnone, hcells⟩ := split_row hCo
    obtain ⟨fil, hfil⟩ : ∃ fil : Nat → List Rp, fil = fun i => (ps.take i).filter fun q => q.1.f2 == prio := ⟨_, rfl⟩
    have hpl : ps.length = o.length := by rw [← hps, List.length_map]
    have HBT : Aside0 (∀ W, Below b7 w4 W → Below w.heap.size w W) := ⟨fun W hW => B0.out.trans (hW.mono (by rw [hb7]; exact B0.out.size))⟩
    have HGD : Aside0 (∀ W, Below b7 w4 W → ∀ q ∈ ps, Pg W q.1 q.2.1 q.2.2) := ⟨fun W hW q hq => (hgood q hq).below (by rw [← hb7]; exact hW)⟩
    have HAT : Aside0 (∀ (i : Nat) (h : i < o.length), ∃ ad, Aw = some ad ∧ ∃ x Ax cx, ps[i]? = some (x, Ax, cx) ∧ o[i]? = some x ∧ (ad.add (i * 8)).block < b7 ∧ ∀ W, Below b7 w4 W → At W (ad.add (i * 8)) x Ax cx) := ⟨fun i h => by
      cases hAw : Aw with
      | none => have := hnone hAw; omega
      | some ad =>
        obtain ⟨q, hq⟩ : ∃ q, ps[i]? = some q := ⟨_, List.getElem?_eq_getElem (by omega)⟩
        have hc : ∀ k u, (recOf q).enc[k]? = some u → w4.cell? (ad.add (i * 8 + k)) = some u := fun k u hu => by
          refine hcells ad hAw _ u ?_
          rw [encs_at (ps.map recOf) i (recOf q) (by rw [List.getElem?_map, hq]; rfl) k (List.getElem?_eq_some_iff.1 hu).1]
          exact hu
        have hat : At w4 (ad.add (i * 8)) q.1 q.2.1 q.2.2 := ⟨hc 0 _ rfl, by rw [← add_field _ _ 1 (by omega)]; exact hc 1 _ rfl, by rw [← add_field _ _ 2 (by omega)]; exact hc 2 _ rfl, by rw [← add_field _ _ 3 (by omega)]; exact hc 3 _ rfl, by rw [← add_field _ _ 4 (by omega)]; exact hc 4 _ rfl, by rw [← add_field _ _ 5 (by omega)]; exact hc 5 _ rfl, by rw [← add_field _ _ 6 (by omega)]; exact hc 6 _ rfl, by rw [← add_field _ _ 7 (by omega)]; exact hc 7 _ rfl⟩
        refine ⟨ad, rfl, q.1, q.2.1, q.2.2, hq, by rw [← hps, List.getElem?_map, hq]; rfl, by rw [hb7]; exact at_lt hat, fun W hW => hat.below (by rw [← hb7]; exact hW)⟩⟩
    have HP := Aside0.mk (And.intro hps hpl)
    have HFIL := Aside0.mk hfil
    have HLF : Aside0 (∀ i, (fil i).length ≤ 1000) := ⟨fun i => by rw [hfil]; have h1 := List.length_filter_le (fun q : Rp => q.1.f2 == prio) (ps.take i); rw [List.length_take] at h1; have := HOL.out.1; simp only; omega⟩
    have HBW : Aside0 (BW b7 b7 Bs) := ⟨⟨by omega, by omega, Nat.le_refl _⟩⟩
    have HON := Aside0.mk HOL.out.1
    have HB7 := Aside0.mk (And.intro hB7 hsz)
    have HZ0 := Aside0.mk hZ7
    have HOE := Aside0.mk ho
    clear B0 hZ7 hB7 hps hgood hnone hcells hpl hCo hBs HO4 HRO HLI ho hfil hsz hb7
    go_wp2_with fail
    go_loopg [6, 8] (o.length + 1) (fun kq v6 v8 w' => ∃ i : Nat, ∃ v : Value, v6 = v ∧ v8 = .int .i64 (i : Int) ∧ Aside0 (i ≤ o.length ∧ kq + i = o.length + 1) ∧ Aside0 (w'.ownsRow Bs 29 8 v (fil i).length (((fil i).map recOf).flatMap Rec.enc)) ∧ Aside0 (w'.heap[b7]? = some (.cells #[.int .i64 (cn o i 0), .int .i64 (cn o i 1), .int .i64 (cn o i 2)] 34 (0, 0))) ∧ Aside0 (Below b7 w4 w') ∧ Aside0 (Bs ≤ w'.heap.size))
    case atStart => exact ⟨0, _, rfl, rfl, ⟨Nat.zero_le _, rfl⟩, ⟨by rw [HFIL.out]; exact World.ownsRow_nil _ _ _ _⟩, ⟨by simpa [cn] using HZ0.out⟩, ⟨HB7.out.1⟩, ⟨Nat.le_of_eq HB7.out.2.symm⟩⟩
    case round =>
      clear HZ0 HB7
      obtain ⟨i, u6, rfl, rfl, HI, HO, HZ, BB, HS⟩ := hrel
      by_cases hi : i < o.length
      case neg =>
        have hie : i = o.length := by have := HI.out; omega
        subst hie
        have t1 : decide ((o.length : Int) < (o.length : Int)) = false := decide_eq_false (by omega)
        have hfe : (fil o.length).map (·.1) = classOf l prio := by
          have e2 : (ps.filter fun q => q.1.f2 == prio).map (·.1) = o.filter fun x => x.f2 == prio := by
            rw [← HP.out.1, List.filter_map]
            rfl
          rw [HFIL.out, class_filter, ← HOE.out, ← e2]
          show ((ps.take o.length).filter fun q => q.1.f2 == prio).map (·.1) = _
          rw [← HP.out.2, List.take_length]
        have hfl : (fil o.length).length = (classOf l prio).length := by rw [← hfe, List.length_map]
        obtain ⟨A6, c6, hv, hc6, hC6⟩ := own_C HO.out (fun q hq => HGD.out _ BB.out q (by rw [HFIL.out] at hq; exact List.mem_of_mem_take (List.mem_filter.1 hq).1)) (by have := HLF.out o.length; omega)
        rw [hfl] at hv hc6
        rw [hfe] at hC6
        subst hv
        have hz := HZ.out
        rw [HOE.out, cn_all, cn_all, cn_all] at hz
        have HZZ := Aside0.mk (blk_drew hz)
        have HBB := Aside0.mk (below_drew BB.out)
        have HSM : Aside0 (∀ W, Below wr.drew.heap.size wr.drew W → ∀ (Ac : Option Addr) (cc : Nat), (classOf l prio).length ≤ cc → Kd.C k29 W Ac (classOf l prio).length (classOf l prio) → Calls Try.prog 16 #[.slice Ac (classOf l prio).length cc, .slice A6 (classOf l prio).length c6] W fun e w' => e = .returned (.bool true) ∧ Below W.heap.size W w') := ⟨fun W hW Ac cc h1 h2 => rsame_calls (classOf l prio) (class_lt HLL.out prio) Ac cc A6 c6 W h1 h2 hc6 (Kd.C_below (Kd.C_below hC6 (below_drew (Below.refl _ _))) hW)⟩
        have heq := fun W : World => eq3 W ((classOf l 0).length : Int) ((classOf l 1).length : Int) ((classOf l 2).length : Int)
        clear hi hfe hfl hc6 hC6 hz
        go_upto_region 13 with fail
        have HBQ : Aside0 (∀ W, Below wr.drew.heap.size wr.drew W → Below w.heap.size w W) := ⟨fun W hW => (HBT.out _ HBB.out).trans (hW.mono (HBT.out _ HBB.out).size)⟩
        have Z7 := HZZ
        have B0 := Aside0.mk (Below.refl wr.drew.heap.size wr.drew)
        clear HZZ HBB
        -- R13
        refine start_ (n := 15) (S := fun w' => True) (ds := []) #[false, false, false, false, false, false, false, false, false, false, false, false, false, false, false] (by kernel_rfl) rfl rfl trivial (fun hHeld => ?_)
        refine with_tabW classes13.tab13 classes13.bits13 (fun HT_ HW_ => ?_)
        generalize wr.drew = wq at B0 Z7 HSM HBQ hHeld ⊢
        refine inv_at [0, 1, 2, 3, 4, 5, 6, 7, 8, 9, 10, 11, 12, 13, 14] (fun a0_ b a w' => ∃ (Ac : Option Addr) (cc : Nat) (m4_ : Value), a = putSel a0_ b [(0, 58, .bool true), (1, 59, .bool true), (2, 60, .slice A l.length cp), (3, 61, .int .i64 prio), (4, 62, m4_), (5, 63, .slice A6 (classOf l prio).length c6), (6, 64, .bool true), (7, 65, .bool true), (8, 66, .bool true), (9, 67, .slice A l.length cp), (10, 68, .agg #[.int .i64 ((classOf l 0).length : Int), .int .i64 ((classOf l 1).length : Int), .int .i64 ((classOf l 2).length : Int)]), (11, 69, .agg #[.int .i64 ((classOf l 0).length : Int), .int .i64 ((classOf l 1).length : Int), .int .i64 ((classOf l 2).length : Int)]), (12, 70, .bool true), (13, 71, .bool true), (14, 4, .bool true)] ∧ (Below wq.heap.size wq w') ∧ (w'.heap[b7]? = some (.cells #[.int .i64 ((classOf l 0).length : Int), .int .i64 ((classOf l 1).length : Int), .int .i64 ((classOf l 2).length : Int)] 34 (0, 0))) ∧ (b 4 = true → (classOf l prio).length ≤ cc ∧ Kd.C k29 w' Ac (classOf l prio).length (classOf l prio)) ∧ (b 4 = true → (m4_ : Value) = .slice Ac (classOf l prio).length cc)) HT_.out HW_.out (by kernel_rfl) (by kernel_rfl) ?_ ?_ ?_
        · exact ⟨none, 0, .bool false, by simp only [putSel, Bool.false_eq_true, if_false], B0.out, Z7.out, fun h_ => absurd h_ (by decide), fun h_ => absurd h_ (by decide)⟩
        · skip
          clear B0 Z7
          refine steps_cons ?_ ?_
          · rintro b a w' ⟨Ac, cc, m4_, ha, Q_B0, Q_Z7, Q_RC, Q_X4_⟩ hb_ hon hoff
            refine ⟨_, rfl, fun K hK => ?_⟩
            replace ha := Aside0.mk ha
            have B0 := Aside0.mk Q_B0
            have Z7 := Aside0.mk Q_Z7
            refine goes_ Try.func12 (by kernel_rfl) rfl #[] (by rfl) rfl rfl (by first | (simp only [List.map_toArray, List.map_cons, List.map_nil, Act.eval, Array.getD_eq_getD_getElem?, Option.getD_some]; done) | (simp only [List.map_toArray, List.map_cons, List.map_nil, Act.eval, Array.getD_eq_getD_getElem?, Option.getD_some]; rfl)) ?_
            with_reducible refine (HAW.out _).mono ?_
            rintro e w2 ⟨rfl, hb⟩
            refine ⟨_, rfl, ?_⟩
            refine hK.out _ _ ⟨Ac, cc, m4_, (by rw [ha.out]; exact putSel_upk 0 hb_ rfl rfl rfl), below_then B0.out B0.out.size hb, blk_below Z7.out hb, fun h0_ => absurd ((hoff 4 (by kernel_rfl)).symm.trans h0_) (by decide), fun h0_ => absurd ((hoff 4 (by kernel_rfl)).symm.trans h0_) (by decide)⟩
          refine steps_cons ?_ ?_
          · rintro b a w' ⟨Ac, cc, m4_, ha, Q_B0, Q_Z7, Q_RC, Q_X4_⟩ hb_ hon hoff
            refine ⟨_, rfl, fun K hK => ?_⟩
            have e58 : a.tmps[58]? = some (.bool true) := by rw [ha]; exact putSel_on (e := (0, 58, .bool true)) 0 rfl rfl (hon 0 (by kernel_rfl)) rfl
            replace ha := Aside0.mk ha
            have B0 := Aside0.mk Q_B0
            have Z7 := Aside0.mk Q_Z7
            refine value_ (w1 := w') (v := .bool true) (by rfl) rfl ?_ ?_
            · go_simp
              (try simp only [i64_w])
              try rfl
            refine hK.out _ _ ⟨Ac, cc, m4_, (by rw [ha.out]; exact putSel_upk 1 hb_ rfl rfl rfl), Q_B0, Q_Z7, fun h0_ => absurd ((hoff 4 (by kernel_rfl)).symm.trans h0_) (by decide), fun h0_ => absurd ((hoff 4 (by kernel_rfl)).symm.trans h0_) (by decide)⟩
          refine steps_cons ?_ ?_
          · rintro b a w' ⟨Ac, cc, m4_, ha, Q_B0, Q_Z7, Q_RC, Q_X4_⟩ hb_ hon hoff
            refine ⟨_, rfl, fun K hK => ?_⟩
            have e0 : a.tmps[0]? = some (.slice A l.length cp) := by rw [ha]; exact (putSel_off rfl).trans rfl
            have e59 : a.tmps[59]? = some (.bool true) := by rw [ha]; exact putSel_on (e := (1, 59, .bool true)) 1 rfl rfl (hon 1 (by kernel_rfl)) rfl
            replace ha := Aside0.mk ha
            have B0 := Aside0.mk Q_B0
            have Z7 := Aside0.mk Q_Z7
            refine value_ (w1 := w') (v := .slice A l.length cp) (wanted_on rfl rfl rfl (e59.trans (by first | rfl | (simp [*]; done)))) rfl ?_ ?_
            · go_simp
              (try simp only [i64_w])
              try rfl
            refine hK.out _ _ ⟨Ac, cc, m4_, (by rw [ha.out]; exact putSel_upk 2 hb_ rfl rfl rfl), Q_B0, Q_Z7, fun h0_ => absurd ((hoff 4 (by kernel_rfl)).symm.trans h0_) (by decide), fun h0_ => absurd ((hoff 4 (by kernel_rfl)).symm.trans h0_) (by decide)⟩
          refine steps_cons ?_ ?_
          · rintro b a w' ⟨Ac, cc, m4_, ha, Q_B0, Q_Z7, Q_RC, Q_X4_⟩ hb_ hon hoff
            refine ⟨_, rfl, fun K hK => ?_⟩
            have e1 : a.tmps[1]? = some (.int .i64 prio) := by rw [ha]; exact (putSel_off rfl).trans rfl
            have e59 : a.tmps[59]? = some (.bool true) := by rw [ha]; exact putSel_on (e := (1, 59, .bool true)) 1 rfl rfl (hon 1 (by kernel_rfl)) rfl
            replace ha := Aside0.mk ha
            have B0 := Aside0.mk Q_B0
            have Z7 := Aside0.mk Q_Z7
            refine value_ (w1 := w') (v := .int .i64 prio) (wanted_on rfl rfl rfl (e59.trans (by first | rfl | (simp [*]; done)))) rfl ?_ ?_
            · go_simp
              (try simp only [i64_w])
              try rfl
            refine hK.out _ _ ⟨Ac, cc, m4_, (by rw [ha.out]; exact putSel_upk 3 hb_ rfl rfl rfl), Q_B0, Q_Z7, fun h0_ => absurd ((hoff 4 (by kernel_rfl)).symm.trans h0_) (by decide), fun h0_ => absurd ((hoff 4 (by kernel_rfl)).symm.trans h0_) (by decide)⟩
          refine steps_cons ?_ ?_
          · rintro b a w' ⟨Ac, cc, m4_, ha, Q_B0, Q_Z7, Q_RC, Q_X4_⟩ hb_ hon hoff
            refine ⟨_, rfl, fun K hK => ?_⟩
            have e60 : a.tmps[60]? = some (.slice A l.length cp) := by rw [ha]; exact putSel_on (e := (2, 60, .slice A l.length cp)) 2 rfl rfl (hon 2 (by kernel_rfl)) rfl
            have e61 : a.tmps[61]? = some (.int .i64 prio) := by rw [ha]; exact putSel_on (e := (3, 61, .int .i64 prio)) 3 rfl rfl (hon 3 (by kernel_rfl)) rfl
            have e59 : a.tmps[59]? = some (.bool true) := by rw [ha]; exact putSel_on (e := (1, 59, .bool true)) 1 rfl rfl (hon 1 (by kernel_rfl)) rfl
            replace ha := Aside0.mk ha
            have B0 := Aside0.mk Q_B0
            have Z7 := Aside0.mk Q_Z7
            refine goes_ Try.func19 (by kernel_rfl) rfl #[.slice A l.length cp, .int .i64 prio] (wanted_on rfl rfl rfl (e59.trans rfl)) rfl rfl (by first | (simp only [List.map_toArray, List.map_cons, List.map_nil, Act.eval, Array.getD_eq_getD_getElem?, Option.getD_some, e60, e61, e59]; done) | (simp only [List.map_toArray, List.map_cons, List.map_nil, Act.eval, Array.getD_eq_getD_getElem?, Option.getD_some, e60, e61, e59]; rfl)) ?_
            with_reducible refine (HCL.out _ (HBQ.out _ B0.out)).mono ?_
            rintro e w2 ⟨A_, c_, rfl, hl_, hC_, hb⟩
            refine ⟨_, rfl, ?_⟩
            refine hK.out _ _ ⟨A_, c_, (.slice A_ (classOf l prio).length c_), (by rw [ha.out]; exact putSel_upk 4 hb_ rfl rfl rfl), below_then B0.out B0.out.size hb, blk_below Z7.out hb, fun _ => ⟨hl_, hC_⟩, fun _ => rfl⟩
          refine steps_cons ?_ ?_
          · rintro b a w' ⟨Ac, cc, m4_, ha, Q_B0, Q_Z7, Q_RC, Q_X4_⟩ hb_ hon hoff
            refine ⟨_, rfl, fun K hK => ?_⟩
            have e6 : a.tmps[6]? = some (.slice A6 (classOf l prio).length c6) := by rw [ha]; exact (putSel_off rfl).trans rfl
            have e59 : a.tmps[59]? = some (.bool true) := by rw [ha]; exact putSel_on (e := (1, 59, .bool true)) 1 rfl rfl (hon 1 (by kernel_rfl)) rfl
            replace ha := Aside0.mk ha
            have B0 := Aside0.mk Q_B0
            have Z7 := Aside0.mk Q_Z7
            refine value_ (w1 := w') (v := .slice A6 (classOf l prio).length c6) (wanted_on rfl rfl rfl (e59.trans (by first | rfl | (simp [*]; done)))) rfl ?_ ?_
            · go_simp
              (try simp only [i64_w])
              try rfl
            refine hK.out _ _ ⟨Ac, cc, m4_, (by rw [ha.out]; exact putSel_upk 5 hb_ rfl rfl rfl), Q_B0, Q_Z7, Q_RC, Q_X4_⟩
          refine steps_cons ?_ ?_
          · rintro b a w' ⟨Ac, cc, m4_, ha, Q_B0, Q_Z7, Q_RC, Q_X4_⟩ hb_ hon hoff
            refine ⟨_, rfl, fun K hK => ?_⟩
            have e62 : a.tmps[62]? = some (m4_) := by rw [ha]; exact putSel_on (e := (4, 62, m4_)) 4 rfl rfl (hon 4 (by kernel_rfl)) rfl
            rw [Q_X4_ (hon 4 (by kernel_rfl))] at e62
            have e63 : a.tmps[63]? = some (.slice A6 (classOf l prio).length c6) := by rw [ha]; exact putSel_on (e := (5, 63, .slice A6 (classOf l prio).length c6)) 5 rfl rfl (hon 5 (by kernel_rfl)) rfl
            have e59 : a.tmps[59]? = some (.bool true) := by rw [ha]; exact putSel_on (e := (1, 59, .bool true)) 1 rfl rfl (hon 1 (by kernel_rfl)) rfl
            replace ha := Aside0.mk ha
            have B0 := Aside0.mk Q_B0
            have Z7 := Aside0.mk Q_Z7
            have RC := Aside0.mk (Q_RC (hon 4 (by kernel_rfl)))
            refine goes_ Try.func16 (by kernel_rfl) rfl #[.slice Ac (classOf l prio).length cc, .slice A6 (classOf l prio).length c6] (wanted_on rfl rfl rfl (e59.trans rfl)) rfl rfl (by first | (simp only [List.map_toArray, List.map_cons, List.map_nil, Act.eval, Array.getD_eq_getD_getElem?, Option.getD_some, e62, e63, e59]; done) | (simp only [List.map_toArray, List.map_cons, List.map_nil, Act.eval, Array.getD_eq_getD_getElem?, Option.getD_some, e62, e63, e59]; rfl)) ?_
            with_reducible refine (HSM.out _ B0.out Ac cc RC.out.1 RC.out.2).mono ?_
            rintro e w2 ⟨rfl, hb⟩
            refine ⟨_, rfl, ?_⟩
            refine hK.out _ _ ⟨Ac, cc, m4_, (by rw [ha.out]; exact putSel_upk 6 hb_ rfl rfl rfl), below_then B0.out B0.out.size hb, blk_below Z7.out hb, fun _ => ⟨RC.out.1, Kd.C_below RC.out.2 hb⟩, Q_X4_⟩
          refine steps_cons ?_ ?_
          · rintro b a w' ⟨Ac, cc, m4_, ha, Q_B0, Q_Z7, Q_RC, Q_X4_⟩ hb_ hon hoff
            refine ⟨_, rfl, fun K hK => ?_⟩
            have e59 : a.tmps[59]? = some (.bool true) := by rw [ha]; exact putSel_on (e := (1, 59, .bool true)) 1 rfl rfl (hon 1 (by kernel_rfl)) rfl
            have e64 : a.tmps[64]? = some (.bool true) := by rw [ha]; exact putSel_on (e := (6, 64, .bool true)) 6 rfl rfl (hon 6 (by kernel_rfl)) rfl
            replace ha := Aside0.mk ha
            have B0 := Aside0.mk Q_B0
            have Z7 := Aside0.mk Q_Z7
            have RC := Aside0.mk (Q_RC (hon 4 (by kernel_rfl)))
            refine value_ (w1 := w') (v := .bool true) (by rfl) rfl ?_ ?_
            · go_simp
              (try simp only [i64_w])
              try rfl
            refine hK.out _ _ ⟨Ac, cc, m4_, (by rw [ha.out]; exact putSel_upk 7 hb_ rfl rfl rfl), Q_B0, Q_Z7, Q_RC, Q_X4_⟩
          refine steps_cons ?_ ?_
          · rintro b a w' ⟨Ac, cc, m4_, ha, Q_B0, Q_Z7, Q_RC, Q_X4_⟩ hb_ hon hoff
            refine ⟨_, rfl, fun K hK => ?_⟩
            have e65 : a.tmps[65]? = some (.bool true) := by rw [ha]; exact putSel_on (e := (7, 65, .bool true)) 7 rfl rfl (hon 7 (by kernel_rfl)) rfl
            replace ha := Aside0.mk ha
            have B0 := Aside0.mk Q_B0
            have Z7 := Aside0.mk Q_Z7
            have RC := Aside0.mk (Q_RC (hon 4 (by kernel_rfl)))
            refine value_ (w1 := w') (v := .bool true) (by rfl) rfl ?_ ?_
            · go_simp
              (try simp only [i64_w])
              try rfl
            refine hK.out _ _ ⟨Ac, cc, m4_, (by rw [ha.out]; exact putSel_upk 8 hb_ rfl rfl rfl), Q_B0, Q_Z7, Q_RC, Q_X4_⟩
          refine steps_cons ?_ ?_
          · rintro b a w' ⟨Ac, cc, m4_, ha, Q_B0, Q_Z7, Q_RC, Q_X4_⟩ hb_ hon hoff
            refine ⟨_, rfl, fun K hK => ?_⟩
            have e0 : a.tmps[0]? = some (.slice A l.length cp) := by rw [ha]; exact (putSel_off rfl).trans rfl
            have e66 : a.tmps[66]? = some (.bool true) := by rw [ha]; exact putSel_on (e := (8, 66, .bool true)) 8 rfl rfl (hon 8 (by kernel_rfl)) rfl
            replace ha := Aside0.mk ha
            have B0 := Aside0.mk Q_B0
            have Z7 := Aside0.mk Q_Z7
            have RC := Aside0.mk (Q_RC (hon 4 (by kernel_rfl)))
            refine value_ (w1 := w') (v := .slice A l.length cp) (wanted_on rfl rfl rfl (e66.trans (by first | rfl | (simp [*]; done)))) rfl ?_ ?_
            · go_simp
              (try simp only [i64_w])
              try rfl
            refine hK.out _ _ ⟨Ac, cc, m4_, (by rw [ha.out]; exact putSel_upk 9 hb_ rfl rfl rfl), Q_B0, Q_Z7, Q_RC, Q_X4_⟩
          refine steps_cons ?_ ?_
          · rintro b a w' ⟨Ac, cc, m4_, ha, Q_B0, Q_Z7, Q_RC, Q_X4_⟩ hb_ hon hoff
            refine ⟨_, rfl, fun K hK => ?_⟩
            have e67 : a.tmps[67]? = some (.slice A l.length cp) := by rw [ha]; exact putSel_on (e := (9, 67, .slice A l.length cp)) 9 rfl rfl (hon 9 (by kernel_rfl)) rfl
            have e66 : a.tmps[66]? = some (.bool true) := by rw [ha]; exact putSel_on (e := (8, 66, .bool true)) 8 rfl rfl (hon 8 (by kernel_rfl)) rfl
            replace ha := Aside0.mk ha
            have B0 := Aside0.mk Q_B0
            have Z7 := Aside0.mk Q_Z7
            have RC := Aside0.mk (Q_RC (hon 4 (by kernel_rfl)))
            refine goes_ Try.func20 (by kernel_rfl) rfl #[.slice A l.length cp] (wanted_on rfl rfl rfl (e66.trans rfl)) rfl rfl (by first | (simp only [List.map_toArray, List.map_cons, List.map_nil, Act.eval, Array.getD_eq_getD_getElem?, Option.getD_some, e67, e66]; done) | (simp only [List.map_toArray, List.map_cons, List.map_nil, Act.eval, Array.getD_eq_getD_getElem?, Option.getD_some, e67, e66]; rfl)) ?_
            with_reducible refine (HWT.out _ (HBQ.out _ B0.out)).mono ?_
            rintro e w2 ⟨rfl, hb⟩
            refine ⟨_, rfl, ?_⟩
            refine hK.out _ _ ⟨Ac, cc, m4_, (by rw [ha.out]; exact putSel_upk 10 hb_ rfl rfl rfl), below_then B0.out B0.out.size hb, blk_below Z7.out hb, fun _ => ⟨RC.out.1, Kd.C_below RC.out.2 hb⟩, Q_X4_⟩
          refine steps_cons ?_ ?_
          · rintro b a w' ⟨Ac, cc, m4_, ha, Q_B0, Q_Z7, Q_RC, Q_X4_⟩ hb_ hon hoff
            refine ⟨_, rfl, fun K hK => ?_⟩
            have e7 : a.tmps[7]? = some (.pointer (some ⟨b7, 0, none⟩)) := by rw [ha]; exact (putSel_off rfl).trans rfl
            have e66 : a.tmps[66]? = some (.bool true) := by rw [ha]; exact putSel_on (e := (8, 66, .bool true)) 8 rfl rfl (hon 8 (by kernel_rfl)) rfl
            replace ha := Aside0.mk ha
            have B0 := Aside0.mk Q_B0
            have Z7 := Aside0.mk Q_Z7
            have RC := Aside0.mk (Q_RC (hon 4 (by kernel_rfl)))
            have c0_ := blk_cell Z7.out 0
            have c1_ := blk_cell Z7.out 1
            have c2_ := blk_cell Z7.out 2
            refine value_ (w1 := w') (v := .agg #[.int .i64 ((classOf l 0).length : Int), .int .i64 ((classOf l 1).length : Int), .int .i64 ((classOf l 2).length : Int)]) (wanted_on rfl rfl rfl (e66.trans (by first | rfl | (simp [*]; done)))) rfl ?_ ?_
            · go_simp
              (try simp only [i64_w])
              try rfl
            refine hK.out _ _ ⟨Ac, cc, m4_, (by rw [ha.out]; exact putSel_upk 11 hb_ rfl rfl rfl), Q_B0, Q_Z7, Q_RC, Q_X4_⟩
          refine steps_cons ?_ ?_
          · rintro b a w' ⟨Ac, cc, m4_, ha, Q_B0, Q_Z7, Q_RC, Q_X4_⟩ hb_ hon hoff
            refine ⟨_, rfl, fun K hK => ?_⟩
            have e68 : a.tmps[68]? = some (.agg #[.int .i64 ((classOf l 0).length : Int), .int .i64 ((classOf l 1).length : Int), .int .i64 ((classOf l 2).length : Int)]) := by rw [ha]; exact putSel_on (e := (10, 68, .agg #[.int .i64 ((classOf l 0).length : Int), .int .i64 ((classOf l 1).length : Int), .int .i64 ((classOf l 2).length : Int)])) 10 rfl rfl (hon 10 (by kernel_rfl)) rfl
            have e69 : a.tmps[69]? = some (.agg #[.int .i64 ((classOf l 0).length : Int), .int .i64 ((classOf l 1).length : Int), .int .i64 ((classOf l 2).length : Int)]) := by rw [ha]; exact putSel_on (e := (11, 69, .agg #[.int .i64 ((classOf l 0).length : Int), .int .i64 ((classOf l 1).length : Int), .int .i64 ((classOf l 2).length : Int)])) 11 rfl rfl (hon 11 (by kernel_rfl)) rfl
            have e66 : a.tmps[66]? = some (.bool true) := by rw [ha]; exact putSel_on (e := (8, 66, .bool true)) 8 rfl rfl (hon 8 (by kernel_rfl)) rfl
            replace ha := Aside0.mk ha
            have B0 := Aside0.mk Q_B0
            have Z7 := Aside0.mk Q_Z7
            have RC := Aside0.mk (Q_RC (hon 4 (by kernel_rfl)))
            have q_ := heq
            refine value_ (w1 := w') (v := .bool true) (wanted_on rfl rfl rfl (e66.trans (by first | rfl | (simp [*]; done)))) rfl ?_ ?_
            · go_simp
              (try simp only [i64_w])
              try rfl
            refine hK.out _ _ ⟨Ac, cc, m4_, (by rw [ha.out]; exact putSel_upk 12 hb_ rfl rfl rfl), Q_B0, Q_Z7, Q_RC, Q_X4_⟩
          refine steps_cons ?_ ?_
          · rintro b a w' ⟨Ac, cc, m4_, ha, Q_B0, Q_Z7, Q_RC, Q_X4_⟩ hb_ hon hoff
            refine ⟨_, rfl, fun K hK => ?_⟩
            have e66 : a.tmps[66]? = some (.bool true) := by rw [ha]; exact putSel_on (e := (8, 66, .bool true)) 8 rfl rfl (hon 8 (by kernel_rfl)) rfl
            have e70 : a.tmps[70]? = some (.bool true) := by rw [ha]; exact putSel_on (e := (12, 70, .bool true)) 12 rfl rfl (hon 12 (by kernel_rfl)) rfl
            replace ha := Aside0.mk ha
            have B0 := Aside0.mk Q_B0
            have Z7 := Aside0.mk Q_Z7
            have RC := Aside0.mk (Q_RC (hon 4 (by kernel_rfl)))
            refine value_ (w1 := w') (v := .bool true) (by rfl) rfl ?_ ?_
            · go_simp
              (try simp only [i64_w])
              try rfl
            refine hK.out _ _ ⟨Ac, cc, m4_, (by rw [ha.out]; exact putSel_upk 13 hb_ rfl rfl rfl), Q_B0, Q_Z7, Q_RC, Q_X4_⟩
          refine steps_cons ?_ ?_
          · rintro b a w' ⟨Ac, cc, m4_, ha, Q_B0, Q_Z7, Q_RC, Q_X4_⟩ hb_ hon hoff
            refine ⟨_, rfl, fun K hK => ?_⟩
            have e71 : a.tmps[71]? = some (.bool true) := by rw [ha]; exact putSel_on (e := (13, 71, .bool true)) 13 rfl rfl (hon 13 (by kernel_rfl)) rfl
            replace ha := Aside0.mk ha
            have B0 := Aside0.mk Q_B0
            have Z7 := Aside0.mk Q_Z7
            have RC := Aside0.mk (Q_RC (hon 4 (by kernel_rfl)))
            refine value_ (w1 := w') (v := .bool true) (by rfl) rfl ?_ ?_
            · go_simp
              (try simp only [i64_w])
              try rfl
            refine hK.out _ _ ⟨Ac, cc, m4_, (by rw [ha.out]; exact putSel_upk 14 hb_ rfl rfl rfl), Q_B0, Q_Z7, Q_RC, Q_X4_⟩
          exact steps_nil
        rintro b a wl hall ⟨Ac, cc, m4_, ha, Q_B0, Q_Z7, Q_RC, Q_X4_⟩
        clear B0 Z7
        have hb0_ := hall 0 (by kernel_rfl)
        have hb1_ := hall 1 (by kernel_rfl)
        have hb2_ := hall 2 (by kernel_rfl)
        have hb3_ := hall 3 (by kernel_rfl)
        have hb4_ := hall 4 (by kernel_rfl)
        have hb5_ := hall 5 (by kernel_rfl)
        have hb6_ := hall 6 (by kernel_rfl)
        have hb7_ := hall 7 (by kernel_rfl)
        have hb8_ := hall 8 (by kernel_rfl)
        have hb9_ := hall 9 (by kernel_rfl)
        have hb10_ := hall 10 (by kernel_rfl)
        have hb11_ := hall 11 (by kernel_rfl)
        have hb12_ := hall 12 (by kernel_rfl)
        have hb13_ := hall 13 (by kernel_rfl)
        have hb14_ := hall 14 (by kernel_rfl)
        subst ha
        obtain rfl := Q_X4_ hb4_
        simp only [putSel, hb0_, hb1_, hb2_, hb3_, hb4_, hb5_, hb6_, hb7_, hb8_, hb9_, hb10_, hb11_, hb12_, hb13_, hb14_, if_true, Act.put, List.setIfInBounds_toArray, List.set_cons_zero, List.set_cons_succ]
        have B0 := Aside0.mk Q_B0
        clear Q_B0
        have Z7 := Aside0.mk Q_Z7
        clear Q_Z7
        have RC := Aside0.mk (Q_RC hb4_)
        clear Q_RC
        clear hall hb0_ hb1_ hb2_ hb3_ hb4_ hb5_ hb6_ hb7_ hb8_ hb9_ hb10_ hb11_ hb12_ hb13_ hb14_
        -- R13 end
        go_wp2_with fail
        go_ret
        exact ⟨rfl, HBQ.out _ B0.out⟩
      case pos =>
        have t1 : decide ((i : Int) < (o.length : Int)) = true := decide_eq_true (by omega)
        have t2 : decide (i < o.length) = true := decide_eq_true hi
        obtain ⟨aw, rfl, x, Ax, cx, hpi, hoi, hwb, hat⟩ := HAT.out i hi
        have HX := Aside0.mk (hat _ BB.out)
        have HWB := Aside0.mk hwb
        obtain ⟨x0, x1, x2, x3, x4, x5, x6, x7⟩ := HX.out
        have p1 := eq_true (show (0 : Int) ≤ (i : Int) by omega)
        have q1 := eq_true (show (i : Int) < (o.length : Int) by omega)
        have HI2 := Aside0.mk hi
        have HWI : IntKind.i64.wrap ((i : Int) + 1) = ((i + 1 : Nat) : Int) := by rw [i64_w]; unfold wrap64; have := HON.out; omega
        have HFI : Aside0 (fil (i + 1) = fil i ++ (if (x.f2 == prio) = true then [(x, Ax, cx)] else [])) := ⟨by
          rw [HFIL.out]
          show (ps.take (i + 1)).filter _ = (ps.take i).filter _ ++ _
          rw [List.take_add_one, hpi, List.filter_append]
          by_cases h : (x.f2 == prio) = true
          · rw [if_pos h]; simp [h]
          · rw [if_neg h]; simp [h]⟩
        have HC : Aside0 (∀ p : Int, cn o (i + 1) p = cn o i p + if x.f2 = p then 1 else 0) := ⟨fun p => by
          have := cn_succ o i hi p
          have e : o[i] = x := Option.some.inj ((List.getElem?_eq_getElem hi).symm.trans hoi)
          rwa [e] at this⟩
        clear hat hwb hpi hoi hi
        cases hq : (x.f2 == prio)
        -- ROUND
        case true =>
          have tq : (x.f2 == prio) = true := hq
          have hfp : fil (i + 1) = fil i ++ [(x, Ax, cx)] := by rw [HFI.out, if_pos hq]
          have HFP := Aside0.mk hfp
          clear hq hfp
          go_upto_region 11 with (at_builtin; refine print_append_cells Bs rfl _ _ 22 29 _ 8 80 rfl Try.underlying22 inf_rec rfl (by decide) (by decide) u6 (fil i).length (((fil i).map recOf).flatMap Rec.enc) (recOf (x, Ax, cx)).enc rfl rfl rfl (enc_one _) HO.out (Below.refl _ _) HS.out (by have := HLF.out i; omega) ?_; intro v6 w6 ho6 hb6 hg6 _)
          have HO6 : Aside0 (w6.ownsRow Bs 29 8 v6 (fil (i + 1)).length (((fil (i + 1)).map recOf).flatMap Rec.enc)) := ⟨by rw [HFP.out, List.map_append, List.flatMap_append, List.length_append]; simpa using ho6⟩
          have BB6 : Aside0 (Below b7 w4 w6) := ⟨BB.out.trans (hb6.mono HBW.out.h1)⟩
          have HS6 : Aside0 (Bs ≤ w6.heap.size) := ⟨Nat.le_trans HS.out hb6.size⟩
          have HZ6 : Aside0 (w6.heap[b7]? = some (.cells #[.int .i64 (cn o i 0), .int .i64 (cn o i 1), .int .i64 (cn o i 2)] 34 (0, 0))) := ⟨(hb6.block b7 HBW.out.h2).trans HZ.out⟩
          have HX6 : Aside0 (At w6 (aw.add (i * 8)) x Ax cx) := ⟨HX.out.move w6 (fun h => hb6.block _ (Nat.lt_trans HWB.out HBW.out.h2))⟩
          obtain ⟨y0, y1, y2, y3, y4, y5, y6, y7⟩ := HX6.out
          clear x0 x1 x2 x3 x4 x5 x6 x7 ho6 hb6 hg6 HX HZ HO BB HS
          by_cases hlo : x.f2 ≥ 0
          case neg =>
            have tl : decide (x.f2 ≥ 0) = false := decide_eq_false hlo
            have n0 : ¬ x.f2 = 0 := by omega
            have n1 : ¬ x.f2 = 1 := by omega
            have n2 : ¬ x.f2 = 2 := by omega
            have NN := Aside0.mk (And.intro n0 (And.intro n1 n2))
            clear hlo n0 n1 n2
            go_wp2_with fail
            go_roundg (o.length - i)
            case measure => have := HI.out; have := HI2.out; omega
            case rel => exact ⟨i + 1, v6, rfl, by first | rfl | (rw [← i64_w, HWI]) | (simp; unfold wrap64; have := HI2.out; have := HON.out; omega), ⟨by have := HI2.out; omega, by have := HI.out; have := HI2.out; omega⟩, HO6, ⟨by rw [HC.out 0, HC.out 1, HC.out 2, if_neg NN.out.1, if_neg NN.out.2.1, if_neg NN.out.2.2, Int.add_zero, Int.add_zero, Int.add_zero]; exact HZ6.out⟩, BB6, HS6⟩
          case pos =>
          have tl : decide (x.f2 ≥ 0) = true := decide_eq_true hlo
          by_cases hhi : x.f2 ≤ 2
          case neg =>
            have th : decide (x.f2 ≤ 2) = false := decide_eq_false hhi
            have n0 : ¬ x.f2 = 0 := by omega
            have n1 : ¬ x.f2 = 1 := by omega
            have n2 : ¬ x.f2 = 2 := by omega
            have NN := Aside0.mk (And.intro n0 (And.intro n1 n2))
            clear hlo hhi n0 n1 n2
            go_wp2_with fail
            go_roundg (o.length - i)
            case measure => have := HI.out; have := HI2.out; omega
            case rel => exact ⟨i + 1, v6, rfl, by first | rfl | (rw [← i64_w, HWI]) | (simp; unfold wrap64; have := HI2.out; have := HON.out; omega), ⟨by have := HI2.out; omega, by have := HI.out; have := HI2.out; omega⟩, HO6, ⟨by rw [HC.out 0, HC.out 1, HC.out 2, if_neg NN.out.1, if_neg NN.out.2.1, if_neg NN.out.2.2, Int.add_zero, Int.add_zero, Int.add_zero]; exact HZ6.out⟩, BB6, HS6⟩
          case pos =>
          have th : decide (x.f2 ≤ 2) = true := decide_eq_true hhi
          have h3 : x.f2 = 0 ∨ x.f2 = 1 ∨ x.f2 = 2 := by omega
          clear hlo hhi
          rcases h3 with h3 | h3 | h3
          · rw [h3] at y2 tl th
            have ne0 := Aside0.mk (show x.f2 = 0 ∧ ¬ x.f2 = 1 ∧ ¬ x.f2 = 2 by rw [h3]; decide)
            have hz7 := blk_put HZ6.out 0 (.int .i64 (cn o i 0 + 1)) (cs' := #[.int .i64 (cn o i 0 + 1), .int .i64 (cn o i 1), .int .i64 (cn o i 2)]) rfl
            have z0 := blk_cell HZ6.out 0
            have f0 := blk_frozen HZ6.out 0
            have HZ7 := Aside0.mk hz7
            have HO7 : Aside0 ((w6.setCell ⟨b7, 0, none⟩ (.int .i64 (cn o i 0 + 1))).ownsRow Bs 29 8 v6 (fil (i + 1)).length (((fil (i + 1)).map recOf).flatMap Rec.enc)) := ⟨HO6.out.kept (row := some b7) ⟨rfl, rfl, rfl, by simp, fun k hk hne => Below.heap_setCell _ _ _ _ (fun h => hne (by rw [h]))⟩ (.inr (fun h => by have := own_base HO6.out _ h; have := HBW.out.h2; omega))⟩
            have BB7 := Aside0.mk (BB6.out.setCell (p := ⟨b7, 0, none⟩) HBW.out.h3 (.int .i64 (cn o i 0 + 1)))
            have HS7 : Aside0 (Bs ≤ (w6.setCell ⟨b7, 0, none⟩ (.int .i64 (cn o i 0 + 1))).heap.size) := ⟨by have := HS6.out; simpa using this⟩
            have hw : IntKind.i64.wrap (cn o i 0 + 1) = cn o i 0 + 1 := by have := cn_range o i 0; have := HON.out; rw [i64_w]; unfold wrap64; omega
            have hq0 : x.f2 = 0 := h3
            clear hz7 h3
            go_wp2_with fail
            go_roundg (o.length - i)
            case measure => have := HI.out; have := HI2.out; omega
            case rel => exact ⟨i + 1, v6, rfl, by first | rfl | (rw [← i64_w, HWI]) | (simp; unfold wrap64; have := HI2.out; have := HON.out; omega), ⟨by have := HI2.out; omega, by have := HI.out; have := HI2.out; omega⟩, HO7, ⟨by rw [HC.out 0, HC.out 1, HC.out 2, if_pos ne0.out.1, if_neg ne0.out.2.1, if_neg ne0.out.2.2, Int.add_zero, Int.add_zero]; exact HZ7.out⟩, BB7, HS7⟩
          · rw [h3] at y2 tl th
            have ne0 := Aside0.mk (show ¬ x.f2 = 0 ∧ x.f2 = 1 ∧ ¬ x.f2 = 2 by rw [h3]; decide)
            have hz7 := blk_put HZ6.out 1 (.int .i64 (cn o i 1 + 1)) (cs' := #[.int .i64 (cn o i 0), .int .i64 (cn o i 1 + 1), .int .i64 (cn o i 2)]) rfl
            have z0 := blk_cell HZ6.out 1
            have f0 := blk_frozen HZ6.out 1
            have HZ7 := Aside0.mk hz7
            have HO7 : Aside0 ((w6.setCell ⟨b7, 1, none⟩ (.int .i64 (cn o i 1 + 1))).ownsRow Bs 29 8 v6 (fil (i + 1)).length (((fil (i + 1)).map recOf).flatMap Rec.enc)) := ⟨HO6.out.kept (row := some b7) ⟨rfl, rfl, rfl, by simp, fun k hk hne => Below.heap_setCell _ _ _ _ (fun h => hne (by rw [h]))⟩ (.inr (fun h => by have := own_base HO6.out _ h; have := HBW.out.h2; omega))⟩
            have BB7 := Aside0.mk (BB6.out.setCell (p := ⟨b7, 1, none⟩) HBW.out.h3 (.int .i64 (cn o i 1 + 1)))
            have HS7 : Aside0 (Bs ≤ (w6.setCell ⟨b7, 1, none⟩ (.int .i64 (cn o i 1 + 1))).heap.size) := ⟨by have := HS6.out; simpa using this⟩
            have hw : IntKind.i64.wrap (cn o i 1 + 1) = cn o i 1 + 1 := by have := cn_range o i 1; have := HON.out; rw [i64_w]; unfold wrap64; omega
            have hq0 : x.f2 = 1 := h3
            clear hz7 h3
            go_wp2_with fail
            go_roundg (o.length - i)
            case measure => have := HI.out; have := HI2.out; omega
            case rel => exact ⟨i + 1, v6, rfl, by first | rfl | (rw [← i64_w, HWI]) | (simp; unfold wrap64; have := HI2.out; have := HON.out; omega), ⟨by have := HI2.out; omega, by have := HI.out; have := HI2.out; omega⟩, HO7, ⟨by rw [HC.out 0, HC.out 1, HC.out 2, if_neg ne0.out.1, if_pos ne0.out.2.1, if_neg ne0.out.2.2, Int.add_zero, Int.add_zero]; exact HZ7.out⟩, BB7, HS7⟩
          · rw [h3] at y2 tl th
            have ne0 := Aside0.mk (show ¬ x.f2 = 0 ∧ ¬ x.f2 = 1 ∧ x.f2 = 2 by rw [h3]; decide)
            have hz7 := blk_put HZ6.out 2 (.int .i64 (cn o i 2 + 1)) (cs' := #[.int .i64 (cn o i 0), .int .i64 (cn o i 1), .int .i64 (cn o i 2 + 1)]) rfl
            have z0 := blk_cell HZ6.out 2
            have f0 := blk_frozen HZ6.out 2
            have HZ7 := Aside0.mk hz7
            have HO7 : Aside0 ((w6.setCell ⟨b7, 2, none⟩ (.int .i64 (cn o i 2 + 1))).ownsRow Bs 29 8 v6 (fil (i + 1)).length (((fil (i + 1)).map recOf).flatMap Rec.enc)) := ⟨HO6.out.kept (row := some b7) ⟨rfl, rfl, rfl, by simp, fun k hk hne => Below.heap_setCell _ _ _ _ (fun h => hne (by rw [h]))⟩ (.inr (fun h => by have := own_base HO6.out _ h; have := HBW.out.h2; omega))⟩
            have BB7 := Aside0.mk (BB6.out.setCell (p := ⟨b7, 2, none⟩) HBW.out.h3 (.int .i64 (cn o i 2 + 1)))
            have HS7 : Aside0 (Bs ≤ (w6.setCell ⟨b7, 2, none⟩ (.int .i64 (cn o i 2 + 1))).heap.size) := ⟨by have := HS6.out; simpa using this⟩
            have hw : IntKind.i64.wrap (cn o i 2 + 1) = cn o i 2 + 1 := by have := cn_range o i 2; have := HON.out; rw [i64_w]; unfold wrap64; omega
            have hq0 : x.f2 = 2 := h3
            clear hz7 h3
            go_wp2_with fail
            go_roundg (o.length - i)
            case measure => have := HI.out; have := HI2.out; omega
            case rel => exact ⟨i + 1, v6, rfl, by first | rfl | (rw [← i64_w, HWI]) | (simp; unfold wrap64; have := HI2.out; have := HON.out; omega), ⟨by have := HI2.out; omega, by have := HI.out; have := HI2.out; omega⟩, HO7, ⟨by rw [HC.out 0, HC.out 1, HC.out 2, if_neg ne0.out.1, if_neg ne0.out.2.1, if_pos ne0.out.2.2, Int.add_zero, Int.add_zero]; exact HZ7.out⟩, BB7, HS7⟩
        case false =>
          have tq : (x.f2 == prio) = false := hq
          have hfp : fil (i + 1) = fil i := by rw [HFI.out, if_neg (by rw [hq]; decide), List.append_nil]
          have HFP := Aside0.mk hfp
          have HO6 : Aside0 (wr.ownsRow Bs 29 8 u6 (fil (i + 1)).length (((fil (i + 1)).map recOf).flatMap Rec.enc)) := ⟨by rw [hfp]; exact HO.out⟩
          have BB6 := BB
          have HS6 := HS
          have HZ6 := HZ
          have y2 := x2
          clear hq hfp x0 x1 x3 x4 x5 x6 x7 HX HZ HO BB HS
          go_upto_region 11 with fail
          by_cases hlo : x.f2 ≥ 0
          case neg =>
            have tl : decide (x.f2 ≥ 0) = false := decide_eq_false hlo
            have n0 : ¬ x.f2 = 0 := by omega
            have n1 : ¬ x.f2 = 1 := by omega
            have n2 : ¬ x.f2 = 2 := by omega
            have NN := Aside0.mk (And.intro n0 (And.intro n1 n2))
            clear hlo n0 n1 n2
            go_wp2_with fail
            go_roundg (o.length - i)
            case measure => have := HI.out; have := HI2.out; omega
            case rel => exact ⟨i + 1, u6, rfl, by first | rfl | (rw [← i64_w, HWI]) | (simp; unfold wrap64; have := HI2.out; have := HON.out; omega), ⟨by have := HI2.out; omega, by have := HI.out; have := HI2.out; omega⟩, HO6, ⟨by rw [HC.out 0, HC.out 1, HC.out 2, if_neg NN.out.1, if_neg NN.out.2.1, if_neg NN.out.2.2, Int.add_zero, Int.add_zero, Int.add_zero]; exact HZ6.out⟩, BB6, HS6⟩
          case pos =>
          have tl : decide (x.f2 ≥ 0) = true := decide_eq_true hlo
          by_cases hhi : x.f2 ≤ 2
          case neg =>
            have th : decide (x.f2 ≤ 2) = false := decide_eq_false hhi
            have n0 : ¬ x.f2 = 0 := by omega
            have n1 : ¬ x.f2 = 1 := by omega
            have n2 : ¬ x.f2 = 2 := by omega
            have NN := Aside0.mk (And.intro n0 (And.intro n1 n2))
            clear hlo hhi n0 n1 n2
            go_wp2_with fail
            go_roundg (o.length - i)
            case measure => have := HI.out; have := HI2.out; omega
            case rel => exact ⟨i + 1, u6, rfl, by first | rfl | (rw [← i64_w, HWI]) | (simp; unfold wrap64; have := HI2.out; have := HON.out; omega), ⟨by have := HI2.out; omega, by have := HI.out; have := HI2.out; omega⟩, HO6, ⟨by rw [HC.out 0, HC.out 1, HC.out 2, if_neg NN.out.1, if_neg NN.out.2.1, if_neg NN.out.2.2, Int.add_zero, Int.add_zero, Int.add_zero]; exact HZ6.out⟩, BB6, HS6⟩
          case pos =>
          have th : decide (x.f2 ≤ 2) = true := decide_eq_true hhi
          have h3 : x.f2 = 0 ∨ x.f2 = 1 ∨ x.f2 = 2 := by omega
          clear hlo hhi
          rcases h3 with h3 | h3 | h3
          · rw [h3] at y2 tl th
            have ne0 := Aside0.mk (show x.f2 = 0 ∧ ¬ x.f2 = 1 ∧ ¬ x.f2 = 2 by rw [h3]; decide)
            have hz7 := blk_put HZ6.out 0 (.int .i64 (cn o i 0 + 1)) (cs' := #[.int .i64 (cn o i 0 + 1), .int .i64 (cn o i 1), .int .i64 (cn o i 2)]) rfl
            have z0 := blk_cell HZ6.out 0
            have f0 := blk_frozen HZ6.out 0
            have HZ7 := Aside0.mk hz7
            have HO7 : Aside0 ((wr.setCell ⟨b7, 0, none⟩ (.int .i64 (cn o i 0 + 1))).ownsRow Bs 29 8 u6 (fil (i + 1)).length (((fil (i + 1)).map recOf).flatMap Rec.enc)) := ⟨HO6.out.kept (row := some b7) ⟨rfl, rfl, rfl, by simp, fun k hk hne => Below.heap_setCell _ _ _ _ (fun h => hne (by rw [h]))⟩ (.inr (fun h => by have := own_base HO6.out _ h; have := HBW.out.h2; omega))⟩
            have BB7 := Aside0.mk (BB6.out.setCell (p := ⟨b7, 0, none⟩) HBW.out.h3 (.int .i64 (cn o i 0 + 1)))
            have HS7 : Aside0 (Bs ≤ (wr.setCell ⟨b7, 0, none⟩ (.int .i64 (cn o i 0 + 1))).heap.size) := ⟨by have := HS6.out; simpa using this⟩
            have hw : IntKind.i64.wrap (cn o i 0 + 1) = cn o i 0 + 1 := by have := cn_range o i 0; have := HON.out; rw [i64_w]; unfold wrap64; omega
            have hq0 : x.f2 = 0 := h3
            clear hz7 h3
            go_wp2_with fail
            go_roundg (o.length - i)
            case measure => have := HI.out; have := HI2.out; omega
            case rel => exact ⟨i + 1, u6, rfl, by first | rfl | (rw [← i64_w, HWI]) | (simp; unfold wrap64; have := HI2.out; have := HON.out; omega), ⟨by have := HI2.out; omega, by have := HI.out; have := HI2.out; omega⟩, HO7, ⟨by rw [HC.out 0, HC.out 1, HC.out 2, if_pos ne0.out.1, if_neg ne0.out.2.1, if_neg ne0.out.2.2, Int.add_zero, Int.add_zero]; exact HZ7.out⟩, BB7, HS7⟩
          · rw [h3] at y2 tl th
            have ne0 := Aside0.mk (show ¬ x.f2 = 0 ∧ x.f2 = 1 ∧ ¬ x.f2 = 2 by rw [h3]; decide)
            have hz7 := blk_put HZ6.out 1 (.int .i64 (cn o i 1 + 1)) (cs' := #[.int .i64 (cn o i 0), .int .i64 (cn o i 1 + 1), .int .i64 (cn o i 2)]) rfl
            have z0 := blk_cell HZ6.out 1
            have f0 := blk_frozen HZ6.out 1
            have HZ7 := Aside0.mk hz7
            have HO7 : Aside0 ((wr.setCell ⟨b7, 1, none⟩ (.int .i64 (cn o i 1 + 1))).ownsRow Bs 29 8 u6 (fil (i + 1)).length (((fil (i + 1)).map recOf).flatMap Rec.enc)) := ⟨HO6.out.kept (row := some b7) ⟨rfl, rfl, rfl, by simp, fun k hk hne => Below.heap_setCell _ _ _ _ (fun h => hne (by rw [h]))⟩ (.inr (fun h => by have := own_base HO6.out _ h; have := HBW.out.h2; omega))⟩
            have BB7 := Aside0.mk (BB6.out.setCell (p := ⟨b7, 1, none⟩) HBW.out.h3 (.int .i64 (cn o i 1 + 1)))
            have HS7 : Aside0 (Bs ≤ (wr.setCell ⟨b7, 1, none⟩ (.int .i64 (cn o i 1 + 1))).heap.size) := ⟨by have := HS6.out; simpa using this⟩
            have hw : IntKind.i64.wrap (cn o i 1 + 1) = cn o i 1 + 1 := by have := cn_range o i 1; have := HON.out; rw [i64_w]; unfold wrap64; omega
            have hq0 : x.f2 = 1 := h3
            clear hz7 h3
            go_wp2_with fail
            go_roundg (o.length - i)
            case measure => have := HI.out; have := HI2.out; omega
            case rel => exact ⟨i + 1, u6, rfl, by first | rfl | (rw [← i64_w, HWI]) | (simp; unfold wrap64; have := HI2.out; have := HON.out; omega), ⟨by have := HI2.out; omega, by have := HI.out; have := HI2.out; omega⟩, HO7, ⟨by rw [HC.out 0, HC.out 1, HC.out 2, if_neg ne0.out.1, if_pos ne0.out.2.1, if_neg ne0.out.2.2, Int.add_zero, Int.add_zero]; exact HZ7.out⟩, BB7, HS7⟩
          · rw [h3] at y2 tl th
            have ne0 := Aside0.mk (show ¬ x.f2 = 0 ∧ ¬ x.f2 = 1 ∧ x.f2 = 2 by rw [h3]; decide)
            have hz7 := blk_put HZ6.out 2 (.int .i64 (cn o i 2 + 1)) (cs' := #[.int .i64 (cn o i 0), .int .i64 (cn o i 1), .int .i64 (cn o i 2 + 1)]) rfl
            have z0 := blk_cell HZ6.out 2
            have f0 := blk_frozen HZ6.out 2
            have HZ7 := Aside0.mk hz7
            have HO7 : Aside0 ((wr.setCell ⟨b7, 2, none⟩ (.int .i64 (cn o i 2 + 1))).ownsRow Bs 29 8 u6 (fil (i + 1)).length (((fil (i + 1)).map recOf).flatMap Rec.enc)) := ⟨HO6.out.kept (row := some b7) ⟨rfl, rfl, rfl, by simp, fun k hk hne => Below.heap_setCell _ _ _ _ (fun h => hne (by rw [h]))⟩ (.inr (fun h => by have := own_base HO6.out _ h; have := HBW.out.h2; omega))⟩
            have BB7 := Aside0.mk (BB6.out.setCell (p := ⟨b7, 2, none⟩) HBW.out.h3 (.int .i64 (cn o i 2 + 1)))
            have HS7 : Aside0 (Bs ≤ (wr.setCell ⟨b7, 2, none⟩ (.int .i64 (cn o i 2 + 1))).heap.size) := ⟨by have := HS6.out; simpa using this⟩
            have hw : IntKind.i64.wrap (cn o i 2 + 1) = cn o i 2 + 1 := by have := cn_range o i 2; have := HON.out; rw [i64_w]; unfold wrap64; omega
            have hq0 : x.f2 = 2 := h3
            clear hz7 h3
            go_wp2_with fail
            go_roundg (o.length - i)
            case measure => have := HI.out; have := HI2.out; omega
            case rel => exact ⟨i + 1, u6, rfl, by first | rfl | (rw [← i64_w, HWI]) | (simp; unfold wrap64; have := HI2.out; have := HON.out; omega), ⟨by have := HI2.out; omega, by have := HI.out; have := HI2.out; omega⟩, HO7, ⟨by rw [HC.out 0, HC.out 1, HC.out 2, if_neg ne0.out.1, if_neg ne0.out.2.1, if_pos ne0.out.2.2, Int.add_zero, Int.add_zero]; exact HZ7.out⟩, BB7, HS7⟩
        -- ROUND end
end Go.Proofs.Ytnopjcakilfepaa.QS
