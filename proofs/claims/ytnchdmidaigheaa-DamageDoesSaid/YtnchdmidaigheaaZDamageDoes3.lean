/- Parts of the proof of the statement DamageDoes, laid together (4 of 6). -/
import Derived.Laws.BitsAllLaws
import Derived.Test.YtnchdmidaigheaaZDamageDoes2
namespace Go.Proofs.Ytnchdmidaigheaa.ND
set_option linter.unusedVariables false
set_option linter.unusedSimpArgs false
open Go.RowKit Go.Proofs.Ytnchdmidaigheaa.Hp Go.Proofs.YtnchdmidaigheaaW.PrintWords Go.Proofs.YtnchdmidaigheaaW.PrintLast Go.Proofs.YtnchdmidaigheaaW.PrintMore
section
variable {P : Program} {ops : Array Oper} {Q : Exit → Act → World → Prop}
theorem goesv_ {oi : Oper} {N : Option Tmp} {a : Act} {w : World} {K : Act → World → Prop} {f : FuncId} {fn : Func} {as_ : Array Operand} {ts : Array TypeId} {tc : Tmp} {caps : Array Value} (hf : P.funcs[f]? = some fn) (hname : (fn.name == "runtime.NumGoroutine") = false) (hb : fn.body.isSome = true) (args : Array Value)
    (hw : Region.wanted oi (yielded ops a.tmps) = true) (hN : oi.dst = N) (hop : oi.op = .call { callee := .value (.tmp tc), args := as_, argTypes := ts }) (hc : a.tmps[tc]? = some (.func (.func f) #[] caps)) (hargs : as_.map a.eval = args)
    (h : Calls P f (args ++ caps) w fun e w' => ∃ v, e = .returned v ∧ K (a.put N v) w') : if Region.wanted oi (yielded ops a.tmps) = true then Oper.wp P oi a w K Q else K (a.put N undef) w := by
  refine call_ f (args ++ caps) hw hN ?_ h
  have he := enters_ hf hname hb (args ++ caps) w
  have hc' : a.tmps.getD tc undef = .func (.func f) #[] caps := by simp [Array.getD_eq_getD_getElem?, hc]
  unfold execOp
  simp [hop, resolve, Deferred.ofValue, invoke, Act.eval, hargs, he, hc']
end
def change0.T0 : Bool × List (List Nat × List Nat) := (true, [([], []), ([0], [0]), ([1], [1]), ([2], [2]), ([], []), ([], []), ([], []), ([6], [6]), ([7], [7]), ([8], [8]), ([], []), ([9, 10], [9, 10]), ([11], [11]), ([5, 12], [5, 12]), ([3, 4, 0, 1, 2, 3, 4, 5, 6, 7, 8, 9, 10, 11, 12, 13], [3, 4]), ([14, 13, 13, 0, 1, 2, 3, 4, 5, 6, 7, 8, 9, 10, 11, 12, 13], [13, 14])])
def change0.B0 : List Nat := [0, 1, 3, 7, 0, 0, 0, 64, 192, 448, 0, 1984, 4032, 8160, 16383, 32767]
theorem change0.tab0 : rtab .any (opsOf Try.f65 0) = change0.T0 := by kernel_rfl
theorem change0.bits0 : waitsOk change0.T0.2 change0.B0 = true := by kernel_rfl
theorem newer_le {W W' : World} {ok : Nat → Prop} (h : W.heap.size ≤ W'.heap.size) : ∀ k, newer W' ok k → newer W ok k := fun k hk => hk.elim .inl (fun hk => .inr (Nat.le_trans h hk))
theorem DV.newer_ {W W' : World} {ok : Nat → Prop} {L : Lay} {D : Dv} (h : DV W' ok L D) (hl : ∀ k, L.S k → k < W.heap.size) : DV W' (newer W ok) L D :=
  h.mono (fun k hk => .inl hk) (fun k hk hlt hS => by
    rcases hk with hk | hk
    · exact h.no k hk hlt hS
    · have := hl k hS; omega)
set_option maxHeartbeats 2000000 in
set_option maxRecDepth 100000 in
theorem change_calls {W : World} {ok : Nat → Prop} {L : Lay} {D : Dv} (h : DV W ok L D) (i : Nat) (hi : i < D.pages.length) (kf : FuncId) (fn : Func) (caps : Array Value) (hK : Try.prog.funcs[kf]? = some fn) (hname : (fn.name == "runtime.NumGoroutine") = false) (hbody : fn.body.isSome = true) (l' : List Int) (hl : isBytes l' ∧ l'.length = 256)
    (hdo : ∀ W', Below W.heap.size W W' → ∀ A c, 256 ≤ c → Kd.C (Kd.int .u8) W' A 256 (D.pages.getD i []) → Calls Try.prog kf (#[.slice A 256 c] ++ caps) W' fun e w' => ∃ A c, e = .returned (.slice A 256 c) ∧ 256 ≤ c ∧ Kd.F (Kd.int .u8) w' (newer W' ok) A 256 l' ∧ Below W'.heap.size W' w') :
    Calls Try.prog 65 #[.pointer (some ⟨L.g, 0, none⟩), .int .i64 (i : Int),   .func (.func kf) #[] caps] W fun e w' => e = .returned (.tuple #[]) ∧ DV w' (newer W ok) L { D with pages := D.pages.set i l' } ∧ Turn W w' L.S := by
  obtain ⟨vs, hcv, hpg⟩ := h.pg
  have hil : i < vs.length := by rw [hpg.1]; exact hi
  obtain ⟨Ai, ci, hv, hci, hFi⟩ := hpg.2 i vs[i] (D.pages.getD i []) (List.getElem?_eq_getElem hil) (by rw [List.getD_eq_getElem?_getD, List.getElem?_eq_getElem hi]; rfl)
  have HV : Aside0 (vs[i]? = some (.slice Ai 256 ci)) := ⟨by rw [List.getElem?_eq_getElem hil, hv]⟩
  have HC := Aside0.mk hcv
  have HFI := Aside0.mk (And.intro hci hFi)
  have HP := Aside0.mk (And.intro (eq_true (show (0 : Int) ≤ (i : Int) by omega)) (eq_true (show (i : Int) < ((D.pages.length : Nat) : Int) by omega)))
  have H := Aside0.mk h
  have HDO := Aside0.mk hdo
  have HK := Aside0.mk (And.intro hK (And.intro hname hbody))
  have HLL := Aside0.mk hl
  have B0 := Aside0.mk (below_drew1 (Below.refl W.heap.size W))
  clear hcv hpg hil hv hci hFi h hdo hK hname hbody hl hi
  go_enter Try.func65, Try.ntmps65
  go_upto_region 0 with fail
  refine start_ (n := 16) (S := fun w' => True) (ds := []) #[false, false, false, false, false, false, false, false, false, false, false, false, false, false, false, false] (by kernel_rfl) rfl rfl trivial (fun hHeld => ?_)
  refine with_tabW change0.tab0 change0.bits0 (fun HT_ HW_ => ?_)
  generalize W.drew = wq at B0 hHeld ⊢
  refine inv_at [0, 1, 2, 3, 4, 5, 6, 7, 8, 9, 10, 11, 12, 13, 14, 15] (fun a0_ b a w' => ∃ (A13 : Option Addr) (c13 : Nat) (m13_ : Value), a = putSel a0_ b [(0, 6, .pointer (some ⟨L.g, 0, none⟩)), (1, 7, .pointer (some ⟨L.g, 0, none⟩)), (2, 8, .pointer (some ⟨L.g, 4, none⟩)), (3, 9, .slice (some ⟨L.gp, 0, none⟩) D.pages.length L.cp), (4, 10, .int .i64 (i : Int)), (5, 11, .func (.func kf) #[] caps), (6, 12, .pointer (some ⟨L.g, 0, none⟩)), (7, 13, .pointer (some ⟨L.g, 0, none⟩)), (8, 14, .pointer (some ⟨L.g, 4, none⟩)), (9, 15, .slice (some ⟨L.gp, 0, none⟩) D.pages.length L.cp), (10, 16, .int .i64 (i : Int)), (11, 17, .pointer (some ⟨L.gp, i, none⟩)), (12, 18, .slice Ai 256 ci), (13, 19, m13_), (14, 20, .pointer (some ⟨L.gp, i, none⟩))] ∧ (b 15 = false → Below W.heap.size W w') ∧ (b 13 = true → b 15 = false → 256 ≤ c13 ∧ Kd.F (Kd.int .u8) w' (newer W ok) A13 256 l') ∧ (b 15 = true → DV w' (newer W ok) L { D with pages := D.pages.set i l' } ∧ Turn W w' L.S) ∧ (b 13 = true → (m13_ : Value) = .slice A13 256 c13)) HT_.out HW_.out (by kernel_rfl) (by kernel_rfl) ?_ ?_ ?_
  · exact ⟨none, 0, .bool false, by simp only [putSel, Bool.false_eq_true, if_false], fun _ => B0.out, fun h_ => absurd h_ (by decide), fun h_ => absurd h_ (by decide), fun h_ => absurd h_ (by decide)⟩
  · skip
    clear B0
    refine steps_cons ?_ ?_
    · rintro b a w' ⟨A13, c13, m13_, ha, Q_B0, Q_R13, Q_FIN, Q_X13_⟩ hb_ hon hoff
      refine ⟨_, rfl, fun K hK => ?_⟩
      have e0 : a.tmps[0]? = some (.pointer (some ⟨L.g, 0, none⟩)) := by rw [ha]; exact (putSel_off rfl).trans rfl
      replace ha := Aside0.mk ha
      have B0 := Aside0.mk (Q_B0 (hoff 15 (by kernel_rfl)))
      refine value_ (w1 := w') (v := .pointer (some ⟨L.g, 0, none⟩)) (by rfl) rfl ?_ ?_
      · go_simp
        (try simp only [i64_w])
        try rfl
      refine hK.out _ _ ⟨A13, c13, m13_, (by rw [ha.out]; exact putSel_upk 0 hb_ rfl rfl rfl), Q_B0, Q_R13, fun h0_ => absurd ((hoff 15 (by kernel_rfl)).symm.trans h0_) (by decide), Q_X13_⟩
    refine steps_cons ?_ ?_
    · rintro b a w' ⟨A13, c13, m13_, ha, Q_B0, Q_R13, Q_FIN, Q_X13_⟩ hb_ hon hoff
      refine ⟨_, rfl, fun K hK => ?_⟩
      have e6 : a.tmps[6]? = some (.pointer (some ⟨L.g, 0, none⟩)) := by rw [ha]; exact putSel_on (e := (0, 6, .pointer (some ⟨L.g, 0, none⟩))) 0 rfl rfl (hon 0 (by kernel_rfl)) rfl
      replace ha := Aside0.mk ha
      have B0 := Aside0.mk (Q_B0 (hoff 15 (by kernel_rfl)))
      refine value_ (w1 := w') (v := .pointer (some ⟨L.g, 0, none⟩)) (by rfl) rfl ?_ ?_
      · go_simp
        (try simp only [i64_w])
        try rfl
      refine hK.out _ _ ⟨A13, c13, m13_, (by rw [ha.out]; exact putSel_upk 1 hb_ rfl rfl rfl), Q_B0, Q_R13, fun h0_ => absurd ((hoff 15 (by kernel_rfl)).symm.trans h0_) (by decide), Q_X13_⟩
    refine steps_cons ?_ ?_
    · rintro b a w' ⟨A13, c13, m13_, ha, Q_B0, Q_R13, Q_FIN, Q_X13_⟩ hb_ hon hoff
      refine ⟨_, rfl, fun K hK => ?_⟩
      have e7 : a.tmps[7]? = some (.pointer (some ⟨L.g, 0, none⟩)) := by rw [ha]; exact putSel_on (e := (1, 7, .pointer (some ⟨L.g, 0, none⟩))) 1 rfl rfl (hon 1 (by kernel_rfl)) rfl
      replace ha := Aside0.mk ha
      have B0 := Aside0.mk (Q_B0 (hoff 15 (by kernel_rfl)))
      refine value_ (w1 := w') (v := .pointer (some ⟨L.g, 4, none⟩)) (by rfl) rfl ?_ ?_
      · go_simp
        (try simp only [i64_w])
        try rfl
      refine hK.out _ _ ⟨A13, c13, m13_, (by rw [ha.out]; exact putSel_upk 2 hb_ rfl rfl rfl), Q_B0, Q_R13, fun h0_ => absurd ((hoff 15 (by kernel_rfl)).symm.trans h0_) (by decide), Q_X13_⟩
    refine steps_cons ?_ ?_
    · rintro b a w' ⟨A13, c13, m13_, ha, Q_B0, Q_R13, Q_FIN, Q_X13_⟩ hb_ hon hoff
      refine ⟨_, rfl, fun K hK => ?_⟩
      have e8 : a.tmps[8]? = some (.pointer (some ⟨L.g, 4, none⟩)) := by rw [ha]; exact putSel_on (e := (2, 8, .pointer (some ⟨L.g, 4, none⟩))) 2 rfl rfl (hon 2 (by kernel_rfl)) rfl
      replace ha := Aside0.mk ha
      have B0 := Aside0.mk (Q_B0 (hoff 15 (by kernel_rfl)))
      have c_ := (top_cells (H.out.below B0.out)).2.2.2.2.1
      refine value_ (w1 := w') (v := .slice (some ⟨L.gp, 0, none⟩) D.pages.length L.cp) (by rfl) rfl ?_ ?_
      · go_simp
        (try simp only [i64_w])
        try rfl
      refine hK.out _ _ ⟨A13, c13, m13_, (by rw [ha.out]; exact putSel_upk 3 hb_ rfl rfl rfl), Q_B0, Q_R13, fun h0_ => absurd ((hoff 15 (by kernel_rfl)).symm.trans h0_) (by decide), Q_X13_⟩
    refine steps_cons ?_ ?_
    · rintro b a w' ⟨A13, c13, m13_, ha, Q_B0, Q_R13, Q_FIN, Q_X13_⟩ hb_ hon hoff
      refine ⟨_, rfl, fun K hK => ?_⟩
      have e1 : a.tmps[1]? = some (.int .i64 (i : Int)) := by rw [ha]; exact (putSel_off rfl).trans rfl
      replace ha := Aside0.mk ha
      have B0 := Aside0.mk (Q_B0 (hoff 15 (by kernel_rfl)))
      refine value_ (w1 := w') (v := .int .i64 (i : Int)) (by rfl) rfl ?_ ?_
      · go_simp
        (try simp only [i64_w])
        try rfl
      refine hK.out _ _ ⟨A13, c13, m13_, (by rw [ha.out]; exact putSel_upk 4 hb_ rfl rfl rfl), Q_B0, Q_R13, fun h0_ => absurd ((hoff 15 (by kernel_rfl)).symm.trans h0_) (by decide), Q_X13_⟩
    refine steps_cons ?_ ?_
    · rintro b a w' ⟨A13, c13, m13_, ha, Q_B0, Q_R13, Q_FIN, Q_X13_⟩ hb_ hon hoff
      refine ⟨_, rfl, fun K hK => ?_⟩
      have e2 : a.tmps[2]? = some (.func (.func kf) #[] caps) := by rw [ha]; exact (putSel_off rfl).trans rfl
      replace ha := Aside0.mk ha
      have B0 := Aside0.mk (Q_B0 (hoff 15 (by kernel_rfl)))
      refine value_ (w1 := w') (v := .func (.func kf) #[] caps) (by rfl) rfl ?_ ?_
      · go_simp
        (try simp only [i64_w])
        try rfl
      refine hK.out _ _ ⟨A13, c13, m13_, (by rw [ha.out]; exact putSel_upk 5 hb_ rfl rfl rfl), Q_B0, fun h0_ _ => absurd ((hoff 13 (by kernel_rfl)).symm.trans h0_) (by decide), fun h0_ => absurd ((hoff 15 (by kernel_rfl)).symm.trans h0_) (by decide), fun h0_ => absurd ((hoff 13 (by kernel_rfl)).symm.trans h0_) (by decide)⟩
    refine steps_cons ?_ ?_
    · rintro b a w' ⟨A13, c13, m13_, ha, Q_B0, Q_R13, Q_FIN, Q_X13_⟩ hb_ hon hoff
      refine ⟨_, rfl, fun K hK => ?_⟩
      have e0 : a.tmps[0]? = some (.pointer (some ⟨L.g, 0, none⟩)) := by rw [ha]; exact (putSel_off rfl).trans rfl
      replace ha := Aside0.mk ha
      have B0 := Aside0.mk (Q_B0 (hoff 15 (by kernel_rfl)))
      refine value_ (w1 := w') (v := .pointer (some ⟨L.g, 0, none⟩)) (by rfl) rfl ?_ ?_
      · go_simp
        (try simp only [i64_w])
        try rfl
      refine hK.out _ _ ⟨A13, c13, m13_, (by rw [ha.out]; exact putSel_upk 6 hb_ rfl rfl rfl), Q_B0, fun h0_ _ => absurd ((hoff 13 (by kernel_rfl)).symm.trans h0_) (by decide), fun h0_ => absurd ((hoff 15 (by kernel_rfl)).symm.trans h0_) (by decide), fun h0_ => absurd ((hoff 13 (by kernel_rfl)).symm.trans h0_) (by decide)⟩
    refine steps_cons ?_ ?_
    · rintro b a w' ⟨A13, c13, m13_, ha, Q_B0, Q_R13, Q_FIN, Q_X13_⟩ hb_ hon hoff
      refine ⟨_, rfl, fun K hK => ?_⟩
      have e12 : a.tmps[12]? = some (.pointer (some ⟨L.g, 0, none⟩)) := by rw [ha]; exact putSel_on (e := (6, 12, .pointer (some ⟨L.g, 0, none⟩))) 6 rfl rfl (hon 6 (by kernel_rfl)) rfl
      replace ha := Aside0.mk ha
      have B0 := Aside0.mk (Q_B0 (hoff 15 (by kernel_rfl)))
      refine value_ (w1 := w') (v := .pointer (some ⟨L.g, 0, none⟩)) (by rfl) rfl ?_ ?_
      · go_simp
        (try simp only [i64_w])
        try rfl
      refine hK.out _ _ ⟨A13, c13, m13_, (by rw [ha.out]; exact putSel_upk 7 hb_ rfl rfl rfl), Q_B0, fun h0_ _ => absurd ((hoff 13 (by kernel_rfl)).symm.trans h0_) (by decide), fun h0_ => absurd ((hoff 15 (by kernel_rfl)).symm.trans h0_) (by decide), fun h0_ => absurd ((hoff 13 (by kernel_rfl)).symm.trans h0_) (by decide)⟩
    refine steps_cons ?_ ?_
    · rintro b a w' ⟨A13, c13, m13_, ha, Q_B0, Q_R13, Q_FIN, Q_X13_⟩ hb_ hon hoff
      refine ⟨_, rfl, fun K hK => ?_⟩
      have e13 : a.tmps[13]? = some (.pointer (some ⟨L.g, 0, none⟩)) := by rw [ha]; exact putSel_on (e := (7, 13, .pointer (some ⟨L.g, 0, none⟩))) 7 rfl rfl (hon 7 (by kernel_rfl)) rfl
      replace ha := Aside0.mk ha
      have B0 := Aside0.mk (Q_B0 (hoff 15 (by kernel_rfl)))
      refine value_ (w1 := w') (v := .pointer (some ⟨L.g, 4, none⟩)) (by rfl) rfl ?_ ?_
      · go_simp
        (try simp only [i64_w])
        try rfl
      refine hK.out _ _ ⟨A13, c13, m13_, (by rw [ha.out]; exact putSel_upk 8 hb_ rfl rfl rfl), Q_B0, fun h0_ _ => absurd ((hoff 13 (by kernel_rfl)).symm.trans h0_) (by decide), fun h0_ => absurd ((hoff 15 (by kernel_rfl)).symm.trans h0_) (by decide), fun h0_ => absurd ((hoff 13 (by kernel_rfl)).symm.trans h0_) (by decide)⟩
    refine steps_cons ?_ ?_
    · rintro b a w' ⟨A13, c13, m13_, ha, Q_B0, Q_R13, Q_FIN, Q_X13_⟩ hb_ hon hoff
      refine ⟨_, rfl, fun K hK => ?_⟩
      have e14 : a.tmps[14]? = some (.pointer (some ⟨L.g, 4, none⟩)) := by rw [ha]; exact putSel_on (e := (8, 14, .pointer (some ⟨L.g, 4, none⟩))) 8 rfl rfl (hon 8 (by kernel_rfl)) rfl
      replace ha := Aside0.mk ha
      have B0 := Aside0.mk (Q_B0 (hoff 15 (by kernel_rfl)))
      have c_ := (top_cells (H.out.below B0.out)).2.2.2.2.1
      refine value_ (w1 := w') (v := .slice (some ⟨L.gp, 0, none⟩) D.pages.length L.cp) (by rfl) rfl ?_ ?_
      · go_simp
        (try simp only [i64_w])
        try rfl
      refine hK.out _ _ ⟨A13, c13, m13_, (by rw [ha.out]; exact putSel_upk 9 hb_ rfl rfl rfl), Q_B0, fun h0_ _ => absurd ((hoff 13 (by kernel_rfl)).symm.trans h0_) (by decide), fun h0_ => absurd ((hoff 15 (by kernel_rfl)).symm.trans h0_) (by decide), fun h0_ => absurd ((hoff 13 (by kernel_rfl)).symm.trans h0_) (by decide)⟩
    refine steps_cons ?_ ?_
    · rintro b a w' ⟨A13, c13, m13_, ha, Q_B0, Q_R13, Q_FIN, Q_X13_⟩ hb_ hon hoff
      refine ⟨_, rfl, fun K hK => ?_⟩
      have e1 : a.tmps[1]? = some (.int .i64 (i : Int)) := by rw [ha]; exact (putSel_off rfl).trans rfl
      replace ha := Aside0.mk ha
      have B0 := Aside0.mk (Q_B0 (hoff 15 (by kernel_rfl)))
      refine value_ (w1 := w') (v := .int .i64 (i : Int)) (by rfl) rfl ?_ ?_
      · go_simp
        (try simp only [i64_w])
        try rfl
      refine hK.out _ _ ⟨A13, c13, m13_, (by rw [ha.out]; exact putSel_upk 10 hb_ rfl rfl rfl), Q_B0, fun h0_ _ => absurd ((hoff 13 (by kernel_rfl)).symm.trans h0_) (by decide), fun h0_ => absurd ((hoff 15 (by kernel_rfl)).symm.trans h0_) (by decide), fun h0_ => absurd ((hoff 13 (by kernel_rfl)).symm.trans h0_) (by decide)⟩
    refine steps_cons ?_ ?_
    · rintro b a w' ⟨A13, c13, m13_, ha, Q_B0, Q_R13, Q_FIN, Q_X13_⟩ hb_ hon hoff
      refine ⟨_, rfl, fun K hK => ?_⟩
      have e15 : a.tmps[15]? = some (.slice (some ⟨L.gp, 0, none⟩) D.pages.length L.cp) := by rw [ha]; exact putSel_on (e := (9, 15, .slice (some ⟨L.gp, 0, none⟩) D.pages.length L.cp)) 9 rfl rfl (hon 9 (by kernel_rfl)) rfl
      have e16 : a.tmps[16]? = some (.int .i64 (i : Int)) := by rw [ha]; exact putSel_on (e := (10, 16, .int .i64 (i : Int))) 10 rfl rfl (hon 10 (by kernel_rfl)) rfl
      replace ha := Aside0.mk ha
      have B0 := Aside0.mk (Q_B0 (hoff 15 (by kernel_rfl)))
      have p_ := HP.out.1
      have q_ := HP.out.2
      refine value_ (w1 := w') (v := .pointer (some ⟨L.gp, i, none⟩)) (by rfl) rfl ?_ ?_
      · go_simp
        (try simp only [i64_w])
        try rfl
      refine hK.out _ _ ⟨A13, c13, m13_, (by rw [ha.out]; exact putSel_upk 11 hb_ rfl rfl rfl), Q_B0, fun h0_ _ => absurd ((hoff 13 (by kernel_rfl)).symm.trans h0_) (by decide), fun h0_ => absurd ((hoff 15 (by kernel_rfl)).symm.trans h0_) (by decide), fun h0_ => absurd ((hoff 13 (by kernel_rfl)).symm.trans h0_) (by decide)⟩
    refine steps_cons ?_ ?_
    · rintro b a w' ⟨A13, c13, m13_, ha, Q_B0, Q_R13, Q_FIN, Q_X13_⟩ hb_ hon hoff
      refine ⟨_, rfl, fun K hK => ?_⟩
      have e17 : a.tmps[17]? = some (.pointer (some ⟨L.gp, i, none⟩)) := by rw [ha]; exact putSel_on (e := (11, 17, .pointer (some ⟨L.gp, i, none⟩))) 11 rfl rfl (hon 11 (by kernel_rfl)) rfl
      replace ha := Aside0.mk ha
      have B0 := Aside0.mk (Q_B0 (hoff 15 (by kernel_rfl)))
      have c_ := (HC.out.below B0.out).cell HV.out
      refine value_ (w1 := w') (v := .slice Ai 256 ci) (by rfl) rfl ?_ ?_
      · go_simp
        (try simp only [i64_w])
        try rfl
      refine hK.out _ _ ⟨A13, c13, m13_, (by rw [ha.out]; exact putSel_upk 12 hb_ rfl rfl rfl), Q_B0, fun h0_ _ => absurd ((hoff 13 (by kernel_rfl)).symm.trans h0_) (by decide), fun h0_ => absurd ((hoff 15 (by kernel_rfl)).symm.trans h0_) (by decide), fun h0_ => absurd ((hoff 13 (by kernel_rfl)).symm.trans h0_) (by decide)⟩
    refine steps_cons ?_ ?_
    · rintro b a w' ⟨A13, c13, m13_, ha, Q_B0, Q_R13, Q_FIN, Q_X13_⟩ hb_ hon hoff
      refine ⟨_, rfl, fun K hK => ?_⟩
      have e11 : a.tmps[11]? = some (.func (.func kf) #[] caps) := by rw [ha]; exact putSel_on (e := (5, 11, .func (.func kf) #[] caps)) 5 rfl rfl (hon 5 (by kernel_rfl)) rfl
      have e18 : a.tmps[18]? = some (.slice Ai 256 ci) := by rw [ha]; exact putSel_on (e := (12, 18, .slice Ai 256 ci)) 12 rfl rfl (hon 12 (by kernel_rfl)) rfl
      replace ha := Aside0.mk ha
      have B0 := Aside0.mk (Q_B0 (hoff 15 (by kernel_rfl)))
      refine goesv_ HK.out.1 HK.out.2.1 HK.out.2.2 #[.slice Ai 256 ci] (by rfl) rfl rfl e11 (by first | (simp only [List.map_toArray, List.map_cons, List.map_nil, Act.eval, Array.getD_eq_getD_getElem?, Option.getD_some, e11, e18]; done) | (simp only [List.map_toArray, List.map_cons, List.map_nil, Act.eval, Array.getD_eq_getD_getElem?, Option.getD_some, e11, e18]; rfl)) ?_
      with_reducible refine (HDO.out _ B0.out Ai ci HFI.out.1 (Kd.C_below (Kd.F_now HFI.out.2) B0.out)).mono ?_
      rintro e w2 ⟨A_, c_, rfl, hc_, hF_, hb⟩
      refine ⟨_, rfl, ?_⟩
      refine hK.out _ _ ⟨A_, c_, (.slice A_ 256 c_), (by rw [ha.out]; exact putSel_upk 13 hb_ rfl rfl rfl), fun _ => below_then B0.out B0.out.size hb, fun _ _ => ⟨hc_, Kd.F_mono hF_ (newer_le B0.out.size)⟩, fun h0_ => absurd ((hoff 15 (by kernel_rfl)).symm.trans h0_) (by decide), fun _ => rfl⟩
    refine steps_cons ?_ ?_
    · rintro b a w' ⟨A13, c13, m13_, ha, Q_B0, Q_R13, Q_FIN, Q_X13_⟩ hb_ hon hoff
      refine ⟨_, rfl, fun K hK => ?_⟩
      have e9 : a.tmps[9]? = some (.slice (some ⟨L.gp, 0, none⟩) D.pages.length L.cp) := by rw [ha]; exact putSel_on (e := (3, 9, .slice (some ⟨L.gp, 0, none⟩) D.pages.length L.cp)) 3 rfl rfl (hon 3 (by kernel_rfl)) rfl
      have e10 : a.tmps[10]? = some (.int .i64 (i : Int)) := by rw [ha]; exact putSel_on (e := (4, 10, .int .i64 (i : Int))) 4 rfl rfl (hon 4 (by kernel_rfl)) rfl
      replace ha := Aside0.mk ha
      have B0 := Aside0.mk (Q_B0 (hoff 15 (by kernel_rfl)))
      have R13 := Aside0.mk (Q_R13 (hon 13 (by kernel_rfl)) (hoff 15 (by kernel_rfl)))
      have p_ := HP.out.1
      have q_ := HP.out.2
      refine value_ (w1 := w') (v := .pointer (some ⟨L.gp, i, none⟩)) (by rfl) rfl ?_ ?_
      · go_simp
        (try simp only [i64_w])
        try rfl
      refine hK.out _ _ ⟨A13, c13, m13_, (by rw [ha.out]; exact putSel_upk 14 hb_ rfl rfl rfl), Q_B0, Q_R13, fun h0_ => absurd ((hoff 15 (by kernel_rfl)).symm.trans h0_) (by decide), Q_X13_⟩
    refine steps_cons ?_ ?_
    · rintro b a w' ⟨A13, c13, m13_, ha, Q_B0, Q_R13, Q_FIN, Q_X13_⟩ hb_ hon hoff
      refine ⟨_, rfl, fun K hK => ?_⟩
      have e20 : a.tmps[20]? = some (.pointer (some ⟨L.gp, i, none⟩)) := by rw [ha]; exact putSel_on (e := (14, 20, .pointer (some ⟨L.gp, i, none⟩))) 14 rfl rfl (hon 14 (by kernel_rfl)) rfl
      have e19 : a.tmps[19]? = some (m13_) := by rw [ha]; exact putSel_on (e := (13, 19, m13_)) 13 rfl rfl (hon 13 (by kernel_rfl)) rfl
      rw [Q_X13_ (hon 13 (by kernel_rfl))] at e19
      replace ha := Aside0.mk ha
      have B0 := Aside0.mk (Q_B0 hb_)
      have R13 := Aside0.mk (Q_R13 (hon 13 (by kernel_rfl)) hb_)
      have c_ := (HC.out.below B0.out).cell HV.out
      have fr_ := (HC.out.below B0.out).frozen i
      refine skip_ (w1 := ?_) (by rfl) rfl ?_ ?_
      rotate_left
      · go_simp
        rfl
      refine hK.out _ _ ⟨A13, c13, m13_, (by rw [ha.out]; exact putSel_none (v := undef) rfl), fun h0_ => absurd ((up_self b 15).symm.trans h0_) (by decide), fun _ h1_ => absurd ((up_self b 15).symm.trans h1_) (by decide), fun _ => ⟨((H.out.below B0.out).newer_ H.out.lt).set_page i R13.out.1 R13.out.2 HLL.out, (Turn.of_below B0.out L.S).setCell (p := ⟨L.gp, i, none⟩) (.inl (.inr (.inl rfl))) _⟩, Q_X13_⟩
    exact steps_nil
  rintro b a wl hall ⟨A13, c13, m13_, ha, Q_B0, Q_R13, Q_FIN, Q_X13_⟩
  clear B0
  have hb0_ := hall 0 (by kernel_rfl)
  have hb1_ := hall 1 (by kernel_rfl)
  have hb2_ := hall 2 (by kernel_rfl)
  have hb3_ := hall 3 (by kernel_rfl)
  have hb4_ := hall 4 (by kernel_rfl)
  have hb5_ := hall 5 (by kernel_rfl)
  have hb6_ := hall 6 (by kernel_rfl)
  have hb7_ := hall 7 (by kernel_rfl)
  have hb8_ := hall 8 (by kernel_rfl)
  have hb9_ := hall 9 (by kernel_rfl)
  have hb10_ := hall 10 (by kernel_rfl)
  have hb11_ := hall 11 (by kernel_rfl)
  have hb12_ := hall 12 (by kernel_rfl)
  have hb13_ := hall 13 (by kernel_rfl)
  have hb14_ := hall 14 (by kernel_rfl)
  have hb15_ := hall 15 (by kernel_rfl)
  subst ha
  obtain rfl := Q_X13_ hb13_
  simp only [putSel, hb0_, hb1_, hb2_, hb3_, hb4_, hb5_, hb6_, hb7_, hb8_, hb9_, hb10_, hb11_, hb12_, hb13_, hb14_, hb15_, if_true, Act.put, List.setIfInBounds_toArray, List.set_cons_zero, List.set_cons_succ]
  clear Q_B0
  clear Q_R13
  have FIN := Aside0.mk (Q_FIN hb15_)
  clear Q_FIN
  clear hall hb0_ hb1_ hb2_ hb3_ hb4_ hb5_ hb6_ hb7_ hb8_ hb9_ hb10_ hb11_ hb12_ hb13_ hb14_ hb15_
  go_wp2_with fail
  go_end0
  exact ⟨rfl, FIN.out.1, FIN.out.2⟩
end Go.Proofs.Ytnchdmidaigheaa.ND
namespace Go.Proofs.Ytnchdmidaigheaa.Hp
open Go.RowKit Go.Proofs.YtnchdmidaigheaaW.PrintWords Go.Proofs.YtnchdmidaigheaaW.PrintLast Go.Proofs.YtnchdmidaigheaaW.PrintMore
attribute [local go_sem] max2_int min2_int max_two min_two max_three min_three max_four min_four   -- for this text's walks alone
set_option linter.unusedVariables false
set_option linter.unusedSimpArgs false
theorem mask_at (m : List Int) (i : Nat) (hm : isBytes m) : zeros_Mask.f m (i : Int) = some (maskAt m i) := by
  unfold zeros_Mask.f maskAt
  rw [if_neg (by omega)]
  by_cases h0 : m.length = 0
  · rw [if_pos (by omega), if_pos h0]
  · rw [if_neg (by omega), if_neg h0]
    have e : Int.tmod (i : Int) (m.length : Int) = ((i % m.length : Nat) : Int) := by
      rw [Int.tmod_eq_emod_of_nonneg (by omega)]; rfl
    have hlt := Nat.mod_lt i (show m.length > 0 by omega)
    rw [e, if_pos (by omega), if_pos (by omega)]
    show some (m.getD (((i % m.length : Nat) : Int)).toNat 0) = _
    rw [Int.toNat_natCast]
end Go.Proofs.Ytnchdmidaigheaa.Hp
namespace Go.Proofs.Ytnchdmidaigheaa.Hp
open Go.RowKit Go.Proofs.YtnchdmidaigheaaW.PrintWords Go.Proofs.YtnchdmidaigheaaW.PrintLast Go.Proofs.YtnchdmidaigheaaW.PrintMore
attribute [local go_sem] max2_int min2_int max_two min_two max_three min_three max_four min_four   -- for this text's walks alone
set_option linter.unusedVariables false
set_option linter.unusedSimpArgs false
def zeros_Erase.f (old m : List Int) : Option (List Int) := if isBytes old ∧ isBytes m ∧ old.length ≤ 1000000 then some (wipeRow old m) else none
set_option maxHeartbeats 1000000 in
theorem each_calls2 (cap : Array Value) (g : Nat → Int) (A0 : Option Addr) (c0 : Nat) (l0 : List Int) (w : World) (hr0 : Kd.C (Kd.int .u8) w A0 l0.length l0) (hlen : l0.length ≤ 1000000)
    (hf : ∀ (i : Nat) (W : World), i < l0.length → Below w.heap.size w W → Calls Try.prog 103 (#[.int .i64 (i : Int), .int .u8 (rd l0 (i : Int))] ++ cap) W fun e w' => e = .returned (.int .u8 (g i)) ∧ Drawn0 W w') :
    Calls Try.prog 102 #[.slice A0 l0.length c0, .func (.func 103) #[] cap] w fun e w' => ∃ v0_ : Value, e = .returned (v0_) ∧ Kd.R (Kd.int .u8) 5 w' w.heap.size (fun _ => True) v0_ ((List.range l0.length).map g) ∧ Below w.heap.size w w' := by
  have HR0 := Aside0.mk hr0
  have HL := Aside0.mk hlen
  have HF := Aside0.mk hf
  clear hr0 hlen hf
  have HB := Aside0.mk (Below.refl w.heap.size w)
  go_enter Try.func102, Try.ntmps102
  go_wp2
  go_loopg [5, 10] (l0.length + 1) (fun kq v5 v10 w' => ∃ (j : Nat), v10 = .int .i64 j ∧ Aside0 (j ≤ l0.length) ∧ Aside0 (kq + j = l0.length + 1) ∧ Aside0 (Kd.R (Kd.int .u8) 5 w' w.heap.size (fun _ => True) v5 ((List.range j).map g)) ∧ Aside0 (Below w.heap.size w w'))
  case atStart => exact ⟨0, rfl, ⟨by omega⟩, ⟨by omega⟩, ⟨Kd.R_nil _ _ _ _ _⟩, ⟨by repeat (first | (with_reducible first | exact HB.out | apply below_alloc | apply pw_below_drewN | apply below_drew1) | exact HB.out)⟩⟩
  case round =>
    obtain ⟨j, rfl, HJ, HQ, HO_5, HB⟩ := hrel
    by_cases hj : j < l0.length
    · have c3b0 : decide ((j : Int) < (l0.length : Int)) = true := decide_eq_true (by omega)
      have c3b1 : decide (j < l0.length) = true := decide_eq_true (by omega)
      have p395 : 0 ≤ (j : Int) := by omega
      have q395 : (j : Int) < (l0.length : Int) := by omega
      obtain ⟨ad395, e395, hx395_0⟩ := Kd.at_int HR0.out j p395 q395
      cases e395
      replace hx395_0 := (HB.out.cell (World.block_lt_of_cell? w _ hx395_0)).trans hx395_0
      rw [Int.toNat_natCast] at hx395_0
      replace p395 := eq_true p395
      replace q395 := eq_true q395
      go_wp2_with (first | ((go_at_call 103); (with_reducible refine (HF.out j _ hj ?side1).mono ?_); (case side1 => exact (by repeat (first | (with_reducible first | exact HB.out | apply below_alloc | apply pw_below_drewN | apply below_drew1) | exact HB.out))); rintro e w' ⟨rfl, ⟨nd, rfl⟩⟩) | ((with_reducible refine gate_builtin (b := .append) (xs := #[.tmp 15, .tmp 20]) rfl ?_); at_builtin; refine Kd.R_append (Kd.int .u8) (w0 := w) w.heap.size rfl (.tmp 15) (.tmp 20) 38 5 (.int .u8 0) 1 rfl Try.underlying38 info5 rfl (by decide) (by omega) u5 ((List.range j).map g) (g j) [.int .u8 (g j)] (fun _ => True) (fun _ => False) rfl rfl ?aP (fun _ hk => hk.elim) ?aF ?aO ?aB ?aS ?aL ?_; (case aP => exact rfl); (case aB => exact (by repeat (first | (with_reducible first | exact HB.out | apply below_alloc | apply pw_below_drewN | apply below_drew1) | exact HB.out))); (case aF => exact (fun _ _ => trivial)); (case aO => exact (by (with_reducible repeat (first | apply Kd.R_alloc | apply Kd.R_drewN | apply Kd.R_drew)); exact HO_5.out)); (case aS => exact (below_size (by repeat (first | (with_reducible first | exact HB.out | apply below_alloc | apply pw_below_drewN | apply below_drew1) | exact HB.out)))); (case aL => have := HL.out; simp only [List.length_map, List.length_range]; omega); intro v397 w11 ho hb hg hat; rw [← range_map_snoc] at ho; have n0_ := Aside0.mk (hb); have n1_ := Aside0.mk (ho); clear HB; clear HO_5; have HB := n0_; have HO398 := n1_; clear n0_ n1_; clear ho hb hg hat))
      go_roundg (l0.length - j)
      case measure => have := HQ.out; omega
      case rel => exact ⟨j + 1, by congr 1; have := HL.out; unfold wrap64; omega, ⟨by omega⟩, ⟨by omega⟩, ⟨by (with_reducible repeat (first | apply Kd.R_alloc | apply Kd.R_drewN | apply Kd.R_drew)); exact HO398.out⟩, ⟨by repeat (first | (with_reducible first | exact HB.out | apply below_alloc | apply pw_below_drewN | apply below_drew1) | exact HB.out)⟩⟩
    · have hje : j = l0.length := by have := HJ.out; omega
      subst hje
      go_wp2
      go_ret
      exact ⟨_, rfl, by (with_reducible repeat (first | apply Kd.R_alloc | apply Kd.R_drewN | apply Kd.R_drew)); exact HO_5.out, by repeat (first | (with_reducible first | exact HB.out | apply below_alloc | apply pw_below_drewN | apply below_drew1) | exact HB.out)⟩
set_option maxHeartbeats 1000000 in
theorem erase_clo (i : Nat) (c : Int) (A2 : Option Addr) (c2 : Nat) (l2 : List Int) (q : Addr) (w : World) (hcr : 0 ≤ c ∧ c ≤ 255)
    (hq : w.cell? q = some (.slice A2 l2.length c2)) (hr2 : Kd.C (Kd.int .u8) w A2 l2.length l2) (hc2 : l2.length ≤ c2) (hb2 : isBytes l2) :
    Calls Try.prog 103 #[.int .i64 (i : Int), .int .u8 c, .pointer (some q)] w fun e w' => e = .returned (.int .u8 ((c.toNat ||| (maskAt l2 i).toNat : Nat) : Int)) ∧ Drawn0 w w' := by
  have HE := Aside0.mk (wipe_bits c (maskAt l2 i) hcr (maskAt_range l2 hb2 i))
  have HR2 := Aside0.mk hr2
  have HC2 := Aside0.mk hc2
  have HM := Aside0.mk (mask_at l2 i hb2)
  clear hr2 hc2 hb2 hcr
  go_enter Try.func103, Try.ntmps103
  go_wp2_with ((go_at_call 104); (with_reducible refine (zeros_Mask.calls _ _ l2 i (maskAt l2 i) _ HR2.out HC2.out HM.out).mono ?_); rintro e w' ⟨rfl, ⟨nd, rfl⟩⟩)
  rw [HE.out]
  go_ret
  exact ⟨rfl, ⟨⟨_, rfl⟩⟩⟩
set_option maxHeartbeats 8000000 in
set_option maxRecDepth 100000 in
theorem zeros_Erase.calls (A0 : Option Addr) (c0 : Nat) (l0 : List Int) (A1 : Option Addr) (c1 : Nat) (l1 : List Int) (r : List Int) (w : World) (hr0 : Kd.C (Kd.int .u8) w A0 l0.length l0) (hc0 : l0.length ≤ c0) (hr1 : Kd.C (Kd.int .u8) w A1 l1.length l1) (hc1 : l1.length ≤ c1) (h : zeros_Erase.f l0 l1 = some r) :
    Calls Try.prog 67 #[.slice A0 l0.length c0, .slice A1 l1.length c1] w fun e w' => ∃ v0_ : Value, e = .returned (v0_) ∧ Kd.R (Kd.int .u8) 5 w' w.heap.size (fun _ => True) v0_ r ∧ Below w.heap.size w w' := by
  unfold zeros_Erase.f at h
  by_cases hb : isBytes l0 ∧ isBytes l1 ∧ l0.length ≤ 1000000
  · rw [if_pos hb] at h
    obtain rfl := Option.some.inj h
    clear h
    obtain ⟨hb0, hb1, hl⟩ := hb
    have HF := fun (W : World) (hB : Below w.heap.size w W) (q : Addr) (hq : W.cell? q = some (.slice A1 l1.length c1)) =>
      each_calls2 #[.pointer (some q)] (fun i => (((rd l0 i).toNat ||| (maskAt l1 i).toNat : Nat) : Int)) A0 c0 l0 W (Kd.C_below hr0 hB) hl
        (fun i W' hi hB' => erase_clo i (rd l0 i) A1 c1 l1 q W' (rd_range l0 hb0 i) (pw_cell_below hB' hq) (Kd.C_below (Kd.C_below hr1 hB) hB') hc1 hb1)
    have HF := Aside0.mk HF
    clear hr0 hr1 hc0 hc1 hb0 hb1 hl
    have hmf : ∀ (fn : Fn) (first cap : Array Value) (w : World), (Instr.makeFunc fn first cap).run Try.prog w = .ok (.func fn first cap) w := fun _ _ _ _ => rfl
    go_enter Try.func67, Try.ntmps67
    go_wp2_with fail
    have HBw : Below w.heap.size w (w.alloc (Obj.cells #[Value.slice A1 l1.length c1] 38)) := (by repeat (first | exact Below.refl _ _ | apply below_alloc | apply pw_below_drewN | apply below_drew1))
    refine (HF.out _ HBw ⟨w.heap.size, 0, none⟩ (by simp)).mono ?_
    rintro e w' ⟨v, rfl, hR, hB⟩
    have HR := Aside0.mk (Kd.R_lower hR (show w.heap.size ≤ _ by simp))
    have HB := Aside0.mk (below_step HBw hB)
    clear hR hB HBw HF
    go_wp2
    go_ret
    exact ⟨_, rfl, HR.out, HB.out⟩
  · rw [if_neg hb] at h
    cases h
end Go.Proofs.Ytnchdmidaigheaa.Hp
namespace Go.Proofs.Ytnchdmidaigheaa.ND
set_option linter.unusedVariables false
set_option linter.unusedSimpArgs false
open Go.RowKit Go.Proofs.Ytnchdmidaigheaa.Hp Go.Proofs.YtnchdmidaigheaaW.PrintWords Go.Proofs.YtnchdmidaigheaaW.PrintLast Go.Proofs.YtnchdmidaigheaaW.PrintMore
set_option maxHeartbeats 1000000 in
set_option maxRecDepth 100000 in
theorem erase1_calls {W : World} {hm : Nat} {tm : Nat} {Am A0 : Option Addr} {cm c0 : Nat} {m o : List Int} (hzm : W.heap[hm]? = some (.cells #[.slice Am m.length cm] tm (0, 0)))
    (hm' : isBytes m ∧ m.length ≤ cm) (ho : isBytes o ∧ o.length = 256) (hc0 : 256 ≤ c0) (gm : Kd.C (Kd.int .u8) W Am m.length m) (go : Kd.C (Kd.int .u8) W A0 256 o) (ok : Nat → Prop) :
    Calls Try.prog 66 (#[.slice A0 256 c0] ++ #[.pointer (some ⟨hm, 0, none⟩)]) W fun e w' => ∃ A c, e = .returned (.slice A 256 c) ∧ 256 ≤ c ∧ Kd.F (Kd.int .u8) w' (newer W ok) A 256 (wipeRow o m) ∧ Below W.heap.size W w' := by
  have x1 := blk_cell hzm 0
  have hP := zeros_Erase.calls A0 c0 o Am cm m (wipeRow o m) W (by rw [ho.2]; exact go) (by rw [ho.2]; exact hc0) gm hm'.2 (by unfold zeros_Erase.f; rw [if_pos ⟨ho.1, hm'.1, by rw [ho.2]; omega⟩])
  have hlen : (wipeRow o m).length = 256 := (wipeRow_ok ho.1 hm'.1 ho.2).2
  rw [ho.2] at hP
  have HP := Aside0.mk hP
  clear hP hzm hm' gm go ho hc0
  show Calls Try.prog 66 #[.slice A0 256 c0, .pointer (some ⟨hm, 0, none⟩)] W _
  go_enter Try.func66, Try.ntmps66
  go_wp2_with (go_at_call 67; refine HP.out.mono ?_; rintro e w2 ⟨v, rfl, hR, hb⟩; have HR := Aside0.mk (And.intro hR hb); clear hR hb)
  go_ret
  obtain ⟨A, c, rfl, hc, hF⟩ := fresh_F HR.out.1 ok
  rw [hlen] at hc hF ⊢
  exact ⟨A, c, rfl, hc, hF, HR.out.2⟩
end Go.Proofs.Ytnchdmidaigheaa.ND
namespace Go.Proofs.Ytnchdmidaigheaa.Hp
open Go.RowKit Go.Proofs.YtnchdmidaigheaaW.PrintWords Go.Proofs.YtnchdmidaigheaaW.PrintLast Go.Proofs.YtnchdmidaigheaaW.PrintMore
attribute [local go_sem] max2_int min2_int max_two min_two max_three min_three max_four min_four   -- for this text's walks alone
set_option linter.unusedVariables false
set_option linter.unusedSimpArgs false
def geom_Check.f (a b c : Int) : Option Int := some (if within a 8 34 && (within b 4 32 && within c 0 8) then 0 else 3)
theorem geom_Check.within_calls (n a b : Int) (r : Bool) (w : World) (h : within n a b = r) : Calls Try.prog 101 #[.int .i64 n, .int .i64 a, .int .i64 b] w fun e w' => e = .returned (.bool r) ∧ Drawn0 w w' := by
  unfold within at h
  subst h
  by_cases h1 : a ≤ n <;> by_cases h2 : n ≤ b
  all_goals
    go_enter Try.func101, Try.ntmps101
    go_wp2
    go_ret
    exact ⟨by simp [h1, h2], Drawn0.refl _⟩
set_option maxHeartbeats 8000000 in
set_option maxRecDepth 100000 in
theorem geom_Check.calls (a0_0 : Int) (a0_1 : Int) (a0_2 : Int) (r : Int) (w : World) (h : geom_Check.f a0_0 a0_1 a0_2 = some r) :
    Calls Try.prog 60 #[.agg #[.int .i64 a0_0, .int .i64 a0_1, .int .i64 a0_2]] w fun e w' => e = .returned (.int .i64 r) ∧ Below w.heap.size w w' := by
  have h := Option.some.inj h
  obtain ⟨b1, h1⟩ : ∃ b, within a0_0 8 34 = b := ⟨_, rfl⟩
  obtain ⟨b2, h2⟩ : ∃ b, within a0_1 4 32 = b := ⟨_, rfl⟩
  obtain ⟨b3, h3⟩ : ∃ b, within a0_2 0 8 = b := ⟨_, rfl⟩
  rw [h1, h2, h3] at h
  have H1 := Aside0.mk h1
  have H2 := Aside0.mk h2
  have H3 := Aside0.mk h3
  clear h1 h2 h3
  cases b1 <;> cases b2 <;> cases b3 <;> simp only [Bool.false_and, Bool.true_and, Bool.and_false, Bool.and_true, if_true, Bool.false_eq_true, if_false] at h <;> subst h
  all_goals
    go_enter Try.func60, Try.ntmps60
    go_wp2_with ((go_at_call 101); (first | (with_reducible refine (geom_Check.within_calls a0_0 8 34 _ _ H1.out).mono ?_) | (with_reducible refine (geom_Check.within_calls a0_1 4 32 _ _ H2.out).mono ?_) | (with_reducible refine (geom_Check.within_calls a0_2 0 8 _ _ H3.out).mono ?_)); rintro e w' ⟨rfl, ⟨n, rfl⟩⟩)
    go_ret
    exact ⟨rfl, by repeat (first | exact Below.refl _ _ | apply below_alloc | apply pw_below_drewN | apply below_drew1)⟩
end Go.Proofs.Ytnchdmidaigheaa.Hp
namespace Go.Proofs.Ytnchdmidaigheaa.Hp
open Go.RowKit Go.Proofs.YtnchdmidaigheaaW.PrintWords Go.Proofs.YtnchdmidaigheaaW.PrintLast Go.Proofs.YtnchdmidaigheaaW.PrintMore
attribute [local go_sem] max2_int min2_int max_two min_two max_three min_three max_four min_four   -- for this text's walks alone
set_option linter.unusedVariables false
set_option linter.unusedSimpArgs false
end Go.Proofs.Ytnchdmidaigheaa.Hp
namespace Go.Proofs.Ytnchdmidaigheaa.ND
set_option linter.unusedVariables false
set_option linter.unusedSimpArgs false
open Go.RowKit Go.Proofs.Ytnchdmidaigheaa.Hp Go.Proofs.YtnchdmidaigheaaW.PrintWords Go.Proofs.YtnchdmidaigheaaW.PrintLast Go.Proofs.YtnchdmidaigheaaW.PrintMore
theorem DV.newer2 {W W' : World} {ok ok' : Nat → Prop} {L : Lay} {D D0 : Dv} (h : DV W' ok' L D) (h0 : DV W ok L D0) (ho : ∀ k, ok' k → newer W ok k) : DV W' (newer W ok) L D :=
  h.mono ho (fun k hk hlt hS => hk.elim (fun hk => h0.no k hk (h0.lt k hS) hS) (fun hk => by have := h0.lt k hS; omega))
theorem newer_no {W W9 : World} {ok : Nat → Prop} {L : Lay} {D0 : Dv} (h0 : DV W ok L D0) (hs : W.heap.size ≤ W9.heap.size) : ∀ k, newer W9 ok k → ¬ L.S k := fun k hk hS => hk.elim (fun hk => h0.no k hk (h0.lt k hS) hS) (fun hk => by have := h0.lt k hS; omega)
end Go.Proofs.Ytnchdmidaigheaa.ND
namespace Go.Proofs.Ytnchdmidaigheaa.ND
set_option linter.unusedVariables false
set_option linter.unusedSimpArgs false
open Go.RowKit Go.Proofs.Ytnchdmidaigheaa.Hp Go.Proofs.YtnchdmidaigheaaW.PrintWords Go.Proofs.YtnchdmidaigheaaW.PrintLast Go.Proofs.YtnchdmidaigheaaW.PrintMore
end Go.Proofs.Ytnchdmidaigheaa.ND
namespace Go.Proofs.Ytnchdmidaigheaa.ND
set_option linter.unusedVariables false
set_option linter.unusedSimpArgs false
open Go.RowKit Go.Proofs.Ytnchdmidaigheaa.Hp Go.Proofs.YtnchdmidaigheaaW.PrintWords Go.Proofs.YtnchdmidaigheaaW.PrintLast Go.Proofs.YtnchdmidaigheaaW.PrintMore
theorem results_c {P : Program} {fn : Func} {p : Tmp} {ty : TypeId} (h : fn.results = #[.cell p ty]) (tmps : Array Value) (w : World) (g : Nat) (t : TypeId) (cs : Array Value) (fr : Nat × Nat) (d : TypeDesc)
    (hp : tmps.getD p undef = .pointer (some ⟨g, 0, none⟩)) (hg : w.heap[g]? = some (.cells cs t fr))
    (hu : P.underlying ty = some d) (hd : (match d with | .struct _ | .array _ _ => true | _ => false) = true) (hi : (P.info? ty).map (·.size) = some cs.size) :
    (results fn tmps).run P w = .ok (.agg cs) w := by
  have hp' : tmps[p]?.getD undef = .pointer (some ⟨g, 0, none⟩) := by simpa using hp
  simp [results, h, hp', asAddr, run_loadVar_row w g t ty cs fr d hg hu hd hi]
theorem app_any {W : World} (base ty T e : TypeId) (hT : Try.prog.underlying T = some (.slice e)) {z : Value} {sz bytes : Nat} (hinf : (Try.prog.info? e).map (fun i => (i.zero, i.size, i.bytes)) = some (some z, sz, bytes)) (hz : z.cells.size = sz) (hs : 0 < sz) (hb0 : 0 < bytes) (hb1 : bytes ≤ 1000)
    (v : Value) (n : Nat) (xs : List Value) (ho : W.ownsRow base e sz v n xs) (ad : Addr) (m c : Nat) (ys : List Value) (hl : ys.length = m * sz) (hc : ∀ (j : Nat) (u : Value), ys[j]? = some u → W.cell? (ad.add j) = some u) (h1 : ∀ u ∈ ys, u.oneCell' = true) (hn : n + m ≤ 100000) (hb : base ≤ W.heap.size) :
    ∃ v' w', (Builtin.append_ #[T, T] ty #[v, .slice (some ad) m c]).run Try.prog W = .ok v' w' ∧ w'.ownsRow base e sz v' (n + m) (xs ++ ys) ∧ W.grownBy w' v.ownBlock ∧ (v'.ownBlock = v.ownBlock ∨ v'.ownBlock = some W.heap.size) := by
  obtain ⟨i0, hi, hzz⟩ := Option.map_eq_some_iff.1 hinf
  simp only [Prod.mk.injEq] at hzz
  have hmul : (n + m) * bytes ≤ 100000 * 1000 := Nat.mul_le_mul hn hb1
  obtain ⟨v', w', h1, h2, h3, _, h5⟩ := run_append_own_at (P := Try.prog) W base T ty e i0 _ sz bytes hT hi hzz.1 hzz.2.1 hzz.2.2 hz hs v n xs ho ad m c ys hl hc h1 (by unfold maxLen; omega) (by omega) hb
  exact ⟨v', w', h1, h2, h3, h5⟩
end Go.Proofs.Ytnchdmidaigheaa.ND
namespace Go.Proofs.Ytnchdmidaigheaa.QS
set_option linter.unusedVariables false
set_option linter.unusedSimpArgs false
open Go.RowKit Go.Proofs.Ytnchdmidaigheaa.SS Go.Proofs.Ytnchdmidaigheaa.Hp Go.Proofs.YtnchdmidaigheaaW.PrintWords Go.Proofs.YtnchdmidaigheaaW.PrintLast Go.Proofs.YtnchdmidaigheaaW.PrintMore
theorem inf_flt : (Try.prog.info? 65).map (fun i => (i.zero, i.size, i.bytes)) = some (some (.agg #[(.int .i64 0), (.int .i64 0), (.slice none 0 0)]), 3, 40) := by kernel_rfl
def OwnF (w w' : World) (e : Ending) (x : R0) : Prop := ∃ A c, e = .returned (.agg #[.int .i64 x.f0, .int .i64 x.f1, .slice A x.f2.length c]) ∧ (Kd.int .u8).R 5 w' w.heap.size (fun k => w.heap.size ≤ k) (.slice A x.f2.length c) x.f2 ∧ Below w.heap.size w w'
set_option maxHeartbeats 2000000 in
set_option maxRecDepth 100000 in
theorem own_calls (x : R0) (A : Option Addr) (cp : Nat) (w : World) (hn : x.f2.length ≤ 100000) (hC : Kd.C (Kd.int .u8) w A x.f2.length x.f2) :
    Calls Try.prog 106 #[.agg #[.int .i64 x.f0, .int .i64 x.f1, .slice A x.f2.length cp]] w fun e w' => OwnF w w' e x := by
  have hz1 := heap_alloc_new w (.cells #[.int .i64 x.f0, .int .i64 x.f1, .slice A x.f2.length cp] 65)
  have hb1 := below_alloc (Below.refl w.heap.size w) (.cells #[.int .i64 x.f0, .int .i64 x.f1, .slice A x.f2.length cp] 65)
  have hg1 : ∃ g, g = w.heap.size := ⟨_, rfl⟩
  obtain ⟨g1, hg1⟩ := hg1
  have hz2 := heap_alloc_new (w.alloc (.cells #[.int .i64 x.f0, .int .i64 x.f1, .slice A x.f2.length cp] 65)) (.cells #[.int .i64 0, .int .i64 0, .slice none 0 0] 65)
  have hz1' := blk_below hz1 (below_alloc (Below.refl _ _) (.cells #[.int .i64 0, .int .i64 0, .slice none 0 0] 65))
  have hb2 := below_alloc hb1 (.cells #[.int .i64 0, .int .i64 0, .slice none 0 0] 65)
  have hsz : (w.alloc (.cells #[.int .i64 x.f0, .int .i64 x.f1, .slice A x.f2.length cp] 65)).heap.size = w.heap.size + 1 := by simp
  rw [hsz] at hz2
  go_enter Try.func106, Try.ntmps106
  go_upto_region 1 with fail
  generalize (w.alloc (.cells #[.int .i64 x.f0, .int .i64 x.f1, .slice A x.f2.length cp] 65)).alloc (.cells #[.int .i64 0, .int .i64 0, .slice none 0 0] 65) = W1 at hz2 hz1' hb2 ⊢
  clear hz1 hb1 hsz
  rw [← hg1] at hz1' hz2 ⊢
  have HG := Aside0.mk hg1
  have HZ1 := Aside0.mk hz1'
  have HZ2 := Aside0.mk hz2
  have HB2 := Aside0.mk (show Below w.heap.size w W1 from hb2)
  have HIC := Aside0.mk (bclone_calls A cp x.f2 W1 hn (Kd.C_below hC hb2))
  have c2 := blk_cell hz1' 2
  clear hz1' hz2 hb2 hg1 hn hC
  go_upto_region 2 with (go_at_call 118; refine HIC.out.mono ?_; rintro e w3 ⟨v2, rfl, h2, hb⟩; obtain ⟨A2, cp2, rfl⟩ := Kd.R_slice h2; have H2 := Aside0.mk h2; have HZ13 := Aside0.mk (blk_below HZ1.out hb); have HZ23 := Aside0.mk (blk_below HZ2.out hb); have HB3 := Aside0.mk hb; clear hb h2 c2; have c2 := blk_cell HZ13.out 2; have f2 := blk_frozen HZ13.out 2)
  have hp1 := blk_put HZ13.out 2 (.slice A2 x.f2.length cp2) (cs' := #[.int .i64 x.f0, .int .i64 x.f1, .slice A2 x.f2.length cp2]) rfl
  have hp2 := blk_far (p := ⟨g1, 2, none⟩) HZ23.out (by simp) (.slice A2 x.f2.length cp2)
  have hlt1 : g1 < W1.heap.size ∧ g1 + 1 < W1.heap.size := ⟨blk_lt HZ1.out, blk_lt HZ2.out⟩
  have hR1 := Kd.R_far (p := ⟨g1, 2, none⟩) H2.out (fun k hk => by show k ≠ g1; omega) (.slice A2 x.f2.length cp2)
  have hB1 := (below_then HB2.out HB2.out.size HB3.out).setCell (p := ⟨g1, 2, none⟩) (Nat.le_of_eq HG.out.symm) (.slice A2 x.f2.length cp2)
  generalize w3.setCell ⟨g1, 2, none⟩ (.slice A2 x.f2.length cp2) = W4 at hp1 hp2 hR1 hB1 ⊢
  have q0 := blk_put hp2 0 (.int .i64 x.f0) (cs' := #[.int .i64 x.f0, .int .i64 0, .slice none 0 0]) rfl
  have q1 := blk_put q0 1 (.int .i64 x.f1) (cs' := #[.int .i64 x.f0, .int .i64 x.f1, .slice none 0 0]) rfl
  have q2 := blk_put q1 2 (.slice A2 x.f2.length cp2) (cs' := #[.int .i64 x.f0, .int .i64 x.f1, .slice A2 x.f2.length cp2]) rfl
  have hne : ∀ k, W1.heap.size ≤ k → k ≠ g1 + 1 := fun k hk => by omega
  have r0 := Kd.R_far (p := ⟨g1 + 1, 0, none⟩) hR1 hne (.int .i64 x.f0)
  have r1 := Kd.R_far (p := ⟨g1 + 1, 1, none⟩) r0 hne (.int .i64 x.f1)
  have r2 := Kd.R_far (p := ⟨g1 + 1, 2, none⟩) r1 hne (.slice A2 x.f2.length cp2)
  have hgl : w.heap.size ≤ g1 + 1 := by have := HG.out; omega
  have s2 := ((hB1.setCell (p := ⟨g1 + 1, 0, none⟩) hgl (.int .i64 x.f0)).setCell (p := ⟨g1 + 1, 1, none⟩) hgl (.int .i64 x.f1)).setCell (p := ⟨g1 + 1, 2, none⟩) hgl (.slice A2 x.f2.length cp2)
  have Q2 := Aside0.mk q2
  have HR2 := Aside0.mk r2
  have HS2 := Aside0.mk s2
  have d0 := blk_cell hp1 0
  have d1 := blk_cell hp1 1
  have d2 := blk_cell hp1 2
  have e0 := blk_cell hp2 0
  have e1 := blk_cell hp2 1
  have e2 := blk_cell hp2 2
  have k0 := blk_frozen hp2 0
  have k1 := blk_frozen hp2 1
  have k2 := blk_frozen hp2 2
  have HLT := Aside0.mk hlt1
  clear q0 q1 q2 r0 r1 r2 s2 hp1 hp2 hR1 hB1 hne hgl c2 f2 hlt1
  go_wp2_with fail
  (try simp only [Exit.inBlock, Exit.then])
  refine bodyPost_ret (ND.results_c rfl _ _ (g1 + 1) 65 _ (0, 0) _ rfl Q2.out Try.underlying65 rfl (by kernel_rfl)) rfl ?_
  refine ⟨A2, cp2, rfl, ?_, HS2.out⟩
  exact Kd.R_mono (Kd.R_lower HR2.out HB2.out.size) (fun k hk => Nat.le_trans HB2.out.size hk)
set_option maxHeartbeats 4000000 in
set_option maxRecDepth 100000 in
theorem some_calls (K : FuncId) (fn : Func) (caps : Array Value) (hK : Try.prog.funcs[K]? = some fn) (hname : (fn.name == "runtime.NumGoroutine") = false) (hbody : fn.body.isSome = true) (so : R0 → Bool) (l : List R0) (A : Option Addr) (cp : Nat) (w : World) (hn : l.length ≤ 1000) (hp : ∀ x ∈ l, x.f2.length ≤ 1000) (hC : Kd.C k65 w A l.length l)
    (hso : ∀ W, Below w.heap.size w W → ∀ (x : R0) (Ap : Option Addr) (cpp : Nat), Calls Try.prog K (#[.agg #[.int .i64 x.f0, .int .i64 x.f1, .slice Ap x.f2.length cpp]] ++ caps) W fun e w' => e = .returned (.bool (so x)) ∧ Below W.heap.size W w') :
    Calls Try.prog 80 #[.slice A l.length cp, .func (.func K) #[] caps] w fun e w' => ∃ v, e = .returned v ∧ Kd.R k65 65 w' w.heap.size (fun k => w.heap.size ≤ k) v (l.filter so) ∧ Below w.heap.size w w' := by
  have HR := Aside0.mk hC
  have HN := Aside0.mk (And.intro hn hp)
  have HSO := Aside0.mk hso
  have hcf := fun (args : Array Value) (W : World) => enters_ (P := Try.prog) hK hname hbody args W
  clear hC hn hp hso hK hname hbody
  go_enter Try.func80, Try.ntmps80
  go_wp2_with fail
  go_loopg [5, 10] (l.length + 1) (fun kq v5 v10 w' => ∃ i : Nat, v10 = .int .i64 (i : Int) ∧ Aside0 (i ≤ l.length ∧ kq + i = l.length + 1) ∧ Aside0 (Kd.R k65 65 w' w.heap.size (fun k => w.heap.size ≤ k) v5 ((l.take i).filter so)) ∧ Aside0 (Below w.heap.size w w'))
  case atStart => exact ⟨0, rfl, ⟨Nat.zero_le _, rfl⟩, ⟨Kd.R_nil _ _ _ _ _⟩, ⟨Below.refl _ _⟩⟩
  case round =>
    obtain ⟨i, rfl, HI, HO, BB⟩ := hrel
    by_cases hi : i < l.length
    case neg =>
      have hie : i = l.length := by have := HI.out; omega
      subst hie
      have t1 : decide ((l.length : Int) < (l.length : Int)) = false := decide_eq_false (by omega)
      have ho := HO.out
      rw [List.take_length] at ho
      replace ho := Aside0.mk ho
      clear HO hi
      go_wp2_with fail
      go_ret
      exact ⟨_, rfl, ho.out, BB.out⟩
    case pos =>
      have t1 : decide ((i : Int) < (l.length : Int)) = true := decide_eq_true (by omega)
      have t2 : decide (i < l.length) = true := decide_eq_true hi
      obtain ⟨ad, Ap, cpp, rfl, hx0, hx1, hx2, hlp, hCp⟩ := at_T65 (Kd.C_below HR.out BB.out) (i : Int) (by omega) (by omega)
      obtain ⟨x, hxe⟩ : ∃ x, x = l[i] := ⟨_, rfl⟩
      have hrd : rd_T65 l (i : Int) = x := by
        unfold rd_T65
        rw [hxe, Int.toNat_natCast, List.getD_eq_getElem?_getD, List.getElem?_eq_getElem hi]
        rfl
      rw [hrd] at hx0 hx1 hx2 hlp hCp
      rw [Int.toNat_natCast] at hx0 hx1 hx2
      have hxp := HN.out.2 x (by rw [hxe]; exact List.getElem_mem hi)
      have p1 : (0 : Int) ≤ (i : Int) := by omega
      have q1 : (i : Int) < (l.length : Int) := by omega
      replace p1 := eq_true p1
      replace q1 := eq_true q1
      have HCP := Aside0.mk (And.intro hlp (And.intro hCp hxp))
      have hfil : (l.take (i + 1)).filter so = (l.take i).filter so ++ (if so x = true then [x] else []) := by
        rw [List.take_add_one, List.getElem?_eq_getElem hi, List.filter_append, ← hxe]
        by_cases h : so x = true
        · rw [if_pos h]; simp [h]
        · rw [if_neg h]; simp [h]
      have HFI := Aside0.mk hfil
      have HI2 := Aside0.mk hi
      have HWI : IntKind.i64.wrap ((i : Int) + 1) = ((i + 1 : Nat) : Int) := by rw [i64_w]; unfold wrap64; have := HN.out.1; omega
      clear hlp hCp hxp hrd hxe hfil hi
      have hbx := heap_alloc_new wr (.cells #[.int .i64 x.f0, .int .i64 x.f1, .slice Ap x.f2.length cpp] 65)
      have hbb := below_alloc BB.out (.cells #[.int .i64 x.f0, .int .i64 x.f1, .slice Ap x.f2.length cpp] 65)
      have hsc := Aside0.mk (HSO.out _ hbb x Ap cpp)
      have HOb := Kd.R_mono (Kd.R_bound HO.out) (fun k hk => (⟨hk.1, hk.2.2.1⟩ : w.heap.size ≤ k ∧ k < wr.heap.size))
      have HO1 := Aside0.mk (Kd.R_alloc HOb (.cells #[.int .i64 x.f0, .int .i64 x.f1, .slice Ap x.f2.length cpp] 65))
      have HCP1 := Aside0.mk (Kd.C_below HCP.out.2.1 (below_alloc (Below.refl wr.heap.size wr) (.cells #[.int .i64 x.f0, .int .i64 x.f1, .slice Ap x.f2.length cpp] 65)))
      have HLT := Aside0.mk (Kd.R_lt HO.out)
      clear HOb
      replace hbx := Aside0.mk hbx
      replace hbb := Aside0.mk hbb
      have HSZ : Aside0 (wr.heap.size < (wr.alloc (.cells #[.int .i64 x.f0, .int .i64 x.f1, .slice Ap x.f2.length cpp] 65)).heap.size) := ⟨by simp⟩
      go_upto_region 5 with fail
      generalize wr.alloc (.cells #[.int .i64 x.f0, .int .i64 x.f1, .slice Ap x.f2.length cpp] 65) = W1 at hbx hbb hsc HO1 HCP1 HSZ ⊢
      clear hx0 hx1 hx2 p1 q1 t1 t2 HO
      have c0 := blk_cell hbx.out 0
      have c1 := blk_cell hbx.out 1
      have c2 := blk_cell hbx.out 2
      cases hsx : so x with
      | false =>
        rw [hsx] at hsc
        have hfl : (l.take (i + 1)).filter so = (l.take i).filter so := by rw [HFI.out, if_neg (by rw [hsx]; simp), List.append_nil]
        replace hfl := Aside0.mk hfl
        clear hsx
        go_wp2_with (refine hsc.out.mono ?_; rintro e w2 ⟨rfl, hb⟩; replace hb := Aside0.mk hb)
        go_roundg (l.length - i)
        case measure => have := HI.out; have := HI2.out; omega
        case rel => exact ⟨i + 1, by first | rfl | (rw [← i64_w, HWI]) | (simp; unfold wrap64; have := HI2.out; have := HN.out.1; omega), ⟨by have := HI2.out; omega, by have := HI.out; have := HI2.out; omega⟩, ⟨by rw [hfl.out]; exact Kd.R_mono (Kd.R_below HO1.out hb.out) (fun _ hk => hk.1)⟩, ⟨below_then hbb.out hbb.out.size hb.out⟩⟩
      | true =>
        rw [hsx] at hsc
        have hfl : (l.take (i + 1)).filter so = (l.take i).filter so ++ [x] := by rw [HFI.out, if_pos (by rw [hsx])]
        replace hfl := Aside0.mk hfl
        clear hsx
        go_upto_region 6 with (refine hsc.out.mono ?_; rintro e w2 ⟨rfl, hb⟩)
        clear c0 c1 c2
        have hbx2 := blk_below hbx.out hb
        have c0 := blk_cell hbx2 0
        have c1 := blk_cell hbx2 1
        have c2 := blk_cell hbx2 2
        have HOC := Aside0.mk (own_calls x Ap cpp w2 (by have := HCP.out.2.2; omega) (Kd.C_below HCP1.out hb))
        have HO2 := Aside0.mk (Kd.R_below HO1.out hb)
        have HB2 := Aside0.mk (below_then hbb.out hbb.out.size hb)
        have HSZ2 : Aside0 (wr.heap.size < w2.heap.size) := ⟨Nat.lt_of_lt_of_le HSZ.out hb.size⟩
        clear hbx hbx2 hb HO1 hbb HCP1 HSZ hsc
        have HNW : Aside0 (∀ k, w2.heap.size ≤ k → w.heap.size ≤ k ∧ some k ≠ u5.ownBlock) := ⟨fun k hk => ⟨by have := HSZ2.out; have := BB.out.size; omega, fun h => by have := HLT.out k h.symm; have := HSZ2.out; omega⟩⟩
        have HLN : Aside0 (((l.take i).filter so).length ≤ 1000) := ⟨by have h1 := List.length_filter_le so (l.take i); have h2 := List.length_take_le i l; have := HN.out.1; rw [List.length_take] at h1; omega⟩
        go_wp2_with (first | (go_at_call 106; refine HOC.out.mono ?_; rintro e w4 ⟨A2, cp2, rfl, h2, hb⟩; have HM := Aside0.mk (k65_mkM w4 w.heap.size _ x (Kd.R_lower h2 HB2.out.size)); have HO3 := Aside0.mk (Kd.R_mono (Kd.R_below HO2.out hb) (fun _ hk => hk.1)); have HB3 := Aside0.mk (below_then HB2.out HB2.out.size hb); have HSZ4 := Aside0.mk hb.size; clear hb h2 c0 c1 c2) | (at_builtin; (refine Kd.R_append k65 w.heap.size rfl _ _ 25 65 _ 40 rfl Try.underlying25 inf_flt rfl (by decide) (by decide) u5 _ x _ (fun k => w.heap.size ≤ k) (fun k => w2.heap.size ≤ k) rfl rfl HM.out HNW.out (fun k hk => Nat.le_trans HB3.out.size hk) HO3.out HB3.out HB3.out.size (Nat.le_trans (Nat.mul_le_mul_right 40 (Nat.succ_le_succ HLN.out)) (by decide)) ?_); intro v1 w5 ho5 hb5 hg5 _; replace ho5 := Aside0.mk ho5; replace hb5 := Aside0.mk hb5; clear hg5))
        go_roundg (l.length - i)
        case measure => have := HI.out; have := HI2.out; omega
        case rel => exact ⟨i + 1, by first | rfl | (rw [← i64_w, HWI]) | (simp; unfold wrap64; have := HI2.out; have := HN.out.1; omega), ⟨by have := HI2.out; omega, by have := HI.out; have := HI2.out; omega⟩, ⟨by rw [hfl.out]; exact ho5.out⟩, hb5⟩
end Go.Proofs.Ytnchdmidaigheaa.QS
namespace Go.Proofs.Ytnchdmidaigheaa.Hp
open Go.RowKit Go.Proofs.YtnchdmidaigheaaW.PrintWords Go.Proofs.YtnchdmidaigheaaW.PrintLast Go.Proofs.YtnchdmidaigheaaW.PrintMore
attribute [local go_sem] max2_int min2_int max_two min_two max_three min_three max_four min_four   -- for this text's walks alone
set_option linter.unusedVariables false
set_option linter.unusedSimpArgs false
def damage_kind.f (a0 : Int) : Option (Bool) := if a0 = 1 then (some true) else (some (a0 == 2))
set_option maxHeartbeats 8000000 in
set_option maxRecDepth 100000 in
theorem damage_kind.calls (a0 : Int) (r : Bool) (w : World) (h : damage_kind.f a0 = some r) :
    Calls Try.prog 82 #[.int .i64 a0] w fun e w' => e = .returned (.bool r) ∧ Drawn0 w w' := by
  have H : (if a0 = 1 then (some true) else (some (a0 == 2))) = some r := h
  clear h
  by_cases c2 : a0 = 1
  · rw [if_pos c2] at H
    have c2b0 : (a0 == 1) = true := beq_iff_eq.mpr c2
    have c2b1 : (a0 != 1) = false := bne_eq_false_iff_eq.mpr c2
    clear c2
    obtain rfl := Option.some.inj H
    go_enter Try.func82, Try.ntmps82
    go_wp2
    go_ret
    exact ⟨by first | rfl | (simp; done) | (simp [*]; done), by repeat (first | exact Drawn0.refl _ | apply Drawn0.step)⟩
  · rw [if_neg c2] at H
    have c2b0 : (a0 == 1) = false := beq_eq_false_iff_ne.mpr c2
    have c2b1 : (a0 != 1) = true := bne_iff_ne.mpr c2
    obtain rfl := Option.some.inj H
    go_enter Try.func82, Try.ntmps82
    go_wp2
    go_ret
    exact ⟨by first | rfl | (simp; done) | (simp [*]; done), by repeat (first | exact Drawn0.refl _ | apply Drawn0.step)⟩
def damage_Check.l0 : Nat → List (S65) → Int → Int → Option (Int)
  | 0, _, _, _ => none
  | k + 1, x5, x6, x7 => if x7 < x6 then (if 0 ≤ x7 then (if x7 < (x5.length : Int) then ((damage_kind.f ((rd_T65 x5 x7).f1)).bind fun t207 => (if t207 = true then (if ((rd_T65 x5 x7).f0) < 0 then (some 3) else (damage_Check.l0 k x5 x6 (wrap64 (x7 + 1)))) else (some 2))) else (none)) else (none)) else (some 0)
def damage_Check.f (k : Nat) (l0 : List (S65)) : Option (Int) := damage_Check.l0 k l0 (l0.length : Int) 0
theorem damage_Check.mono_l : ∀ k, (∀ y0 y1 y2, LeO (damage_Check.l0 k y0 y1 y2) (damage_Check.l0 (k + 1) y0 y1 y2))
  | 0 => fun _ _ _ r h => by simp [damage_Check.l0] at h
  | k + 1 => by
    have ih0 := damage_Check.mono_l k
    · intro y0 y1 y2
      unfold damage_Check.l0
      repeat' first
      | (with_reducible exact ih0 _ _ _)
      | (with_reducible exact LeO.refl _)
      | (with_reducible exact LeO.none _)
      | (with_reducible refine LeO.ite ?_ ?_)
      | (with_reducible refine LeO.bind ?_ (fun _ => ?_))
      | exact ih0 _ _ _
      | exact LeO.none _
      | refine LeO.ite ?_ ?_
      | refine LeO.bind ?_ (fun _ => ?_)
theorem damage_Check.mono : ∀ a0 k, LeO (damage_Check.f k a0) (damage_Check.f (k + 1) a0) := by
  intro a0 k
  have ih0 := damage_Check.mono_l k
  unfold damage_Check.f
  repeat' first
      | (with_reducible exact ih0 _ _ _)
      | (with_reducible exact LeO.refl _)
      | (with_reducible exact LeO.none _)
      | (with_reducible refine LeO.ite ?_ ?_)
      | (with_reducible refine LeO.bind ?_ (fun _ => ?_))
      | exact ih0 _ _ _
      | exact LeO.none _
      | refine LeO.ite ?_ ?_
      | refine LeO.bind ?_ (fun _ => ?_)
set_option maxHeartbeats 8000000 in
set_option maxRecDepth 100000 in
theorem damage_Check.calls (k : Nat) (A0 : Option Addr) (c0 : Nat) (l0 : List (S65)) (r : Int) (w : World) (hr0 : Kd.C k65 w A0 l0.length l0) (hc0 : l0.length ≤ c0) (h : damage_Check.f k l0 = some r) :
    Calls Try.prog 38 #[.slice A0 l0.length c0] w fun e w' => e = .returned (.int .i64 r) ∧ Below w.heap.size w w' := by
  have hu65 := Try.underlying65
  have HR0 := Aside0.mk hr0
  have HC0 := Aside0.mk hc0
  clear hr0 hc0
  have HB := Aside0.mk (Below.refl w.heap.size w)
  have H : (damage_Check.l0 k l0 (l0.length : Int) 0) = some r := h
  clear h
  have H' := Aside0.mk H
  clear H
  go_enter Try.func38, Try.ntmps38
  go_wp2
  go_loopg [7] k (fun kq v7 w' => ∃ (x7_1 : Int), v7 = .int .i64 x7_1 ∧ Aside0 (damage_Check.l0 kq l0 (l0.length : Int) x7_1 = some r) ∧ Aside0 (kq ≤ k) ∧ Aside0 (Below w.heap.size w w'))
  case atStart => exact ⟨(0), (by first | rfl | (simp; done) | (simp [*]; done)), H', ⟨Nat.le_refl _⟩, ⟨by repeat (first | (with_reducible first | exact HB.out | apply below_alloc | apply pw_below_drewN | apply below_drew1) | exact HB.out)⟩⟩
  case round =>
    clear H'
    obtain ⟨x7_1, rfl, HA, HK1, HB⟩ := hrel
    cases gk with
    | zero => exact absurd HA.out (by simp [damage_Check.l0])
    | succ k1 =>
      have H := HA.out
      clear HA
      simp only [damage_Check.l0] at H
      by_cases c2 : x7_1 < (l0.length : Int)
      · rw [if_pos c2] at H
        have c2b0 : decide (x7_1 < (l0.length : Int)) = true := decide_eq_true c2
        clear c2
        by_cases c3 : 0 ≤ x7_1
        · rw [if_pos c3] at H
          have c3b0 : decide (0 ≤ x7_1) = true := decide_eq_true c3
          clear c3
          by_cases c4 : x7_1 < (l0.length : Int)
          · rw [if_pos c4] at H
            have c4b0 : decide (x7_1 < (l0.length : Int)) = true := decide_eq_true c4
            clear c4
            replace H := Option.bind_eq_some_iff.mp H
            obtain ⟨t207, A50, H⟩ := H
            replace H : (if t207 = true then (if ((rd_T65 l0 x7_1).f0) < 0 then (some 3) else (damage_Check.l0 k1 l0 (l0.length : Int) (wrap64 (x7_1 + 1)))) else (some 2)) = some r := H
            have A5 := Aside0.mk A50
            clear A50
            by_cases c6 : t207 = true
            · subst c6
              have H1 : (if ((rd_T65 l0 x7_1).f0) < 0 then (some 3) else (damage_Check.l0 k1 l0 (l0.length : Int) (wrap64 (x7_1 + 1)))) = some r := by rw [if_pos rfl] at H; exact H
              clear H
              have H := H1
              clear H1
              by_cases c7 : ((rd_T65 l0 x7_1).f0) < 0
              · rw [if_pos c7] at H
                have c7b0 : decide (((rd_T65 l0 x7_1).f0) < 0) = true := decide_eq_true c7
                clear c7
                obtain rfl := Option.some.inj H
                have p205 : 0 ≤ (x7_1 : Int) := of_decide_eq_true (by first | (with_reducible assumption) | assumption)
                have q205 : x7_1 < (l0.length : Int) := of_decide_eq_true (by first | (with_reducible assumption) | assumption)
                obtain ⟨ad205, A205_2, c205_2, e205, hx205_0, hx205_1, hx205_2, hl205_2, hi205_2⟩ := at_T65 HR0.out x7_1 p205 q205
                cases e205
                replace hx205_0 := (HB.out.cell (World.block_lt_of_cell? w _ hx205_0)).trans hx205_0
                replace hx205_1 := (HB.out.cell (World.block_lt_of_cell? w _ hx205_1)).trans hx205_1
                replace hx205_2 := (HB.out.cell (World.block_lt_of_cell? w _ hx205_2)).trans hx205_2
                have HR205_2 := Aside0.mk hi205_2
                have HC205_2 := Aside0.mk hl205_2
                clear hi205_2 hl205_2
                replace p205 := eq_true p205
                replace q205 := eq_true q205
                go_wp2_with (first | ((with_reducible refine gate_dst (N := 4) rfl ?_); refine box_event ?hg (N := 4) ?hd (cs := #[.int .i64 0, .int .i64 0, .slice none 0 0]) (t := 65) ?hr ?_; (case hd => rfl); (case hg => rfl); (case hr => first | (go_simp; done) | (go_simp; rfl)); intro gb206 hg w8 hbox hb; have n0_ := Aside0.mk (below_step (by repeat (first | (with_reducible first | exact HB.out | apply below_alloc | apply pw_below_drewN | apply below_drew1) | exact HB.out)) hb); have n1_ := Aside0.mk (hbox); have n2_ := Aside0.mk ((by rw [hg]; exact (below_size (by repeat (first | (with_reducible first | exact HB.out | apply below_alloc | apply pw_below_drewN | apply below_drew1) | exact HB.out))) : w.heap.size ≤ gb206)); have n3_ := Aside0.mk ((by rw [hg]; exact (below_size (by repeat (first | (with_reducible first | exact HB.out | apply below_alloc | apply pw_below_drewN | apply below_drew1) | exact HB.out))) : w.heap.size ≤ gb206)); clear HB; have HB := n0_; have BK206 := n1_; have GW206 := n2_; have GE206 := n3_; clear n0_ n1_ n2_ n3_; clear hb hbox hg; have hcz9_0 : w8.cell? ⟨gb206, 0, none⟩ = some (.int .i64 0) := (blk_cell BK206.out 0).trans rfl; have hcz9_1 : w8.cell? ⟨gb206, 1, none⟩ = some (.int .i64 0) := (blk_cell BK206.out 1).trans rfl; have hcz9_2 : w8.cell? ⟨gb206, 2, none⟩ = some (.slice none 0 0) := (blk_cell BK206.out 2).trans rfl; have hfz9_0 := blk_frozen BK206.out 0; have hfz9_1 := blk_frozen BK206.out 1; have hfz9_2 := blk_frozen BK206.out 2) | ((with_reducible refine gate_callee (f := 82) rfl ?_); refine goesL_ (some 14) rfl rfl Try.func82 (by kernel_rfl) rfl #[.int .i64 ((rd_T65 l0 x7_1).f1)] rfl (by (try simp only [List.map_toArray, List.map_cons, List.map_nil]); first | done | rfl | (simp only [List.length_drop, List.length_take]; rfl)) ?_; (with_reducible refine (damage_kind.calls ((rd_T65 l0 x7_1).f1) true _ A5.out).mono ?_); rintro e w' ⟨rfl, ⟨nd, rfl⟩⟩; refine ⟨_, rfl, ?_⟩))
                go_ret
                exact ⟨by first | rfl | (simp [errW_none, errW_some] <;> rfl) | (simp [*, errW_none, errW_some] <;> rfl), by repeat (first | (with_reducible first | exact HB.out | apply below_alloc | apply pw_below_drewN | apply below_drew1 | refine below_set ?_ GE206.out) | exact HB.out)⟩
              · rw [if_neg c7] at H
                have c7b0 : decide (((rd_T65 l0 x7_1).f0) < 0) = false := decide_eq_false c7
                clear c7
                have H' := Aside0.mk H
                clear H
                have p205 : 0 ≤ (x7_1 : Int) := of_decide_eq_true (by first | (with_reducible assumption) | assumption)
                have q205 : x7_1 < (l0.length : Int) := of_decide_eq_true (by first | (with_reducible assumption) | assumption)
                obtain ⟨ad205, A205_2, c205_2, e205, hx205_0, hx205_1, hx205_2, hl205_2, hi205_2⟩ := at_T65 HR0.out x7_1 p205 q205
                cases e205
                replace hx205_0 := (HB.out.cell (World.block_lt_of_cell? w _ hx205_0)).trans hx205_0
                replace hx205_1 := (HB.out.cell (World.block_lt_of_cell? w _ hx205_1)).trans hx205_1
                replace hx205_2 := (HB.out.cell (World.block_lt_of_cell? w _ hx205_2)).trans hx205_2
                have HR205_2 := Aside0.mk hi205_2
                have HC205_2 := Aside0.mk hl205_2
                clear hi205_2 hl205_2
                replace p205 := eq_true p205
                replace q205 := eq_true q205
                go_wp2_with (first | ((with_reducible refine gate_dst (N := 4) rfl ?_); refine box_event ?hg (N := 4) ?hd (cs := #[.int .i64 0, .int .i64 0, .slice none 0 0]) (t := 65) ?hr ?_; (case hd => rfl); (case hg => rfl); (case hr => first | (go_simp; done) | (go_simp; rfl)); intro gb206 hg w10 hbox hb; have n0_ := Aside0.mk (below_step (by repeat (first | (with_reducible first | exact HB.out | apply below_alloc | apply pw_below_drewN | apply below_drew1) | exact HB.out)) hb); have n1_ := Aside0.mk (hbox); have n2_ := Aside0.mk ((by rw [hg]; exact (below_size (by repeat (first | (with_reducible first | exact HB.out | apply below_alloc | apply pw_below_drewN | apply below_drew1) | exact HB.out))) : w.heap.size ≤ gb206)); have n3_ := Aside0.mk ((by rw [hg]; exact (below_size (by repeat (first | (with_reducible first | exact HB.out | apply below_alloc | apply pw_below_drewN | apply below_drew1) | exact HB.out))) : w.heap.size ≤ gb206)); clear HB; have HB := n0_; have BK206 := n1_; have GW206 := n2_; have GE206 := n3_; clear n0_ n1_ n2_ n3_; clear hb hbox hg; have hcz11_0 : w10.cell? ⟨gb206, 0, none⟩ = some (.int .i64 0) := (blk_cell BK206.out 0).trans rfl; have hcz11_1 : w10.cell? ⟨gb206, 1, none⟩ = some (.int .i64 0) := (blk_cell BK206.out 1).trans rfl; have hcz11_2 : w10.cell? ⟨gb206, 2, none⟩ = some (.slice none 0 0) := (blk_cell BK206.out 2).trans rfl; have hfz11_0 := blk_frozen BK206.out 0; have hfz11_1 := blk_frozen BK206.out 1; have hfz11_2 := blk_frozen BK206.out 2) | ((with_reducible refine gate_callee (f := 82) rfl ?_); refine goesL_ (some 14) rfl rfl Try.func82 (by kernel_rfl) rfl #[.int .i64 ((rd_T65 l0 x7_1).f1)] rfl (by (try simp only [List.map_toArray, List.map_cons, List.map_nil]); first | done | rfl | (simp only [List.length_drop, List.length_take]; rfl)) ?_; (with_reducible refine (damage_kind.calls ((rd_T65 l0 x7_1).f1) true _ A5.out).mono ?_); rintro e w' ⟨rfl, ⟨nd, rfl⟩⟩; refine ⟨_, rfl, ?_⟩))
                go_roundg k1
                case measure => have := HK1.out; omega
                case rel => exact ⟨(wrap64 (x7_1 + 1)), (by first | rfl | (simp; done) | (simp [*]; done)), H', ⟨by have := HK1.out; omega⟩, ⟨by repeat (first | (with_reducible first | exact HB.out | apply below_alloc | apply pw_below_drewN | apply below_drew1 | refine below_set ?_ GE206.out) | exact HB.out)⟩⟩
            · replace c6 := Bool.eq_false_iff.mpr c6
              subst c6
              have H1 : (some 2) = some r := by rw [if_neg (show ¬ (false = true) by decide)] at H; exact H
              clear H
              have H := H1
              clear H1
              obtain rfl := Option.some.inj H
              have p205 : 0 ≤ (x7_1 : Int) := of_decide_eq_true (by first | (with_reducible assumption) | assumption)
              have q205 : x7_1 < (l0.length : Int) := of_decide_eq_true (by first | (with_reducible assumption) | assumption)
              obtain ⟨ad205, A205_2, c205_2, e205, hx205_0, hx205_1, hx205_2, hl205_2, hi205_2⟩ := at_T65 HR0.out x7_1 p205 q205
              cases e205
              replace hx205_0 := (HB.out.cell (World.block_lt_of_cell? w _ hx205_0)).trans hx205_0
              replace hx205_1 := (HB.out.cell (World.block_lt_of_cell? w _ hx205_1)).trans hx205_1
              replace hx205_2 := (HB.out.cell (World.block_lt_of_cell? w _ hx205_2)).trans hx205_2
              have HR205_2 := Aside0.mk hi205_2
              have HC205_2 := Aside0.mk hl205_2
              clear hi205_2 hl205_2
              replace p205 := eq_true p205
              replace q205 := eq_true q205
              go_wp2_with (first | ((with_reducible refine gate_dst (N := 4) rfl ?_); refine box_event ?hg (N := 4) ?hd (cs := #[.int .i64 0, .int .i64 0, .slice none 0 0]) (t := 65) ?hr ?_; (case hd => rfl); (case hg => rfl); (case hr => first | (go_simp; done) | (go_simp; rfl)); intro gb206 hg w12 hbox hb; have n0_ := Aside0.mk (below_step (by repeat (first | (with_reducible first | exact HB.out | apply below_alloc | apply pw_below_drewN | apply below_drew1) | exact HB.out)) hb); have n1_ := Aside0.mk (hbox); have n2_ := Aside0.mk ((by rw [hg]; exact (below_size (by repeat (first | (with_reducible first | exact HB.out | apply below_alloc | apply pw_below_drewN | apply below_drew1) | exact HB.out))) : w.heap.size ≤ gb206)); have n3_ := Aside0.mk ((by rw [hg]; exact (below_size (by repeat (first | (with_reducible first | exact HB.out | apply below_alloc | apply pw_below_drewN | apply below_drew1) | exact HB.out))) : w.heap.size ≤ gb206)); clear HB; have HB := n0_; have BK206 := n1_; have GW206 := n2_; have GE206 := n3_; clear n0_ n1_ n2_ n3_; clear hb hbox hg; have hcz13_0 : w12.cell? ⟨gb206, 0, none⟩ = some (.int .i64 0) := (blk_cell BK206.out 0).trans rfl; have hcz13_1 : w12.cell? ⟨gb206, 1, none⟩ = some (.int .i64 0) := (blk_cell BK206.out 1).trans rfl; have hcz13_2 : w12.cell? ⟨gb206, 2, none⟩ = some (.slice none 0 0) := (blk_cell BK206.out 2).trans rfl; have hfz13_0 := blk_frozen BK206.out 0; have hfz13_1 := blk_frozen BK206.out 1; have hfz13_2 := blk_frozen BK206.out 2) | ((with_reducible refine gate_callee (f := 82) rfl ?_); refine goesL_ (some 14) rfl rfl Try.func82 (by kernel_rfl) rfl #[.int .i64 ((rd_T65 l0 x7_1).f1)] rfl (by (try simp only [List.map_toArray, List.map_cons, List.map_nil]); first | done | rfl | (simp only [List.length_drop, List.length_take]; rfl)) ?_; (with_reducible refine (damage_kind.calls ((rd_T65 l0 x7_1).f1) false _ A5.out).mono ?_); rintro e w' ⟨rfl, ⟨nd, rfl⟩⟩; refine ⟨_, rfl, ?_⟩))
              go_ret
              exact ⟨by first | rfl | (simp [errW_none, errW_some] <;> rfl) | (simp [*, errW_none, errW_some] <;> rfl), by repeat (first | (with_reducible first | exact HB.out | apply below_alloc | apply pw_below_drewN | apply below_drew1 | refine below_set ?_ GE206.out) | exact HB.out)⟩
          · rw [if_neg c4] at H
            exact absurd H (by simp)
        · rw [if_neg c3] at H
          exact absurd H (by simp)
      · rw [if_neg c2] at H
        have c2b0 : decide (x7_1 < (l0.length : Int)) = false := decide_eq_false c2
        clear c2
        obtain rfl := Option.some.inj H
        go_wp2
        go_ret
        exact ⟨by first | rfl | (simp [errW_none, errW_some] <;> rfl) | (simp [*, errW_none, errW_some] <;> rfl), by repeat (first | (with_reducible first | exact HB.out | apply below_alloc | apply pw_below_drewN | apply below_drew1) | exact HB.out)⟩
end Go.Proofs.Ytnchdmidaigheaa.Hp
namespace Go.Proofs.Ytnchdmidaigheaa.Hp
open Go.RowKit Go.Proofs.YtnchdmidaigheaaW.PrintWords Go.Proofs.YtnchdmidaigheaaW.PrintLast Go.Proofs.YtnchdmidaigheaaW.PrintMore
attribute [local go_sem] max2_int min2_int max_two min_two max_three min_three max_four min_four   -- for this text's walks alone
set_option linter.unusedVariables false
set_option linter.unusedSimpArgs false
end Go.Proofs.Ytnchdmidaigheaa.Hp
namespace Go.Proofs.Ytnchdmidaigheaa.Hp
open Go.RowKit Go.Proofs.YtnchdmidaigheaaW.PrintWords Go.Proofs.YtnchdmidaigheaaW.PrintLast Go.Proofs.YtnchdmidaigheaaW.PrintMore
attribute [local go_sem] max2_int min2_int max_two min_two max_three min_three max_four min_four   -- for this text's walks alone
set_option linter.unusedVariables false
set_option linter.unusedSimpArgs false
def cmp_isNaN_int.f (a0 : Int) : Option (Bool) := some (a0 != a0)
set_option maxHeartbeats 8000000 in
set_option maxRecDepth 100000 in
theorem cmp_isNaN_int.calls (a0 : Int) (r : Bool) (w : World) (h : cmp_isNaN_int.f a0 = some r) :
    Calls Try.prog 108 #[.int .i64 a0] w fun e w' => e = .returned (.bool r) ∧ Drawn0 w w' := by
  have H : (some (a0 != a0)) = some r := h
  clear h
  obtain rfl := Option.some.inj H
  go_enter Try.func108, Try.ntmps108
  go_wp2
  go_ret
  exact ⟨by first | rfl | (simp; done) | (simp [*]; done), by repeat (first | exact Drawn0.refl _ | apply Drawn0.step)⟩
def cmp_Compare_int.f (a0 : Int) (a1 : Int) : Option (Int) := (cmp_isNaN_int.f a0).bind fun t222 => ((cmp_isNaN_int.f a1).bind fun t223 => (if t222 = true then (if t223 = true then (some 0) else (some (-1))) else (if t223 = true then (some 1) else (if a0 < a1 then (some (-1)) else (if a0 > a1 then (some 1) else (some 0))))))
set_option maxHeartbeats 8000000 in
set_option maxRecDepth 100000 in
theorem cmp_Compare_int.calls (a0 : Int) (a1 : Int) (r : Int) (w : World) (h : cmp_Compare_int.f a0 a1 = some r) :
    Calls Try.prog 86 #[.int .i64 a0, .int .i64 a1] w fun e w' => e = .returned (.int .i64 r) ∧ Drawn0 w w' := by
  have H : ((cmp_isNaN_int.f a0).bind fun t222 => ((cmp_isNaN_int.f a1).bind fun t223 => (if t222 = true then (if t223 = true then (some 0) else (some (-1))) else (if t223 = true then (some 1) else (if a0 < a1 then (some (-1)) else (if a0 > a1 then (some 1) else (some 0))))))) = some r := h
  clear h
  replace H := Option.bind_eq_some_iff.mp H
  obtain ⟨t222, A30, H⟩ := H
  replace H : ((cmp_isNaN_int.f a1).bind fun t223 => (if t222 = true then (if t223 = true then (some 0) else (some (-1))) else (if t223 = true then (some 1) else (if a0 < a1 then (some (-1)) else (if a0 > a1 then (some 1) else (some 0)))))) = some r := H
  have A3 := Aside0.mk A30
  clear A30
  replace H := Option.bind_eq_some_iff.mp H
  obtain ⟨t223, A40, H⟩ := H
  replace H : (if t222 = true then (if t223 = true then (some 0) else (some (-1))) else (if t223 = true then (some 1) else (if a0 < a1 then (some (-1)) else (if a0 > a1 then (some 1) else (some 0))))) = some r := H
  have A4 := Aside0.mk A40
  clear A40
  by_cases c5 : t222 = true
  · subst c5
    have H1 : (if t223 = true then (some 0) else (some (-1))) = some r := by rw [if_pos rfl] at H; exact H
    clear H
    have H := H1
    clear H1
    by_cases c6 : t223 = true
    · subst c6
      have H1 : (some 0) = some r := by rw [if_pos rfl] at H; exact H
      clear H
      have H := H1
      clear H1
      obtain rfl := Option.some.inj H
      go_enter Try.func86, Try.ntmps86
      go_wp2_with (first | ((with_reducible refine gate_callee (f := 108) rfl ?_); refine goesL_ (some 8) rfl rfl Try.func108 (by kernel_rfl) rfl #[.int .i64 a0] rfl (by (try simp only [List.map_toArray, List.map_cons, List.map_nil]); first | done | rfl | (simp only [List.length_drop, List.length_take]; rfl)) ?_; (with_reducible refine (cmp_isNaN_int.calls a0 true _ A3.out).mono ?_); rintro e w' ⟨rfl, ⟨nd, rfl⟩⟩; refine ⟨_, rfl, ?_⟩) | ((with_reducible refine gate_callee (f := 108) rfl ?_); refine goesL_ (some 10) rfl rfl Try.func108 (by kernel_rfl) rfl #[.int .i64 a1] rfl (by (try simp only [List.map_toArray, List.map_cons, List.map_nil]); first | done | rfl | (simp only [List.length_drop, List.length_take]; rfl)) ?_; (with_reducible refine (cmp_isNaN_int.calls a1 true _ A4.out).mono ?_); rintro e w' ⟨rfl, ⟨nd, rfl⟩⟩; refine ⟨_, rfl, ?_⟩))
      go_ret
      exact ⟨by first | rfl | (simp; done) | (simp [*]; done), by repeat (first | exact Drawn0.refl _ | apply Drawn0.step)⟩
    · replace c6 := Bool.eq_false_iff.mpr c6
      subst c6
      have H1 : (some (-1)) = some r := by rw [if_neg (show ¬ (false = true) by decide)] at H; exact H
      clear H
      have H := H1
      clear H1
      obtain rfl := Option.some.inj H
      go_enter Try.func86, Try.ntmps86
      go_wp2_with (first | ((with_reducible refine gate_callee (f := 108) rfl ?_); refine goesL_ (some 8) rfl rfl Try.func108 (by kernel_rfl) rfl #[.int .i64 a0] rfl (by (try simp only [List.map_toArray, List.map_cons, List.map_nil]); first | done | rfl | (simp only [List.length_drop, List.length_take]; rfl)) ?_; (with_reducible refine (cmp_isNaN_int.calls a0 true _ A3.out).mono ?_); rintro e w' ⟨rfl, ⟨nd, rfl⟩⟩; refine ⟨_, rfl, ?_⟩) | ((with_reducible refine gate_callee (f := 108) rfl ?_); refine goesL_ (some 10) rfl rfl Try.func108 (by kernel_rfl) rfl #[.int .i64 a1] rfl (by (try simp only [List.map_toArray, List.map_cons, List.map_nil]); first | done | rfl | (simp only [List.length_drop, List.length_take]; rfl)) ?_; (with_reducible refine (cmp_isNaN_int.calls a1 false _ A4.out).mono ?_); rintro e w' ⟨rfl, ⟨nd, rfl⟩⟩; refine ⟨_, rfl, ?_⟩))
      go_ret
      exact ⟨by first | rfl | (simp; done) | (simp [*]; done), by repeat (first | exact Drawn0.refl _ | apply Drawn0.step)⟩
  · replace c5 := Bool.eq_false_iff.mpr c5
    subst c5
    have H1 : (if t223 = true then (some 1) else (if a0 < a1 then (some (-1)) else (if a0 > a1 then (some 1) else (some 0)))) = some r := by rw [if_neg (show ¬ (false = true) by decide)] at H; exact H
    clear H
    have H := H1
    clear H1
    by_cases c7 : t223 = true
    · subst c7
      have H1 : (some 1) = some r := by rw [if_pos rfl] at H; exact H
      clear H
      have H := H1
      clear H1
      obtain rfl := Option.some.inj H
      go_enter Try.func86, Try.ntmps86
      go_wp2_with (first | ((with_reducible refine gate_callee (f := 108) rfl ?_); refine goesL_ (some 8) rfl rfl Try.func108 (by kernel_rfl) rfl #[.int .i64 a0] rfl (by (try simp only [List.map_toArray, List.map_cons, List.map_nil]); first | done | rfl | (simp only [List.length_drop, List.length_take]; rfl)) ?_; (with_reducible refine (cmp_isNaN_int.calls a0 false _ A3.out).mono ?_); rintro e w' ⟨rfl, ⟨nd, rfl⟩⟩; refine ⟨_, rfl, ?_⟩) | ((with_reducible refine gate_callee (f := 108) rfl ?_); refine goesL_ (some 10) rfl rfl Try.func108 (by kernel_rfl) rfl #[.int .i64 a1] rfl (by (try simp only [List.map_toArray, List.map_cons, List.map_nil]); first | done | rfl | (simp only [List.length_drop, List.length_take]; rfl)) ?_; (with_reducible refine (cmp_isNaN_int.calls a1 true _ A4.out).mono ?_); rintro e w' ⟨rfl, ⟨nd, rfl⟩⟩; refine ⟨_, rfl, ?_⟩))
      go_ret
      exact ⟨by first | rfl | (simp; done) | (simp [*]; done), by repeat (first | exact Drawn0.refl _ | apply Drawn0.step)⟩
    · replace c7 := Bool.eq_false_iff.mpr c7
      subst c7
      have H1 : (if a0 < a1 then (some (-1)) else (if a0 > a1 then (some 1) else (some 0))) = some r := by rw [if_neg (show ¬ (false = true) by decide)] at H; exact H
      clear H
      have H := H1
      clear H1
      by_cases c8 : a0 < a1
      · rw [if_pos c8] at H
        have c8b0 : decide (a0 < a1) = true := decide_eq_true c8
        clear c8
        obtain rfl := Option.some.inj H
        go_enter Try.func86, Try.ntmps86
        go_wp2_with (first | ((with_reducible refine gate_callee (f := 108) rfl ?_); refine goesL_ (some 8) rfl rfl Try.func108 (by kernel_rfl) rfl #[.int .i64 a0] rfl (by (try simp only [List.map_toArray, List.map_cons, List.map_nil]); first | done | rfl | (simp only [List.length_drop, List.length_take]; rfl)) ?_; (with_reducible refine (cmp_isNaN_int.calls a0 false _ A3.out).mono ?_); rintro e w' ⟨rfl, ⟨nd, rfl⟩⟩; refine ⟨_, rfl, ?_⟩) | ((with_reducible refine gate_callee (f := 108) rfl ?_); refine goesL_ (some 10) rfl rfl Try.func108 (by kernel_rfl) rfl #[.int .i64 a1] rfl (by (try simp only [List.map_toArray, List.map_cons, List.map_nil]); first | done | rfl | (simp only [List.length_drop, List.length_take]; rfl)) ?_; (with_reducible refine (cmp_isNaN_int.calls a1 false _ A4.out).mono ?_); rintro e w' ⟨rfl, ⟨nd, rfl⟩⟩; refine ⟨_, rfl, ?_⟩))
        go_ret
        exact ⟨by first | rfl | (simp; done) | (simp [*]; done), by repeat (first | exact Drawn0.refl _ | apply Drawn0.step)⟩
      · rw [if_neg c8] at H
        have c8b0 : decide (a0 < a1) = false := decide_eq_false c8
        clear c8
        by_cases c9 : a0 > a1
        · rw [if_pos c9] at H
          have c9b0 : decide (a1 < a0) = true := decide_eq_true c9
          clear c9
          obtain rfl := Option.some.inj H
          go_enter Try.func86, Try.ntmps86
          go_wp2_with (first | ((with_reducible refine gate_callee (f := 108) rfl ?_); refine goesL_ (some 8) rfl rfl Try.func108 (by kernel_rfl) rfl #[.int .i64 a0] rfl (by (try simp only [List.map_toArray, List.map_cons, List.map_nil]); first | done | rfl | (simp only [List.length_drop, List.length_take]; rfl)) ?_; (with_reducible refine (cmp_isNaN_int.calls a0 false _ A3.out).mono ?_); rintro e w' ⟨rfl, ⟨nd, rfl⟩⟩; refine ⟨_, rfl, ?_⟩) | ((with_reducible refine gate_callee (f := 108) rfl ?_); refine goesL_ (some 10) rfl rfl Try.func108 (by kernel_rfl) rfl #[.int .i64 a1] rfl (by (try simp only [List.map_toArray, List.map_cons, List.map_nil]); first | done | rfl | (simp only [List.length_drop, List.length_take]; rfl)) ?_; (with_reducible refine (cmp_isNaN_int.calls a1 false _ A4.out).mono ?_); rintro e w' ⟨rfl, ⟨nd, rfl⟩⟩; refine ⟨_, rfl, ?_⟩))
          go_ret
          exact ⟨by first | rfl | (simp; done) | (simp [*]; done), by repeat (first | exact Drawn0.refl _ | apply Drawn0.step)⟩
        · rw [if_neg c9] at H
          have c9b0 : decide (a1 < a0) = false := decide_eq_false c9
          clear c9
          obtain rfl := Option.some.inj H
          go_enter Try.func86, Try.ntmps86
          go_wp2_with (first | ((with_reducible refine gate_callee (f := 108) rfl ?_); refine goesL_ (some 8) rfl rfl Try.func108 (by kernel_rfl) rfl #[.int .i64 a0] rfl (by (try simp only [List.map_toArray, List.map_cons, List.map_nil]); first | done | rfl | (simp only [List.length_drop, List.length_take]; rfl)) ?_; (with_reducible refine (cmp_isNaN_int.calls a0 false _ A3.out).mono ?_); rintro e w' ⟨rfl, ⟨nd, rfl⟩⟩; refine ⟨_, rfl, ?_⟩) | ((with_reducible refine gate_callee (f := 108) rfl ?_); refine goesL_ (some 10) rfl rfl Try.func108 (by kernel_rfl) rfl #[.int .i64 a1] rfl (by (try simp only [List.map_toArray, List.map_cons, List.map_nil]); first | done | rfl | (simp only [List.length_drop, List.length_take]; rfl)) ?_; (with_reducible refine (cmp_isNaN_int.calls a1 false _ A4.out).mono ?_); rintro e w' ⟨rfl, ⟨nd, rfl⟩⟩; refine ⟨_, rfl, ?_⟩))
          go_ret
          exact ⟨by first | rfl | (simp; done) | (simp [*]; done), by repeat (first | exact Drawn0.refl _ | apply Drawn0.step)⟩
end Go.Proofs.Ytnchdmidaigheaa.Hp
namespace Go.Proofs.Ytnchdmidaigheaa.QS
set_option linter.unusedVariables false
set_option linter.unusedSimpArgs false
open Go.RowKit Go.Proofs.Ytnchdmidaigheaa.SS Go.Proofs.Ytnchdmidaigheaa.Hp Go.Proofs.YtnchdmidaigheaaW.PrintWords Go.Proofs.YtnchdmidaigheaaW.PrintLast Go.Proofs.YtnchdmidaigheaaW.PrintMore
def kindB (k : Int) : Bool := k == 1 || k == 2
theorem kind_calls (a : Int) (w : World) : Calls Try.prog 82 #[.int .i64 a] w fun e w' => e = .returned (.bool (kindB a)) ∧ Drawn0 w w' := by
  refine damage_kind.calls a _ w ?_
  unfold damage_kind.f kindB
  by_cases h : a = 1
  · rw [if_pos h]; simp [h]
  · rw [if_neg h]; simp [h]
set_option maxHeartbeats 2000000 in
set_option maxRecDepth 100000 in
theorem all_fn (x : R0) (Ap : Option Addr) (cpp : Nat) (W : World) : Calls Try.prog 83 (#[.agg #[.int .i64 x.f0, .int .i64 x.f1, .slice Ap x.f2.length cpp]] ++ #[]) W fun e w' => e = .returned (.bool true) ∧ Below W.heap.size W w' := by
  have hb := Aside0.mk (below_alloc (Below.refl W.heap.size W) (.cells #[.int .i64 x.f0, .int .i64 x.f1, .slice Ap x.f2.length cpp] 65))
  show Calls Try.prog 83 #[.agg #[.int .i64 x.f0, .int .i64 x.f1, .slice Ap x.f2.length cpp]] W _
  go_enter Try.func83, Try.ntmps83
  go_wp2_with fail
  go_ret
  exact ⟨rfl, hb.out⟩
set_option maxHeartbeats 2000000 in
set_option maxRecDepth 100000 in
theorem count_fn {g : Nat} {k : Int} (x : R0) (Ap : Option Addr) (cpp : Nat) (W : World) (hc : W.cell? ⟨g, 0, none⟩ = some (.int .i64 k)) : Calls Try.prog 87 (#[.agg #[.int .i64 x.f0, .int .i64 x.f1, .slice Ap x.f2.length cpp]] ++ #[.pointer (some ⟨g, 0, none⟩)]) W fun e w' => e = .returned (.bool (x.f1 == k)) ∧ Below W.heap.size W w' := by
  have hz := heap_alloc_new W (.cells #[.int .i64 x.f0, .int .i64 x.f1, .slice Ap x.f2.length cpp] 65)
  have hb := below_alloc (Below.refl W.heap.size W) (.cells #[.int .i64 x.f0, .int .i64 x.f1, .slice Ap x.f2.length cpp] 65)
  have hk := (hb.cell (World.block_lt_of_cell? W _ hc)).trans hc
  obtain ⟨g2, hg2⟩ : ∃ g, g = W.heap.size := ⟨_, rfl⟩
  show Calls Try.prog 87 #[.agg #[.int .i64 x.f0, .int .i64 x.f1, .slice Ap x.f2.length cpp], .pointer (some ⟨g, 0, none⟩)] W _
  clear hc
  go_enter Try.func87, Try.ntmps87
  go_upto_region 1 with fail
  generalize W.alloc (.cells #[.int .i64 x.f0, .int .i64 x.f1, .slice Ap x.f2.length cpp] 65) = W1 at hz hb hk ⊢
  rw [← hg2] at hz ⊢
  have HB := Aside0.mk hb
  have c1 := blk_cell hz 1
  clear hz hb hg2
  go_wp2_with fail
  go_ret
  exact ⟨rfl, HB.out⟩
set_option maxHeartbeats 2000000 in
set_option maxRecDepth 100000 in
theorem at_fn {g : Nat} {op : Int} (x : R0) (Ap : Option Addr) (cpp : Nat) (W : World) (hc : W.cell? ⟨g, 0, none⟩ = some (.int .i64 op)) : Calls Try.prog 81 (#[.agg #[.int .i64 x.f0, .int .i64 x.f1, .slice Ap x.f2.length cpp]] ++ #[.pointer (some ⟨g, 0, none⟩)]) W fun e w' => e = .returned (.bool (x.f0 == op && kindB x.f1)) ∧ Below W.heap.size W w' := by
  have hz := heap_alloc_new W (.cells #[.int .i64 x.f0, .int .i64 x.f1, .slice Ap x.f2.length cpp] 65)
  have hb := below_alloc (Below.refl W.heap.size W) (.cells #[.int .i64 x.f0, .int .i64 x.f1, .slice Ap x.f2.length cpp] 65)
  have hk := (hb.cell (World.block_lt_of_cell? W _ hc)).trans hc
  obtain ⟨g2, hg2⟩ : ∃ g, g = W.heap.size := ⟨_, rfl⟩
  show Calls Try.prog 81 #[.agg #[.int .i64 x.f0, .int .i64 x.f1, .slice Ap x.f2.length cpp], .pointer (some ⟨g, 0, none⟩)] W _
  clear hc
  cases ho : (x.f0 == op) with
  | false =>
    go_enter Try.func81, Try.ntmps81
    go_upto_region 1 with fail
    generalize W.alloc (.cells #[.int .i64 x.f0, .int .i64 x.f1, .slice Ap x.f2.length cpp] 65) = W1 at hz hb hk ⊢
    rw [← hg2] at hz ⊢
    have HB := Aside0.mk hb
    have c0 := blk_cell hz 0
    have c1 := blk_cell hz 1
    clear hz hb hg2
    go_wp2_with fail
    go_ret
    exact ⟨rfl, HB.out⟩
  | true =>
    go_enter Try.func81, Try.ntmps81
    go_upto_region 1 with fail
    generalize W.alloc (.cells #[.int .i64 x.f0, .int .i64 x.f1, .slice Ap x.f2.length cpp] 65) = W1 at hz hb hk ⊢
    rw [← hg2] at hz ⊢
    have HB := Aside0.mk hb
    have HKC := Aside0.mk (kind_calls x.f1)
    have c0 := blk_cell hz 0
    have c1 := blk_cell hz 1
    clear hz hb hg2
    go_wp2_with (go_at_call 82; refine (HKC.out _).mono ?_; rintro e w2 ⟨rfl, hd⟩; have HB2 := Aside0.mk (below_then HB.out HB.out.size hd.below); clear hd)
    go_ret
    exact ⟨by rw [Bool.true_and]; rfl, HB2.out⟩
def lightF (l : List R0) : Prop := l.length ≤ 1000 ∧ ∀ x ∈ l, x.f2.length ≤ 1000
set_option maxHeartbeats 2000000 in
set_option maxRecDepth 100000 in
theorem count_calls (l : List R0) (A : Option Addr) (cp : Nat) (k : Int) (w : World) (hl : lightF l) (hC : Kd.C k65 w A l.length l) :
    Calls Try.prog 42 #[.slice A l.length cp, .int .i64 k] w fun e w' => e = .returned (.int .i64 ((l.filter fun x => x.f1 == k).length : Int)) ∧ Below w.heap.size w w' := by
  have hz := heap_alloc_new w (.cells #[.int .i64 k] 3)
  have hb := below_alloc (Below.refl w.heap.size w) (.cells #[.int .i64 k] 3)
  obtain ⟨g, hg⟩ : ∃ g, g = w.heap.size := ⟨_, rfl⟩
  have HL := Aside0.mk hl
  have HC1 := Aside0.mk (Kd.C_below hC hb)
  clear hl hC
  go_enter Try.func42, Try.ntmps42
  go_upto_region 1 with fail
  generalize w.alloc (.cells #[.int .i64 k] 3) = W1 at hz hb HC1 ⊢
  rw [← hg] at hz ⊢
  have HB := Aside0.mk hb
  have HSC := Aside0.mk (some_calls 87 Try.f87 #[.pointer (some ⟨g, 0, none⟩)] (by kernel_rfl) rfl rfl (fun x => x.f1 == k) l A cp W1 HL.out.1 HL.out.2 HC1.out (fun W hW x Ap cpp => count_fn x Ap cpp W (blk_cell (blk_below hz hW) 0)))
  clear hz hb hg
  go_wp2_with (go_at_call 80; refine HSC.out.mono ?_; rintro e w2 ⟨v, rfl, hR, hb⟩; obtain ⟨A2, c2, rfl⟩ := Kd.R_slice hR; have HB2 := Aside0.mk (below_then HB.out HB.out.size hb); clear hb hR)
  go_ret
  exact ⟨rfl, HB2.out⟩
end Go.Proofs.Ytnchdmidaigheaa.QS
namespace Go.Proofs.Ytnchdmidaigheaa.QS
set_option linter.unusedVariables false
set_option linter.unusedSimpArgs false
open Go.RowKit Go.Proofs.Ytnchdmidaigheaa.SS Go.Proofs.Ytnchdmidaigheaa.Hp Go.Proofs.YtnchdmidaigheaaW.PrintWords Go.Proofs.YtnchdmidaigheaaW.PrintLast Go.Proofs.YtnchdmidaigheaaW.PrintMore
theorem results_ct {P : Program} {fn : Func} {p q : Tmp} {ty : TypeId} (h : fn.results = #[.cell p ty, .tmp q]) (tmps : Array Value) (w : World) (g : Nat) (t : TypeId) (cs : Array Value) (fr : Nat × Nat) (d : TypeDesc) (v : Value)
    (hp : tmps.getD p undef = .pointer (some ⟨g, 0, none⟩)) (hq : tmps.getD q undef = v) (hg : w.heap[g]? = some (.cells cs t fr))
    (hu : P.underlying ty = some d) (hd : (match d with | .struct _ | .array _ _ => true | _ => false) = true) (hi : (P.info? ty).map (·.size) = some cs.size) :
    (results fn tmps).run P w = .ok (.tuple #[.agg cs, v]) w := by
  have hp' : tmps[p]?.getD undef = .pointer (some ⟨g, 0, none⟩) := by simpa using hp
  have hq' : tmps[q]?.getD undef = v := by simpa using hq
  simp [results, h, hp', hq', asAddr, run_loadVar_row w g t ty cs fr d hg hu hd hi]
def atOf (l : List R0) (op : Int) : R0 × Bool := match l.filter (fun x => x.f0 == op && kindB x.f1) with
  | [] => (⟨0, 0, []⟩, false)
  | x :: _ => (x, true)
def AtTo (w w' : World) (e : Ending) (r : R0 × Bool) : Prop := ∃ A c, e = .returned (.tuple #[.agg #[.int .i64 r.1.f0, .int .i64 r.1.f1, .slice A r.1.f2.length c], .bool r.2]) ∧ r.1.f2.length ≤ c ∧ Kd.C (Kd.int .u8) w' A r.1.f2.length r.1.f2 ∧ Below w.heap.size w w'
set_option maxHeartbeats 4000000 in
set_option maxRecDepth 100000 in
theorem at_calls (l : List R0) (A : Option Addr) (cp : Nat) (op : Int) (w : World) (hl : lightF l) (hC : Kd.C k65 w A l.length l) :
    Calls Try.prog 35 #[.slice A l.length cp, .int .i64 op] w fun e w' => AtTo w w' e (atOf l op) := by
  have hz1 := heap_alloc_new w (.cells #[.int .i64 op] 3)
  have hb1 := below_alloc (Below.refl w.heap.size w) (.cells #[.int .i64 op] 3)
  have hz2 := heap_alloc_new (w.alloc (.cells #[.int .i64 op] 3)) (.cells #[.int .i64 0, .int .i64 0, .slice none 0 0] 65)
  have hz1' := blk_below hz1 (below_alloc (Below.refl _ _) (.cells #[.int .i64 0, .int .i64 0, .slice none 0 0] 65))
  have hb2 := below_alloc hb1 (.cells #[.int .i64 0, .int .i64 0, .slice none 0 0] 65)
  have hsz : (w.alloc (.cells #[.int .i64 op] 3)).heap.size = w.heap.size + 1 := by simp
  rw [hsz] at hz2
  obtain ⟨g, hg⟩ : ∃ g, g = w.heap.size := ⟨_, rfl⟩
  have HL := Aside0.mk hl
  have HC1 := Aside0.mk (Kd.C_below hC hb2)
  unfold atOf
  obtain ⟨o, ho⟩ : ∃ o, o = l.filter (fun x => x.f0 == op && kindB x.f1) := ⟨_, rfl⟩
  rw [← ho]
  replace ho := Aside0.mk ho
  clear hl hC
  go_enter Try.func35, Try.ntmps35
  go_upto_region 1 with fail
  generalize (w.alloc (.cells #[.int .i64 op] 3)).alloc (.cells #[.int .i64 0, .int .i64 0, .slice none 0 0] 65) = W1 at hz1' hz2 hb2 HC1 ⊢
  clear hz1 hb1 hsz
  rw [← hg] at hz1' hz2 ⊢
  have HG := Aside0.mk hg
  have HB := Aside0.mk (show Below w.heap.size w W1 from hb2)
  have HZ2 := Aside0.mk hz2
  have HSC := Aside0.mk (some_calls 81 Try.f81 #[.pointer (some ⟨g, 0, none⟩)] (by kernel_rfl) rfl rfl (fun x => x.f0 == op && kindB x.f1) l A cp W1 HL.out.1 HL.out.2 HC1.out (fun W hW x Ap cpp => at_fn x Ap cpp W (blk_cell (blk_below hz1' hW) 0)))
  rw [← ho.out] at HSC
  clear hz1' hz2 hb2 hg ho HC1 HL
  cases o with
  | nil =>
    go_upto_region 3 with (go_at_call 80; refine HSC.out.mono ?_; rintro e w2 ⟨v, rfl, hR, hb⟩; obtain ⟨A2, c2, rfl⟩ := Kd.R_slice hR; have HB2 := Aside0.mk (below_then HB.out HB.out.size hb); have HZ := Aside0.mk (blk_below HZ2.out hb); clear hb hR)
    have d0 := blk_cell HZ.out 0
    have d1 := blk_cell HZ.out 1
    have d2 := blk_cell HZ.out 2
    have e0 := blk_frozen HZ.out 0
    have e1 := blk_frozen HZ.out 1
    have e2 := blk_frozen HZ.out 2
    have q0 := blk_put HZ.out 0 (.int .i64 0) (cs' := #[.int .i64 0, .int .i64 0, .slice none 0 0]) rfl
    have q1 := blk_put q0 1 (.int .i64 0) (cs' := #[.int .i64 0, .int .i64 0, .slice none 0 0]) rfl
    have q2 := blk_put q1 2 (.slice none 0 0) (cs' := #[.int .i64 0, .int .i64 0, .slice none 0 0]) rfl
    have hgl : w.heap.size ≤ g + 1 := by have := HG.out; omega
    have s2 := ((HB2.out.setCell (p := ⟨g + 1, 0, none⟩) hgl (.int .i64 0)).setCell (p := ⟨g + 1, 1, none⟩) hgl (.int .i64 0)).setCell (p := ⟨g + 1, 2, none⟩) hgl (.slice none 0 0)
    have Q2 := Aside0.mk q2
    have S2 := Aside0.mk s2
    clear q0 q1 q2 s2 hgl
    go_wp2_with fail
    (try simp only [Exit.inBlock, Exit.then])
    refine bodyPost_ret (results_ct rfl _ _ (g + 1) 65 _ (0, 0) _ _ rfl rfl Q2.out Try.underlying65 rfl (by kernel_rfl)) rfl ?_
    exact ⟨none, 0, rfl, Nat.le_refl _, Kd.C_nil _ _, S2.out⟩
  | cons x rest =>
    go_upto_region 4 with (go_at_call 80; refine HSC.out.mono ?_; rintro e w2 ⟨v, rfl, hR, hb⟩; obtain ⟨A2, c2, rfl⟩ := Kd.R_slice hR; have HR2 := Aside0.mk hR; have HB2 := Aside0.mk (below_then HB.out HB.out.size hb); have HZ := Aside0.mk (blk_below HZ2.out hb); clear hb hR)
    obtain ⟨ps, hps, hown, hgood⟩ := rows_of_R HR2.out
    obtain ⟨p, rest', rfl⟩ : ∃ p rest, ps = p :: rest := by
      cases ps with
      | nil => cases hps
      | cons p rest => exact ⟨p, rest, rfl⟩
    have hp1 : p.1 = x := by injection hps
    have hgp := hgood p (by simp)
    obtain ⟨gr, cap, hv, _, _⟩ := hown.form (by simp)
    injection hv with hv _ _
    subst hv
    have hcc : ∀ j u, (recOf p).enc[j]? = some u → w2.cell? ⟨gr, j, none⟩ = some u := fun j u hu => by
      have hj : j < 3 := (List.getElem?_eq_some_iff.1 hu).1
      have h2 := hown.cells (g := gr) rfl j u (by
        have e1 := encs_at ((p :: rest').map recOf) 0 (recOf p) rfl j hj
        rw [Nat.zero_mul, Nat.zero_add] at e1
        rw [e1]; exact hu)
      rwa [add_plain] at h2
    have hx0 := hcc 0 _ rfl
    have hx1 := hcc 1 _ rfl
    have hx2 := hcc 2 _ rfl
    rw [show (recOf p).nr = x.f0 by rw [← hp1]; rfl] at hx0
    rw [show (recOf p).kd = x.f1 by rw [← hp1]; rfl] at hx1
    obtain ⟨⟨xx, Am, cm⟩, hpe⟩ : ∃ q, q = p := ⟨_, rfl⟩
    subst hpe
    obtain rfl : xx = x := hp1
    have hmk : (Kd.int .u8).R 5 w2 W1.heap.size (fun k => W1.heap.size ≤ k) (.slice Am xx.f2.length cm) xx.f2 := Kd.R_mono hgp (fun k hk => hk.1)
    have hlt1 : g + 1 < W1.heap.size := blk_lt HZ2.out
    have hne : ∀ k, W1.heap.size ≤ k → k ≠ g + 1 := fun k hk => by omega
    have d0 := blk_cell HZ.out 0
    have d1 := blk_cell HZ.out 1
    have d2 := blk_cell HZ.out 2
    have e0 := blk_frozen HZ.out 0
    have e1 := blk_frozen HZ.out 1
    have e2 := blk_frozen HZ.out 2
    have q0 := blk_put HZ.out 0 (.int .i64 xx.f0) (cs' := #[.int .i64 xx.f0, .int .i64 0, .slice none 0 0]) rfl
    have q1 := blk_put q0 1 (.int .i64 xx.f1) (cs' := #[.int .i64 xx.f0, .int .i64 xx.f1, .slice none 0 0]) rfl
    have q2 := blk_put q1 2 (.slice Am xx.f2.length cm) (cs' := #[.int .i64 xx.f0, .int .i64 xx.f1, .slice Am xx.f2.length cm]) rfl
    have hgl : w.heap.size ≤ g + 1 := by have := HG.out; omega
    have s2 := ((HB2.out.setCell (p := ⟨g + 1, 0, none⟩) hgl (.int .i64 xx.f0)).setCell (p := ⟨g + 1, 1, none⟩) hgl (.int .i64 xx.f1)).setCell (p := ⟨g + 1, 2, none⟩) hgl (.slice Am xx.f2.length cm)
    have r2 := Kd.R_far (p := ⟨g + 1, 2, none⟩) (Kd.R_far (p := ⟨g + 1, 1, none⟩) (Kd.R_far (p := ⟨g + 1, 0, none⟩) hmk hne (.int .i64 xx.f0)) hne (.int .i64 xx.f1)) hne (.slice Am xx.f2.length cm)
    have Q2 := Aside0.mk q2
    have S2 := Aside0.mk s2
    have RR := Aside0.mk (Kd.R_reads' r2)
    clear q0 q1 q2 s2 r2 hgl hmk hne hlt1 hgp hgood hown hcc hps HR2
    go_wp2_with fail
    (try simp only [Exit.inBlock, Exit.then])
    refine bodyPost_ret (results_ct rfl _ _ (g + 1) 65 _ (0, 0) _ _ rfl rfl Q2.out Try.underlying65 rfl (by kernel_rfl)) rfl ?_
    exact ⟨Am, cm, rfl, RR.out.2.1, RR.out.2.2, S2.out⟩
def cmp3 (a b : Int) : Int := if a < b then -1 else if a > b then 1 else 0
theorem cmpi_val (a b : Int) : cmp_Compare_int.f a b = some (cmp3 a b) := by
  unfold cmp_Compare_int.f cmp_isNaN_int.f cmp3
  simp only [bne_self_eq_false, Option.bind_some, Bool.false_eq_true, if_false]
  (repeat' split) <;> rfl
def ltQ (x y : Rec) : Bool := decide (x.nr < y.nr)
def ltS (x y : R0) : Bool := decide (x.f0 < y.f0)
theorem ltQ_ord : Ord ltQ := by
  refine ⟨fun x y h => ?_, fun x y z h1 h2 => ?_⟩
  · unfold ltQ at h ⊢
    simp only [decide_eq_true_eq, decide_eq_false_iff_not] at h ⊢
    omega
  · unfold ltQ at h1 h2 ⊢
    simp only [decide_eq_false_iff_not] at h1 h2 ⊢
    omega
theorem ltS_ord : Ord ltS := by
  refine ⟨fun x y h => ?_, fun x y z h1 h2 => ?_⟩
  · unfold ltS at h ⊢
    simp only [decide_eq_true_eq, decide_eq_false_iff_not] at h ⊢
    omega
  · unfold ltS at h1 h2 ⊢
    simp only [decide_eq_false_iff_not] at h1 h2 ⊢
    omega
set_option maxHeartbeats 2000000 in
set_option maxRecDepth 100000 in
theorem cmp_sorted : Cmp ltQ := by
  intro w x y
  have hz1 := heap_alloc_new w (.cells #[.int .i64 x.nr, .int .i64 x.kd, .slice x.A x.n x.c] 65)
  have hb1 := below_alloc (Below.refl w.heap.size w) (.cells #[.int .i64 x.nr, .int .i64 x.kd, .slice x.A x.n x.c] 65)
  have hz2 := heap_alloc_new (w.alloc (.cells #[.int .i64 x.nr, .int .i64 x.kd, .slice x.A x.n x.c] 65)) (.cells #[.int .i64 y.nr, .int .i64 y.kd, .slice y.A y.n y.c] 65)
  have hz1' := blk_below hz1 (below_alloc (Below.refl _ _) (.cells #[.int .i64 y.nr, .int .i64 y.kd, .slice y.A y.n y.c] 65))
  have hb2 := below_alloc hb1 (.cells #[.int .i64 y.nr, .int .i64 y.kd, .slice y.A y.n y.c] 65)
  have hsz : (w.alloc (.cells #[.int .i64 x.nr, .int .i64 x.kd, .slice x.A x.n x.c] 65)).heap.size = w.heap.size + 1 := by simp
  rw [hsz] at hz2
  obtain ⟨g, hg⟩ : ∃ g, g = w.heap.size := ⟨_, rfl⟩
  go_enter Try.func85, Try.ntmps85
  go_upto_region 1 with fail
  generalize (w.alloc (.cells #[.int .i64 x.nr, .int .i64 x.kd, .slice x.A x.n x.c] 65)).alloc (.cells #[.int .i64 y.nr, .int .i64 y.kd, .slice y.A y.n y.c] 65) = W1 at hz1' hz2 hb2 ⊢
  clear hz1 hb1 hsz
  rw [← hg] at hz1' hz2 ⊢
  have HB := Aside0.mk (show Below w.heap.size w W1 from hb2)
  have c0 := blk_cell hz1' 0
  have c1 := blk_cell hz2 0
  have HCP := Aside0.mk (fun w => cmp_Compare_int.calls x.nr y.nr _ w (cmpi_val x.nr y.nr))
  have HLT : Aside0 (decide (cmp3 x.nr y.nr < 0) = ltQ x y) := ⟨by
    unfold cmp3 ltQ
    by_cases h1 : x.nr < y.nr
    · rw [if_pos h1, decide_eq_true h1]; rfl
    · rw [if_neg h1, decide_eq_false h1]
      by_cases h2 : x.nr > y.nr
      · rw [if_pos h2]; rfl
      · rw [if_neg h2]; rfl⟩
  clear hz1' hz2 hb2 hg
  obtain ⟨rc, hrc⟩ : ∃ r, r = cmp3 x.nr y.nr := ⟨_, rfl⟩
  rw [← hrc] at HCP HLT
  clear hrc
  go_wp2_with (go_at_call 86; refine (HCP.out _).mono ?_; rintro e w2 ⟨rfl, hd⟩; have HB2 := Aside0.mk (below_then HB.out HB.out.size hd.below); clear hd)
  go_ret
  exact ⟨rc, rfl, HLT.out, HB2.out⟩
set_option maxHeartbeats 2000000 in
set_option maxRecDepth 100000 in
theorem sort_calls2 (l : List R0) (A : Option Addr) (cp : Nat) (w : World) (hl : lightF l) (hC : Kd.C k65 w A l.length l) :
    Calls Try.prog 40 #[.slice A l.length cp] w fun e w' => ∃ v, e = .returned v ∧ Kd.R k65 65 w' w.heap.size (fun k => w.heap.size ≤ k) v (ssort ltS l) ∧ Below w.heap.size w w' := by
  have HSC := Aside0.mk (some_calls 83 Try.f83 #[] (by kernel_rfl) rfl rfl (fun _ => true) l A cp w hl.1 hl.2 hC (fun W hW x Ap cpp => all_fn x Ap cpp W))
  rw [show l.filter (fun _ => true) = l from List.filter_eq_self.2 (fun _ _ => rfl)] at HSC
  have HL := Aside0.mk hl.1
  clear hl hC
  go_enter Try.func40, Try.ntmps40
  go_wp2_with (first | (go_at_call 80; refine HSC.out.mono ?_; rintro e w2 ⟨v, rfl, hR, hb⟩; have HSR := Aside0.mk (sort_R ltQ ltS (fun _ _ => rfl) ltQ_ord cmp_sorted (by have := HL.out; omega) hR); have HB2 := Aside0.mk hb; have HLT := Aside0.mk (Kd.R_lt hR); have HBS := Aside0.mk hR.1; clear hb hR) | (go_at_call 84; refine HSR.out.mono ?_; rintro e w3 ⟨rfl, hR, hg⟩; have HR3 := Aside0.mk hR; have HG3 := Aside0.mk hg; clear hR hg))
  go_ret
  refine ⟨_, rfl, HR3.out, ?_⟩
  exact pw_below_grown HB2.out _ HB2.out.size HG3.out (fun k hk => HBS.out k hk)
end Go.Proofs.Ytnchdmidaigheaa.QS
namespace Go.Proofs.Ytnchdmidaigheaa.QS
set_option linter.unusedVariables false
set_option linter.unusedSimpArgs false
open Go.RowKit Go.Proofs.Ytnchdmidaigheaa.SS Go.Proofs.Ytnchdmidaigheaa.Hp Go.Proofs.YtnchdmidaigheaaW.PrintWords Go.Proofs.YtnchdmidaigheaaW.PrintLast Go.Proofs.YtnchdmidaigheaaW.PrintMore
def evs (m : List Int) : List R0 := [⟨3, 2, m⟩, ⟨13, 2, m⟩]
set_option maxHeartbeats 4000000 in
set_option maxRecDepth 100000 in
theorem every_calls (m : List Int) (A : Option Addr) (cp : Nat) (w : World) (hm : m.length ≤ 1000) (hC : Kd.C (Kd.int .u8) w A m.length m) :
    Calls Try.prog 79 #[.int .i64 3, .int .i64 10, .int .i64 2, .int .i64 2, .slice A m.length cp] w fun e w' => ∃ v, e = .returned (.tuple #[v, .int .i64 0]) ∧ Kd.R k65 65 w' w.heap.size (fun k => w.heap.size ≤ k) v (evs m) ∧ Below w.heap.size w w' := by
  have HC := Aside0.mk hC
  have HM := Aside0.mk hm
  have HKC := Aside0.mk (kind_calls 2)
  clear hC hm
  go_enter Try.func79, Try.ntmps79
  go_wp2_with (go_at_call 82; refine (HKC.out _).mono ?_; rintro e w2 ⟨rfl, hd⟩; have HB2 := Aside0.mk hd.below; clear hd)
  go_loopg [12, 53] 3 (fun kq v12 v53 w' => ∃ i : Nat, v53 = .int .i64 (i : Int) ∧ Aside0 (i ≤ 2 ∧ kq + i = 3) ∧ Aside0 (Kd.R k65 65 w' w.heap.size (fun k => w.heap.size ≤ k) v12 ((evs m).take i)) ∧ Aside0 (Below w.heap.size w w'))
  case atStart => exact ⟨0, rfl, ⟨by decide, rfl⟩, ⟨Kd.R_nil _ _ _ _ _⟩, HB2⟩
  case round =>
    obtain ⟨i, rfl, HI, HO, BB⟩ := hrel
    clear HB2
    by_cases hi : i < 2
    case neg =>
      have hie : i = 2 := by have := HI.out; omega
      subst hie
      have ho := Aside0.mk HO.out
      rw [show (evs m).take 2 = evs m from rfl] at ho
      clear HO hi
      go_wp2_with fail
      go_ret2
      exact ⟨_, rfl, ho.out, BB.out⟩
    case pos =>
      obtain ⟨x, hx, hx0, hx1⟩ : ∃ x : R0, (evs m).take (i + 1) = (evs m).take i ++ [x] ∧ x = ⟨3 + (i : Int) * 10, 2, m⟩ ∧ IntKind.i64.wrap (3 + (i : Int) * 10) = 3 + (i : Int) * 10 := by
        have : i = 0 ∨ i = 1 := by omega
        rcases this with rfl | rfl
        · exact ⟨_, rfl, rfl, by decide⟩
        · exact ⟨_, rfl, rfl, by decide⟩
      have HX := Aside0.mk hx
      have HX0 := Aside0.mk hx0
      have HX1 := Aside0.mk hx1
      have hw1 : IntKind.i64.wrap ((i : Int) * 10) = (i : Int) * 10 := (ND.wrap_id (by omega) (by omega)).1
      have hw2 := HX1.out
      have hw3 : IntKind.i64.wrap ((i : Int) + 1) = (i : Int) + 1 := (ND.wrap_id (by omega) (by omega)).1
      have t1 : decide ((i : Int) < 2) = true := decide_eq_true (by omega)
      have t2 : decide (i < 2) = true := decide_eq_true hi
      have HI2 := Aside0.mk hi
      have HOC := Aside0.mk (own_calls x A cp wr (by rw [hx0]; have := HM.out; show m.length ≤ 100000; omega) (by rw [hx0]; exact Kd.C_below HC.out BB.out))
      rw [hx0] at HOC
      have HLT := Aside0.mk (Kd.R_lt HO.out)
      have HO2 := Aside0.mk (Kd.R_mono (Kd.R_bound HO.out) (fun k hk => (⟨hk.1, hk.2.2.1⟩ : w.heap.size ≤ k ∧ k < wr.heap.size)))
      have HNW : Aside0 (∀ k, wr.heap.size ≤ k → w.heap.size ≤ k ∧ some k ≠ u12.ownBlock) := ⟨fun k hk => ⟨by have := BB.out.size; omega, fun h => by have := HLT.out k h.symm; omega⟩⟩
      have HLN : Aside0 (((evs m).take i).length ≤ 1000) := ⟨by rw [List.length_take]; have := HI.out; omega⟩
      clear hx hx0 hx1 hi
      go_wp2_with (first | (go_at_call 106; refine HOC.out.mono ?_; rintro e w4 ⟨A2, cp2, rfl, h2, hb⟩; have HM2 := Aside0.mk (k65_mkM w4 w.heap.size _ ⟨3 + (i : Int) * 10, 2, m⟩ (Kd.R_lower h2 BB.out.size)); have HO3 := Aside0.mk (Kd.R_mono (Kd.R_below HO2.out hb) (fun _ hk => hk.1)); have HB3 := Aside0.mk (below_then BB.out BB.out.size hb); have HSZ4 := Aside0.mk hb.size; clear hb h2) | (at_builtin; (refine Kd.R_append k65 w.heap.size rfl _ _ 25 65 _ 40 rfl Try.underlying25 inf_flt rfl (by decide) (by decide) u12 _ ⟨3 + (i : Int) * 10, 2, m⟩ _ (fun k => w.heap.size ≤ k) (fun k => wr.heap.size ≤ k) rfl rfl HM2.out HNW.out (fun k hk => Nat.le_trans HB3.out.size hk) HO3.out HB3.out HB3.out.size (Nat.le_trans (Nat.mul_le_mul_right 40 (Nat.succ_le_succ HLN.out)) (by decide)) ?_); intro v1 w5 ho5 hb5 hg5 _; replace ho5 := Aside0.mk ho5; replace hb5 := Aside0.mk hb5; clear hg5))
      go_roundg (2 - i)
      case measure => have := HI.out; have := HI2.out; omega
      case rel => exact ⟨i + 1, by first | rfl | go_num, ⟨by have := HI2.out; omega, by have := HI.out; have := HI2.out; omega⟩, ⟨by rw [HX.out, HX0.out]; exact ho5.out⟩, hb5⟩
end Go.Proofs.Ytnchdmidaigheaa.QS
namespace Go.Proofs.Ytnchdmidaigheaa.QS
set_option linter.unusedVariables false
set_option linter.unusedSimpArgs false
open Go.RowKit Go.Proofs.Ytnchdmidaigheaa.SS Go.Proofs.Ytnchdmidaigheaa.Hp Go.Proofs.YtnchdmidaigheaaW.PrintWords Go.Proofs.YtnchdmidaigheaaW.PrintLast Go.Proofs.YtnchdmidaigheaaW.PrintMore
def leftB (op : Int) (x : R0) : Bool := op == 0 || decide (x.f0 ≥ op)
def lessF (op : Int) (x : R0) : R0 := ⟨wrap64 (x.f0 - op), x.f1, x.f2⟩
def fromL (l : List R0) (op : Int) : List R0 := (l.filter (leftB op)).map (lessF op)
set_option maxHeartbeats 2000000 in
set_option maxRecDepth 100000 in
theorem from_fn {g : Nat} {op : Int} (x : R0) (Ap : Option Addr) (cpp : Nat) (W : World) (hc : W.cell? ⟨g, 0, none⟩ = some (.int .i64 op)) : Calls Try.prog 97 (#[.agg #[.int .i64 x.f0, .int .i64 x.f1, .slice Ap x.f2.length cpp]] ++ #[.pointer (some ⟨g, 0, none⟩)]) W fun e w' => e = .returned (.bool (leftB op x)) ∧ Below W.heap.size W w' := by
  have hz := heap_alloc_new W (.cells #[.int .i64 x.f0, .int .i64 x.f1, .slice Ap x.f2.length cpp] 65)
  have hb := below_alloc (Below.refl W.heap.size W) (.cells #[.int .i64 x.f0, .int .i64 x.f1, .slice Ap x.f2.length cpp] 65)
  have hk := (hb.cell (World.block_lt_of_cell? W _ hc)).trans hc
  obtain ⟨g2, hg2⟩ : ∃ g, g = W.heap.size := ⟨_, rfl⟩
  show Calls Try.prog 97 #[.agg #[.int .i64 x.f0, .int .i64 x.f1, .slice Ap x.f2.length cpp], .pointer (some ⟨g, 0, none⟩)] W _
  unfold leftB
  clear hc
  cases ho : (op == 0) with
  | true =>
    go_enter Try.func97, Try.ntmps97
    go_upto_region 1 with fail
    generalize W.alloc (.cells #[.int .i64 x.f0, .int .i64 x.f1, .slice Ap x.f2.length cpp] 65) = W1 at hz hb hk ⊢
    rw [← hg2] at hz ⊢
    have HB := Aside0.mk hb
    have c0 := blk_cell hz 0
    clear hz hb hg2
    go_wp2_with fail
    go_ret
    exact ⟨rfl, HB.out⟩
  | false =>
    have HO := Aside0.mk ho
    cases hq : decide (x.f0 ≥ op) with
    | true =>
      have hq2 : decide (op ≤ x.f0) = true := hq
      go_enter Try.func97, Try.ntmps97
      go_upto_region 1 with fail
      generalize W.alloc (.cells #[.int .i64 x.f0, .int .i64 x.f1, .slice Ap x.f2.length cpp] 65) = W1 at hz hb hk ⊢
      rw [← hg2] at hz ⊢
      have HB := Aside0.mk hb
      have c0 := blk_cell hz 0
      clear hz hb hg2
      go_wp2_with fail
      go_ret
      exact ⟨rfl, HB.out⟩
    | false =>
      have hq2 : decide (op ≤ x.f0) = false := hq
      go_enter Try.func97, Try.ntmps97
      go_upto_region 1 with fail
      generalize W.alloc (.cells #[.int .i64 x.f0, .int .i64 x.f1, .slice Ap x.f2.length cpp] 65) = W1 at hz hb hk ⊢
      rw [← hg2] at hz ⊢
      have HB := Aside0.mk hb
      have c0 := blk_cell hz 0
      clear hz hb hg2
      go_wp2_with fail
      go_ret
      exact ⟨rfl, HB.out⟩
def turned (op : Int) (ps : List Rp) (i : Nat) : List Rp := ps.mapIdx fun j p => if j < i then (lessF op p.1, p.2) else p
theorem turned_zero (op : Int) (ps : List Rp) : turned op ps 0 = ps := by
  unfold turned
  refine List.ext_getElem? fun j => ?_
  rw [List.getElem?_mapIdx]
  cases ps[j]? with
  | none => rfl
  | some p => rw [Option.map_some, if_neg (by omega)]
theorem turned_len (op : Int) (ps : List Rp) (i : Nat) : (turned op ps i).length = ps.length := by unfold turned; rw [List.length_mapIdx]
theorem turned_at {op : Int} {ps : List Rp} {i : Nat} {p : Rp} (h : ps[i]? = some p) : (turned op ps i)[i]? = some p := by
  unfold turned
  rw [List.getElem?_mapIdx, h, Option.map_some, if_neg (by omega)]
theorem turned_succ {op : Int} {ps : List Rp} {i : Nat} {p : Rp} (h : ps[i]? = some p) : turned op ps (i + 1) = (turned op ps i).set i (lessF op p.1, p.2) := by
  refine List.ext_getElem? fun j => ?_
  rw [List.getElem?_set]
  by_cases hj : i = j
  · subst hj
    rw [if_pos rfl, turned_len, if_pos (List.getElem?_eq_some_iff.1 h).1]
    unfold turned
    rw [List.getElem?_mapIdx, h, Option.map_some, if_pos (by omega)]
  · rw [if_neg hj]
    unfold turned
    rw [List.getElem?_mapIdx, List.getElem?_mapIdx]
    cases ps[j]? with
    | none => rfl
    | some q =>
      rw [Option.map_some, Option.map_some]
      by_cases h2 : j < i
      · rw [if_pos h2, if_pos (by omega)]
      · rw [if_neg h2, if_neg (by omega)]
theorem turned_all (op : Int) (ps : List Rp) : (turned op ps ps.length).map (·.1) = (ps.map (·.1)).map (lessF op) := by
  refine List.ext_getElem? fun j => ?_
  unfold turned
  rw [List.getElem?_map, List.getElem?_mapIdx, List.getElem?_map, List.getElem?_map]
  cases h : ps[j]? with
  | none => rfl
  | some q => rw [Option.map_some, Option.map_some, Option.map_some, Option.map_some, if_pos (List.getElem?_eq_some_iff.1 h).1]
theorem encs_set (l : List Rec) (i : Nat) (p : Rec) (y : Int) (h : l[i]? = some p) : (l.flatMap Rec.enc).set (i * 3) (.int .i64 y) = (l.set i { p with nr := y }).flatMap Rec.enc := by
  induction l generalizing i with
  | nil => cases h
  | cons a r ih =>
    cases i with
    | zero =>
      obtain rfl : a = p := by simpa using h
      rfl
    | succ i =>
      rw [List.set_cons_succ, List.flatMap_cons, List.flatMap_cons, ← ih i (by simpa using h)]
      rw [List.set_append_right _ _ (by show 3 ≤ (i + 1) * 3; omega)]
      rw [show (i + 1) * 3 - a.enc.length = i * 3 by show (i + 1) * 3 - 3 = i * 3; omega]
def from6.T6 : Bool × List (List Nat × List Nat) := (true, [([], []), ([], []), ([0, 1], [0, 1]), ([2], [2]), ([3], [3]), ([], []), ([4, 5], [4, 5]), ([0, 1, 0, 1, 2, 3, 4, 5, 6], [0, 1]), ([7, 0, 1, 2, 3, 4, 5, 6], [7]), ([8, 6, 0, 1, 2, 3, 4, 5, 6], [6, 8])])
def from6.B6 : List Nat := [0, 0, 3, 7, 15, 0, 63, 127, 255, 511]
theorem from6.tab6 : rtab .any (opsOf Try.f55 6) = from6.T6 := by kernel_rfl
theorem from6.bits6 : waitsOk from6.T6.2 from6.B6 = true := by kernel_rfl
set_option maxHeartbeats 4000000 in
set_option maxRecDepth 100000 in
theorem from_calls (l : List R0) (A : Option Addr) (cp : Nat) (op : Int) (w : World) (hl : lightF l) (h0 : 0 ≤ op) (hC : Kd.C k65 w A l.length l) :
    Calls Try.prog 55 #[.slice A l.length cp, .int .i64 op] w fun e w' => ∃ v, e = .returned v ∧ Kd.R k65 65 w' w.heap.size (fun k => w.heap.size ≤ k) v (fromL l op) ∧ Below w.heap.size w w' := by
  have hz1 := heap_alloc_new w (.cells #[.int .i64 op] 3)
  have hb1 := below_alloc (Below.refl w.heap.size w) (.cells #[.int .i64 op] 3)
  obtain ⟨g, hg⟩ : ∃ g, g = w.heap.size := ⟨_, rfl⟩
  have HL := Aside0.mk hl
  have HC := Aside0.mk hC
  have hmx : max op 0 = op := by omega
  clear hl hC
  go_enter Try.func55, Try.ntmps55
  go_upto_region 1 with fail
  have HC1 := Aside0.mk (Kd.C_below HC.out hb1)
  generalize w.alloc (.cells #[.int .i64 op] 3) = W1 at hz1 hb1 HC1 ⊢
  rw [← hg] at hz1 ⊢
  have HG := Aside0.mk hg
  have HB1 := Aside0.mk hb1
  have HZ1 := Aside0.mk hz1
  have c0 := blk_cell hz1 0
  have f0 := blk_frozen hz1 0
  clear hg hz1 hb1 h0
  go_upto_region 2 with fail
  have hz2 := blk_put HZ1.out 0 (.int .i64 op) (cs' := #[.int .i64 op]) rfl
  have hb2 := HB1.out.setCell (p := ⟨g, 0, none⟩) (Nat.le_of_eq HG.out.symm) (.int .i64 op)
  generalize W1.setCell ⟨g, 0, none⟩ (.int .i64 op) = W2 at hz2 hb2 ⊢
  clear c0 f0 HC1 HZ1 HB1
  have HC2 := Aside0.mk (Kd.C_below HC.out hb2)
  have HB2 := Aside0.mk hb2
  have HZ2 := Aside0.mk hz2
  have HSC := Aside0.mk (some_calls 97 Try.f97 #[.pointer (some ⟨g, 0, none⟩)] (by kernel_rfl) rfl rfl (leftB op) l A cp W2 HL.out.1 HL.out.2 HC2.out (fun W hW x Ap cpp => from_fn x Ap cpp W (blk_cell (blk_below hz2 hW) 0)))
  clear hz2 hb2 HC2 hmx
  go_upto_region 3 with (go_at_call 80; refine HSC.out.mono ?_; rintro e w3 ⟨v, rfl, hR, hb⟩; have HR3 := Aside0.mk hR; have HB3 := Aside0.mk (below_then HB2.out HB2.out.size hb); have HZ3 := Aside0.mk (blk_below HZ2.out hb); clear hb hR)
  obtain ⟨ps, hps, hown, hgood⟩ := rows_of_R HR3.out
  have hfr : fromL l op = (ps.map (·.1)).map (lessF op) := by unfold fromL; rw [hps]
  have HFR := Aside0.mk hfr
  have HOB := Aside0.mk HR3.out.1
  obtain ⟨A3, c3, rfl⟩ : ∃ A c, v = .slice A ps.length c := by
    obtain ⟨A3, c3, h3⟩ := Kd.R_slice HR3.out
    rw [h3, ← hps, List.length_map]
    exact ⟨_, _, rfl⟩
  have HNL : Aside0 (ps.length ≤ 1000) := ⟨by
    have h1 : ps.length = (l.filter (leftB op)).length := by rw [← hps, List.length_map]
    have := List.length_filter_le (leftB op) l
    have := HL.out.1
    omega⟩
  have HGW : Aside0 (g < W2.heap.size) := ⟨blk_lt HZ2.out⟩
  have HOW := Aside0.mk hown
  have HGD := Aside0.mk hgood
  obtain ⟨n, hn⟩ : ∃ n, n = ps.length := ⟨_, rfl⟩
  rw [← hn] at HOW HNL HOB HGD ⊢
  have HN := Aside0.mk hn
  clear hfr hps hown hgood hn HR3
  go_wp2_with fail
  go_loopg [14] (n + 1) (fun kq v14 w' => ∃ i : Nat, v14 = .int .i64 (i : Int) ∧ Aside0 (i ≤ n ∧ kq + i = n + 1) ∧ Aside0 (w'.ownsRow W2.heap.size 65 3 (.slice A3 n c3) n (((turned op ps i).map recOf).flatMap Rec.enc)) ∧ Aside0 (∀ p ∈ turned op ps i, p.made w' W2.heap.size (fun k => W2.heap.size ≤ k ∧ some k ≠ (Value.slice A3 n c3).ownBlock)) ∧ Aside0 (Below w.heap.size w w') ∧ Aside0 (w'.heap[g]? = some (.cells #[.int .i64 op] 3 (0, 0))))
  case atStart => exact ⟨0, rfl, ⟨Nat.zero_le _, rfl⟩, ⟨by rw [turned_zero]; exact HOW.out⟩, ⟨by rw [turned_zero]; exact HGD.out⟩, HB3, HZ3⟩
  case round =>
    obtain ⟨i, rfl, HI, HO, HM, BB, ZG⟩ := hrel
    clear HOW HGD HB3 HZ3
    by_cases hi : i < n
    case neg =>
      have hie : i = n := by have := HI.out; omega
      subst hie
      have t1 : decide ((i : Int) < (i : Int)) = false := decide_eq_false (by omega)
      have HF := Aside0.mk (R_of_rows (ps := turned op ps i) (v := .slice A3 i c3) HOB.out (by rw [turned_len, ← HN.out]; exact HO.out) HM.out)
      clear hi
      go_wp2_with fail
      go_ret
      refine ⟨_, rfl, ?_, BB.out⟩
      have e : fromL l op = (turned op ps i).map (·.1) := by rw [HFR.out, ← turned_all, ← HN.out]
      rw [e]
      exact Kd.R_mono (Kd.R_lower HF.out HB2.out.size) (fun k hk => Nat.le_trans HB2.out.size hk)
    case pos =>
      have t1 : decide ((i : Int) < (n : Int)) = true := decide_eq_true (by omega)
      have t2 : decide (i < n) = true := decide_eq_true hi
      have hpi : ps[i]? = some (ps[i]'(by rw [← HN.out]; exact hi)) := List.getElem?_eq_getElem _
      obtain ⟨p, hpe⟩ : ∃ p, p = ps[i]'(by rw [← HN.out]; exact hi) := ⟨_, rfl⟩
      rw [← hpe] at hpi
      obtain ⟨gr, cap, hv, hgb, hgl⟩ := HO.out.form (by omega)
      injection hv with hv1 _ hv3
      subst hv1 hv3
      have HP := Aside0.mk hpi
      have hce : wr.cell? ⟨gr, i * 3, none⟩ = some (.int .i64 p.1.f0) := by
        rw [HO.out.cellAt (i * 3) (by omega)]
        have e1 := encs_at ((turned op ps i).map recOf) i (recOf p) (by rw [List.getElem?_map, turned_at hpi]; rfl) 0 (by decide)
        exact e1
      have HCE := Aside0.mk hce
      have HFZ := Aside0.mk (HO.out.frozenAt (i * 3))
      obtain ⟨y, hy⟩ : ∃ y, y = wrap64 (p.1.f0 - op) := ⟨_, rfl⟩
      have HY : Aside0 (IntKind.i64.wrap (p.1.f0 - op) = y) := ⟨by rw [i64_w, hy]⟩
      have HY2 := Aside0.mk hy
      have HPQ := Aside0.mk (And.intro (eq_true (show (0 : Int) ≤ (i : Int) by omega)) (eq_true (show (i : Int) < (n : Int) by omega)))
      have HI2 := Aside0.mk hi
      have B0 := Aside0.mk (below_drew1 (Below.refl wr.heap.size wr))
      have FIN := True.intro
      go_upto_region 6 with fail
      clear hpe hpi hce hy hi t1 t2
      refine start_ (n := 10) (S := fun w' => True) (ds := []) #[false, false, false, false, false, false, false, false, false, false] (by kernel_rfl) rfl rfl trivial (fun hHeld => ?_)
      refine with_tabW from6.tab6 from6.bits6 (fun HT_ HW_ => ?_)
      generalize wr.drew = wq at B0 hHeld ⊢
      refine inv_at [0, 1, 2, 3, 4, 5, 6, 7, 8, 9] (fun a0_ b a w' => a = putSel a0_ b [(0, 17, .slice (some ⟨gr, 0, none⟩) n c3), (1, 18, .int .i64 (i : Int)), (2, 19, .pointer (some ⟨gr, (i * 3), none⟩)), (3, 20, .pointer (some ⟨gr, (i * 3), none⟩)), (4, 21, .int .i64 p.1.f0), (5, 22, .int .i64 op), (6, 23, .int .i64 y), (7, 24, .pointer (some ⟨gr, (i * 3), none⟩)), (8, 25, .pointer (some ⟨gr, (i * 3), none⟩))] ∧ (b 9 = false → Below wr.heap.size wr w') ∧ (b 9 = true → ∃ wb : World, Below wr.heap.size wr wb ∧ w' = wb.setCell ⟨gr, i * 3, none⟩ (.int .i64 y))) HT_.out HW_.out (by kernel_rfl) (by kernel_rfl) ?_ ?_ ?_
      · exact ⟨by simp only [putSel, Bool.false_eq_true, if_false], fun _ => B0.out, fun h_ => absurd h_ (by decide)⟩
      · skip
        clear B0
        refine steps_cons ?_ ?_
        · rintro b a w' ⟨ha, Q_B0, Q_FIN⟩ hb_ hon hoff
          refine ⟨_, rfl, fun K hK => ?_⟩
          have e5 : a.tmps[5]? = some (.slice (some ⟨gr, 0, none⟩) n c3) := by rw [ha]; exact (putSel_off rfl).trans rfl
          replace ha := Aside0.mk ha
          have B0 := Aside0.mk (Q_B0 (hoff 9 (by kernel_rfl)))
          refine value_ (w1 := w') (v := .slice (some ⟨gr, 0, none⟩) n c3) (by rfl) rfl ?_ ?_
          · go_simp
            (try simp only [i64_w])
            try rfl
          refine hK.out _ _ ⟨(by rw [ha.out]; exact putSel_upk 0 hb_ rfl rfl rfl), Q_B0, fun h0_ => absurd ((hoff 9 (by kernel_rfl)).symm.trans h0_) (by decide)⟩
        refine steps_cons ?_ ?_
        · rintro b a w' ⟨ha, Q_B0, Q_FIN⟩ hb_ hon hoff
          refine ⟨_, rfl, fun K hK => ?_⟩
          have e6 : a.tmps[6]? = some (.int .i64 (i : Int)) := by rw [ha]; exact (putSel_off rfl).trans rfl
          replace ha := Aside0.mk ha
          have B0 := Aside0.mk (Q_B0 (hoff 9 (by kernel_rfl)))
          refine value_ (w1 := w') (v := .int .i64 (i : Int)) (by rfl) rfl ?_ ?_
          · go_simp
            (try simp only [i64_w])
            try rfl
          refine hK.out _ _ ⟨(by rw [ha.out]; exact putSel_upk 1 hb_ rfl rfl rfl), Q_B0, fun h0_ => absurd ((hoff 9 (by kernel_rfl)).symm.trans h0_) (by decide)⟩
        refine steps_cons ?_ ?_
        · rintro b a w' ⟨ha, Q_B0, Q_FIN⟩ hb_ hon hoff
          refine ⟨_, rfl, fun K hK => ?_⟩
          have e17 : a.tmps[17]? = some (.slice (some ⟨gr, 0, none⟩) n c3) := by rw [ha]; exact putSel_on (e := (0, 17, .slice (some ⟨gr, 0, none⟩) n c3)) 0 rfl rfl (hon 0 (by kernel_rfl)) rfl
          have e18 : a.tmps[18]? = some (.int .i64 (i : Int)) := by rw [ha]; exact putSel_on (e := (1, 18, .int .i64 (i : Int))) 1 rfl rfl (hon 1 (by kernel_rfl)) rfl
          replace ha := Aside0.mk ha
          have B0 := Aside0.mk (Q_B0 (hoff 9 (by kernel_rfl)))
          have p_ := HPQ.out.1
          have q_ := HPQ.out.2
          refine value_ (w1 := w') (v := .pointer (some ⟨gr, (i * 3), none⟩)) (by rfl) rfl ?_ ?_
          · go_simp
            (try simp only [i64_w])
            try rfl
          refine hK.out _ _ ⟨(by rw [ha.out]; exact putSel_upk 2 hb_ rfl rfl rfl), Q_B0, fun h0_ => absurd ((hoff 9 (by kernel_rfl)).symm.trans h0_) (by decide)⟩
        refine steps_cons ?_ ?_
        · rintro b a w' ⟨ha, Q_B0, Q_FIN⟩ hb_ hon hoff
          refine ⟨_, rfl, fun K hK => ?_⟩
          have e19 : a.tmps[19]? = some (.pointer (some ⟨gr, (i * 3), none⟩)) := by rw [ha]; exact putSel_on (e := (2, 19, .pointer (some ⟨gr, (i * 3), none⟩))) 2 rfl rfl (hon 2 (by kernel_rfl)) rfl
          replace ha := Aside0.mk ha
          have B0 := Aside0.mk (Q_B0 (hoff 9 (by kernel_rfl)))
          refine value_ (w1 := w') (v := .pointer (some ⟨gr, (i * 3), none⟩)) (by rfl) rfl ?_ ?_
          · go_simp
            (try simp only [i64_w])
            try rfl
          refine hK.out _ _ ⟨(by rw [ha.out]; exact putSel_upk 3 hb_ rfl rfl rfl), Q_B0, fun h0_ => absurd ((hoff 9 (by kernel_rfl)).symm.trans h0_) (by decide)⟩
        refine steps_cons ?_ ?_
        · rintro b a w' ⟨ha, Q_B0, Q_FIN⟩ hb_ hon hoff
          refine ⟨_, rfl, fun K hK => ?_⟩
          have e20 : a.tmps[20]? = some (.pointer (some ⟨gr, (i * 3), none⟩)) := by rw [ha]; exact putSel_on (e := (3, 20, .pointer (some ⟨gr, (i * 3), none⟩))) 3 rfl rfl (hon 3 (by kernel_rfl)) rfl
          replace ha := Aside0.mk ha
          have B0 := Aside0.mk (Q_B0 (hoff 9 (by kernel_rfl)))
          have c_ := (B0.out.cell (World.block_lt_of_cell? wr _ HCE.out)).trans HCE.out
          refine value_ (w1 := w') (v := .int .i64 p.1.f0) (by rfl) rfl ?_ ?_
          · go_simp
            (try simp only [i64_w])
            try rfl
          refine hK.out _ _ ⟨(by rw [ha.out]; exact putSel_upk 4 hb_ rfl rfl rfl), Q_B0, fun h0_ => absurd ((hoff 9 (by kernel_rfl)).symm.trans h0_) (by decide)⟩
        refine steps_cons ?_ ?_
        · rintro b a w' ⟨ha, Q_B0, Q_FIN⟩ hb_ hon hoff
          refine ⟨_, rfl, fun K hK => ?_⟩
          have e3 : a.tmps[3]? = some (.pointer (some ⟨g, 0, none⟩)) := by rw [ha]; exact (putSel_off rfl).trans rfl
          replace ha := Aside0.mk ha
          have B0 := Aside0.mk (Q_B0 (hoff 9 (by kernel_rfl)))
          have c_ := blk_cell (blk_below ZG.out B0.out) 0
          refine value_ (w1 := w') (v := .int .i64 op) (by rfl) rfl ?_ ?_
          · go_simp
            (try simp only [i64_w])
            try rfl
          refine hK.out _ _ ⟨(by rw [ha.out]; exact putSel_upk 5 hb_ rfl rfl rfl), Q_B0, fun h0_ => absurd ((hoff 9 (by kernel_rfl)).symm.trans h0_) (by decide)⟩
        refine steps_cons ?_ ?_
        · rintro b a w' ⟨ha, Q_B0, Q_FIN⟩ hb_ hon hoff
          refine ⟨_, rfl, fun K hK => ?_⟩
          have e21 : a.tmps[21]? = some (.int .i64 p.1.f0) := by rw [ha]; exact putSel_on (e := (4, 21, .int .i64 p.1.f0)) 4 rfl rfl (hon 4 (by kernel_rfl)) rfl
          have e22 : a.tmps[22]? = some (.int .i64 op) := by rw [ha]; exact putSel_on (e := (5, 22, .int .i64 op)) 5 rfl rfl (hon 5 (by kernel_rfl)) rfl
          replace ha := Aside0.mk ha
          have B0 := Aside0.mk (Q_B0 (hoff 9 (by kernel_rfl)))
          have q_ := HY.out
          refine value_ (w1 := w') (v := .int .i64 y) (by rfl) rfl ?_ ?_
          · go_simp
            (try simp only [i64_w])
            try rfl
          refine hK.out _ _ ⟨(by rw [ha.out]; exact putSel_upk 6 hb_ rfl rfl rfl), Q_B0, fun h0_ => absurd ((hoff 9 (by kernel_rfl)).symm.trans h0_) (by decide)⟩
        refine steps_cons ?_ ?_
        · rintro b a w' ⟨ha, Q_B0, Q_FIN⟩ hb_ hon hoff
          refine ⟨_, rfl, fun K hK => ?_⟩
          have e17 : a.tmps[17]? = some (.slice (some ⟨gr, 0, none⟩) n c3) := by rw [ha]; exact putSel_on (e := (0, 17, .slice (some ⟨gr, 0, none⟩) n c3)) 0 rfl rfl (hon 0 (by kernel_rfl)) rfl
          have e18 : a.tmps[18]? = some (.int .i64 (i : Int)) := by rw [ha]; exact putSel_on (e := (1, 18, .int .i64 (i : Int))) 1 rfl rfl (hon 1 (by kernel_rfl)) rfl
          replace ha := Aside0.mk ha
          have B0 := Aside0.mk (Q_B0 (hoff 9 (by kernel_rfl)))
          have p_ := HPQ.out.1
          have q_ := HPQ.out.2
          refine value_ (w1 := w') (v := .pointer (some ⟨gr, (i * 3), none⟩)) (by rfl) rfl ?_ ?_
          · go_simp
            (try simp only [i64_w])
            try rfl
          refine hK.out _ _ ⟨(by rw [ha.out]; exact putSel_upk 7 hb_ rfl rfl rfl), Q_B0, fun h0_ => absurd ((hoff 9 (by kernel_rfl)).symm.trans h0_) (by decide)⟩
        refine steps_cons ?_ ?_
        · rintro b a w' ⟨ha, Q_B0, Q_FIN⟩ hb_ hon hoff
          refine ⟨_, rfl, fun K hK => ?_⟩
          have e24 : a.tmps[24]? = some (.pointer (some ⟨gr, (i * 3), none⟩)) := by rw [ha]; exact putSel_on (e := (7, 24, .pointer (some ⟨gr, (i * 3), none⟩))) 7 rfl rfl (hon 7 (by kernel_rfl)) rfl
          replace ha := Aside0.mk ha
          have B0 := Aside0.mk (Q_B0 (hoff 9 (by kernel_rfl)))
          refine value_ (w1 := w') (v := .pointer (some ⟨gr, (i * 3), none⟩)) (by rfl) rfl ?_ ?_
          · go_simp
            (try simp only [i64_w])
            try rfl
          refine hK.out _ _ ⟨(by rw [ha.out]; exact putSel_upk 8 hb_ rfl rfl rfl), Q_B0, fun h0_ => absurd ((hoff 9 (by kernel_rfl)).symm.trans h0_) (by decide)⟩
        refine steps_cons ?_ ?_
        · rintro b a w' ⟨ha, Q_B0, Q_FIN⟩ hb_ hon hoff
          refine ⟨_, rfl, fun K hK => ?_⟩
          have e25 : a.tmps[25]? = some (.pointer (some ⟨gr, (i * 3), none⟩)) := by rw [ha]; exact putSel_on (e := (8, 25, .pointer (some ⟨gr, (i * 3), none⟩))) 8 rfl rfl (hon 8 (by kernel_rfl)) rfl
          have e23 : a.tmps[23]? = some (.int .i64 y) := by rw [ha]; exact putSel_on (e := (6, 23, .int .i64 y)) 6 rfl rfl (hon 6 (by kernel_rfl)) rfl
          replace ha := Aside0.mk ha
          have B0 := Aside0.mk (Q_B0 hb_)
          have c_ := (B0.out.cell (World.block_lt_of_cell? wr _ HCE.out)).trans HCE.out
          have fr_ := (B0.out.frozen (World.block_lt_of_cell? wr _ HCE.out)).trans HFZ.out
          refine skip_ (w1 := ?_) (by rfl) rfl ?_ ?_
          rotate_left
          · go_simp
            rfl
          refine hK.out _ _ ⟨(by rw [ha.out]; exact putSel_none (v := undef) rfl), fun h0_ => absurd ((up_self b 9).symm.trans h0_) (by decide), fun _ => ⟨_, B0.out, rfl⟩⟩
        exact steps_nil
      rintro b a w6 hall ⟨ha, Q_B0, Q_FIN⟩
      clear B0
      have hb0_ := hall 0 (by kernel_rfl)
      have hb1_ := hall 1 (by kernel_rfl)
      have hb2_ := hall 2 (by kernel_rfl)
      have hb3_ := hall 3 (by kernel_rfl)
      have hb4_ := hall 4 (by kernel_rfl)
      have hb5_ := hall 5 (by kernel_rfl)
      have hb6_ := hall 6 (by kernel_rfl)
      have hb7_ := hall 7 (by kernel_rfl)
      have hb8_ := hall 8 (by kernel_rfl)
      have hb9_ := hall 9 (by kernel_rfl)
      subst ha
      simp only [putSel, hb0_, hb1_, hb2_, hb3_, hb4_, hb5_, hb6_, hb7_, hb8_, hb9_, if_true, Act.put, List.setIfInBounds_toArray, List.set_cons_zero, List.set_cons_succ]
      clear Q_B0
      have FIN := Aside0.mk (Q_FIN hb9_)
      clear Q_FIN
      clear hall hb0_ hb1_ hb2_ hb3_ hb4_ hb5_ hb6_ hb7_ hb8_ hb9_
      obtain ⟨wb, hwb, hwe⟩ := FIN.out
      have ho1 := (HO.out.kept (grown_of_below hwb none) (.inr (by simp [Value.ownBlock]))).stored (i * 3) (.int .i64 y)
      have hpt := turned_at (op := op) HP.out
      rw [encs_set _ i (recOf p) y (by rw [List.getElem?_map, hpt]; rfl)] at ho1
      have he : ((turned op ps i).map recOf).set i { recOf p with nr := y } = (turned op ps (i + 1)).map recOf := by
        rw [turned_succ HP.out, List.map_set, HY2.out]
        rfl
      rw [he, ← hwe] at ho1
      have HO1 := Aside0.mk ho1.1
      have hm1 : ∀ q ∈ turned op ps (i + 1), q.made w6 W2.heap.size (fun k => W2.heap.size ≤ k ∧ some k ≠ (Value.slice (some ⟨gr, 0, none⟩) n c3).ownBlock) := by
        have key : ∀ q ∈ turned op ps i, q.made w6 W2.heap.size (fun k => W2.heap.size ≤ k ∧ some k ≠ (Value.slice (some ⟨gr, 0, none⟩) n c3).ownBlock) := fun q hq => by
          rw [hwe]
          exact Kd.R_far (p := ⟨gr, i * 3, none⟩) (Kd.R_below (HM.out q hq) hwb) (fun k hk => by
            have h := hk.2
            show k ≠ gr
            intro e
            exact h (by rw [e]; rfl)) (.int .i64 y)
        intro q hq
        rw [turned_succ HP.out] at hq
        rcases List.mem_or_eq_of_mem_set hq with hq | hq
        · exact key q hq
        · have h := key p (List.mem_of_getElem? hpt)
          rw [hq]
          exact h
      have HM1 := Aside0.mk hm1
      have hgb2 : w.heap.size ≤ gr := Nat.le_trans HB2.out.size hgb
      have HB6 : Aside0 (Below w.heap.size w w6) := ⟨by rw [hwe]; exact (below_then BB.out BB.out.size hwb).setCell (p := ⟨gr, i * 3, none⟩) hgb2 (.int .i64 y)⟩
      have HZ6 : Aside0 (w6.heap[g]? = some (.cells #[.int .i64 op] 3 (0, 0))) := ⟨by rw [hwe]; exact (blk_far (blk_below ZG.out hwb) (p := ⟨gr, i * 3, none⟩) (by have := HGW.out; show g ≠ gr; omega) (.int .i64 y)).trans rfl⟩
      have hw3 : IntKind.i64.wrap ((i : Int) + 1) = (i : Int) + 1 := (ND.wrap_id (by omega) (by have := HI2.out; have := HNL.out; omega)).1
      clear hwb hwe ho1 hpt he hm1 hgb2 FIN
      go_wp2_with fail
      go_roundg (n - i)
      case measure => have := HI.out; have := HI2.out; omega
      case rel => exact ⟨i + 1, by first | rfl | go_num, ⟨by have := HI2.out; omega, by have := HI.out; have := HI2.out; omega⟩, HO1, HM1, HB6, HZ6⟩
end Go.Proofs.Ytnchdmidaigheaa.QS
namespace Go.Proofs.Ytnchdmidaigheaa.Hp
open Go.RowKit Go.Proofs.YtnchdmidaigheaaW.PrintWords Go.Proofs.YtnchdmidaigheaaW.PrintLast Go.Proofs.YtnchdmidaigheaaW.PrintMore
attribute [local go_sem] max2_int min2_int max_two min_two max_three min_three max_four min_four   -- for this text's walks alone
set_option linter.unusedVariables false
set_option linter.unusedSimpArgs false
end Go.Proofs.Ytnchdmidaigheaa.Hp
namespace Go.Proofs.Ytnchdmidaigheaa.QS
set_option linter.unusedVariables false
set_option linter.unusedSimpArgs false
open Go.RowKit Go.Proofs.Ytnchdmidaigheaa.SS Go.Proofs.Ytnchdmidaigheaa.Hp Go.Proofs.YtnchdmidaigheaaW.PrintWords Go.Proofs.YtnchdmidaigheaaW.PrintLast Go.Proofs.YtnchdmidaigheaaW.PrintMore
theorem ssort_take {l : List R0} {i : Nat} (hi : i < l.length) : ssort ltS (l.take (i + 1)) = put ltS l[i] (ssort ltS (l.take i)) := by
  rw [List.take_add_one, List.getElem?_eq_getElem hi]
  exact ssort_snoc ltS (l.take i) l[i]
end Go.Proofs.Ytnchdmidaigheaa.QS
namespace Go.Proofs.Ytnchdmidaigheaa.ND
set_option linter.unusedVariables false
set_option linter.unusedSimpArgs false
open Go.RowKit Go.Proofs.Ytnchdmidaigheaa.Hp Go.Proofs.YtnchdmidaigheaaW.PrintWords Go.Proofs.YtnchdmidaigheaaW.PrintLast Go.Proofs.YtnchdmidaigheaaW.PrintMore
structure XLay where
  g : Nat
  gp : Nat
  gn : Nat
  gw : Nat
  cp : Nat
  cn : Nat
  cw : Nat
  Am : Option Addr
  cm : Nat
  Af : Option Addr
  cf : Nat
def XLay.S (L : XLay) (k : Nat) : Prop := k = L.g ∨ k = L.gp ∨ k = L.gn ∨ k = L.gw
def XLay.top (L : XLay) (D : Dv) : Array Value := #[.int .i64 D.B, .int .i64 D.P, .int .i64 D.C, .slice L.Am D.bad.length L.cm, .slice (some ⟨L.gp, 0, none⟩) D.pages.length L.cp, .slice (some ⟨L.gn, 0, none⟩) D.next.length L.cn, .slice (some ⟨L.gw, 0, none⟩) D.wear.length L.cw, .slice L.Af D.faults.length L.cf, .int .i64 D.ops, .bool D.down]
def texts (l : List (List Int)) : List Value := l.map fun x => .string (strOfNums x)
structure XV (W : World) (ok : Nat → Prop) (L : XLay) (D : Dv) : Prop where
  top : W.heap[L.g]? = some (.cells (L.top D) 54 (0, 0))
  nx : Cells W L.gn 3 (D.next.map (Value.int .i64))
  we : Cells W L.gw 3 (D.wear.map (Value.int .i64))
  pg : Cells W L.gp 9 (texts D.pages)
  mb : Kd.F (Kd.int .i64) W ok L.Am D.bad.length D.bad ∧ D.bad.length ≤ L.cm
  fl : Kd.F k65 W ok L.Af D.faults.length D.faults ∧ D.faults.length ≤ L.cf
  ne : L.gp ≠ L.g ∧ L.gn ≠ L.g ∧ L.gw ≠ L.g ∧ L.gp ≠ L.gn ∧ L.gp ≠ L.gw ∧ L.gn ≠ L.gw
  no : ∀ k, ok k → k < W.heap.size → ¬ L.S k
  ok : D.Ok
section
variable {W W' : World} {ok : Nat → Prop} {L : XLay} {D : Dv}
theorem XV.lt (h : XV W ok L D) : ∀ k, L.S k → k < W.heap.size := by
  rintro k (rfl | rfl | rfl | rfl)
  · exact blk_lt h.top
  · exact h.pg.lt
  · exact h.nx.lt
  · exact h.we.lt
theorem XV.step (h : XV W ok L D) (hm : ∀ k, ok k ∨ L.S k → k < W.heap.size → W'.heap[k]? = W.heap[k]?) (hn : ∀ k, ok k → k < W'.heap.size → ¬ L.S k) : XV W' ok L D where
  top := (hm _ (.inr (.inl rfl)) (blk_lt h.top)).trans h.top
  nx := h.nx.same (hm _ (.inr (.inr (.inr (.inl rfl)))) h.nx.lt)
  we := h.we.same (hm _ (.inr (.inr (.inr (.inr rfl)))) h.we.lt)
  pg := h.pg.same (hm _ (.inr (.inr (.inl rfl))) h.pg.lt)
  mb := ⟨Kd.F_step h.mb.1 (fun k hk hl => hm k (.inl hk) hl), h.mb.2⟩
  fl := ⟨Kd.F_step h.fl.1 (fun k hk hl => hm k (.inl hk) hl), h.fl.2⟩
  ne := h.ne
  no := hn
  ok := h.ok
theorem XV.turn {S : Nat → Prop} (h : XV W ok L D) (ht : Turn W W' S) (hS : ∀ k, ok k ∨ L.S k → k < W.heap.size → ¬ S k) : XV W' ok L D :=
  h.step (fun k hk hl => ht.block k hl (hS k hk hl)) (fun k hk _ hS' => h.no k hk (h.lt k hS') hS')
theorem XV.below (h : XV W ok L D) (hb : Below W.heap.size W W') : XV W' ok L D := h.turn (Turn.of_below hb (fun _ => False)) (fun _ _ _ hf => hf)
theorem XV.bound (h : XV W ok L D) : XV W (fun k => ok k ∧ k < W.heap.size) L D where
  top := h.top
  nx := h.nx
  we := h.we
  pg := h.pg
  mb := ⟨Kd.F_bound h.mb.1, h.mb.2⟩
  fl := ⟨Kd.F_bound h.fl.1, h.fl.2⟩
  ne := h.ne
  no := fun k hk hl => h.no k hk.1 hl
  ok := h.ok
theorem XV.ro (h : XV W ok L D) {p : Addr} (hp : L.S p.block) (u : Value) : ∀ k, ok k → k < W.heap.size → (W.setCell p u).heap[k]? = W.heap[k]? := fun k hk hl => Below.heap_setCell W p u k (fun e => h.no k hk hl (e ▸ hp))
theorem XV.set_down (h : XV W ok L D) (x : Bool) : XV (W.setCell ⟨L.g, 9, none⟩ (.bool x)) ok L { D with down := x } where
  top := blk_put h.top 9 (.bool x) rfl
  nx := h.nx.far h.ne.2.1 _
  we := h.we.far h.ne.2.2.1 _
  pg := h.pg.far h.ne.1 _
  mb := ⟨Kd.F_step h.mb.1 (h.ro (.inl rfl) _), h.mb.2⟩
  fl := ⟨Kd.F_step h.fl.1 (h.ro (.inl rfl) _), h.fl.2⟩
  ne := h.ne
  no := fun k hk hl => h.no k hk (by simpa using hl)
  ok := { h.ok with }
theorem XV.set_ops (h : XV W ok L D) (x : Int) : XV (W.setCell ⟨L.g, 8, none⟩ (.int .i64 x)) ok L { D with ops := x } where
  top := blk_put h.top 8 (.int .i64 x) rfl
  nx := h.nx.far h.ne.2.1 _
  we := h.we.far h.ne.2.2.1 _
  pg := h.pg.far h.ne.1 _
  mb := ⟨Kd.F_step h.mb.1 (h.ro (.inl rfl) _), h.mb.2⟩
  fl := ⟨Kd.F_step h.fl.1 (h.ro (.inl rfl) _), h.fl.2⟩
  ne := h.ne
  no := fun k hk hl => h.no k hk (by simpa using hl)
  ok := { h.ok with }
theorem XV.set_next (h : XV W ok L D) (n : Nat) (x : Int) (hx : 0 ≤ x ∧ x ≤ D.P) : XV (W.setCell ⟨L.gn, n, none⟩ (.int .i64 x)) ok L { D with next := D.next.set n x } where
  top := by
    have := blk_far h.top (p := ⟨L.gn, n, none⟩) h.ne.2.1.symm (.int .i64 x)
    rw [this]
    unfold XLay.top
    simp only [List.length_set]
  nx := by
    have := h.nx.set n (.int .i64 x)
    rwa [← List.map_set] at this
  we := h.we.far (p := ⟨L.gn, n, none⟩) h.ne.2.2.2.2.2.symm _
  pg := h.pg.far (p := ⟨L.gn, n, none⟩) h.ne.2.2.2.1 _
  mb := ⟨Kd.F_step h.mb.1 (h.ro (.inr (.inr (.inl rfl))) _), h.mb.2⟩
  fl := ⟨Kd.F_step h.fl.1 (h.ro (.inr (.inr (.inl rfl))) _), h.fl.2⟩
  ne := h.ne
  no := fun k hk hl => h.no k hk (by simpa using hl)
  ok := { h.ok with
    nl := by show ((D.next.set _ _).length : Int) = _; rw [List.length_set]; exact h.ok.nl
    nr := fun y hy => by
      rcases List.mem_or_eq_of_mem_set hy with h' | h'
      · exact h.ok.nr y h'
      · rw [h']; exact hx }
theorem XV.set_wear (h : XV W ok L D) (n : Nat) (x : Int) (hx : -9223372036854775808 ≤ x ∧ x ≤ 9223372036854775807) : XV (W.setCell ⟨L.gw, n, none⟩ (.int .i64 x)) ok L { D with wear := D.wear.set n x } where
  top := by
    have := blk_far h.top (p := ⟨L.gw, n, none⟩) h.ne.2.2.1.symm (.int .i64 x)
    rw [this]
    unfold XLay.top
    simp only [List.length_set]
  nx := h.nx.far (p := ⟨L.gw, n, none⟩) h.ne.2.2.2.2.2 _
  we := by
    have := h.we.set n (.int .i64 x)
    rwa [← List.map_set] at this
  pg := h.pg.far (p := ⟨L.gw, n, none⟩) h.ne.2.2.2.2.1 _
  mb := ⟨Kd.F_step h.mb.1 (h.ro (.inr (.inr (.inr rfl))) _), h.mb.2⟩
  fl := ⟨Kd.F_step h.fl.1 (h.ro (.inr (.inr (.inr rfl))) _), h.fl.2⟩
  ne := h.ne
  no := fun k hk hl => h.no k hk (by simpa using hl)
  ok := { h.ok with
    wl := by show ((D.wear.set _ _).length : Int) = _; rw [List.length_set]; exact h.ok.wl
    wr := fun y hy => by
      rcases List.mem_or_eq_of_mem_set hy with h' | h'
      · exact h.ok.wr y h'
      · rw [h']; exact hx }
theorem XV.set_page (h : XV W ok L D) (n : Nat) {l : List Int} (hl : isBytes l ∧ l.length = 256) : XV (W.setCell ⟨L.gp, n, none⟩ (.string (strOfNums l))) ok L { D with pages := D.pages.set n l } where
  top := by
    have := blk_far h.top (p := ⟨L.gp, n, none⟩) h.ne.1.symm (.string (strOfNums l))
    rw [this]
    unfold XLay.top
    simp only [List.length_set]
  nx := h.nx.far (p := ⟨L.gp, n, none⟩) h.ne.2.2.2.1.symm _
  we := h.we.far (p := ⟨L.gp, n, none⟩) h.ne.2.2.2.2.1.symm _
  pg := by
    have := h.pg.set n (.string (strOfNums l))
    unfold texts at this ⊢
    rwa [← List.map_set] at this
  mb := ⟨Kd.F_step h.mb.1 (h.ro (.inr (.inl rfl)) _), h.mb.2⟩
  fl := ⟨Kd.F_step h.fl.1 (h.ro (.inr (.inl rfl)) _), h.fl.2⟩
  ne := h.ne
  no := fun k hk hl => h.no k hk (by simpa using hl)
  ok := { h.ok with
    pl := by show ((D.pages.set _ _).length : Int) = _; rw [List.length_set]; exact h.ok.pl
    pw := fun y hy => by
      rcases List.mem_or_eq_of_mem_set hy with h' | h'
      · exact h.ok.pw y h'
      · rw [h']; exact hl }
end
end Go.Proofs.Ytnchdmidaigheaa.ND
namespace Go.Proofs.Ytnchdmidaigheaa.Hp
open Go.RowKit Go.Proofs.YtnchdmidaigheaaW.PrintWords Go.Proofs.YtnchdmidaigheaaW.PrintLast Go.Proofs.YtnchdmidaigheaaW.PrintMore
attribute [local go_sem] max2_int min2_int max_two min_two max_three min_three max_four min_four   -- for this text's walks alone
set_option linter.unusedVariables false
set_option linter.unusedSimpArgs false
def wagtailref13_Has.l0 : Nat → List Int → Int → Int → Option (Bool)
  | 0, _, _, _ => none
  | k + 1, x0, x1, x5 => if x5 < (x0.length : Int) then (if 0 ≤ x5 then (if (rd x0 x5) = x1 then (some true) else (wagtailref13_Has.l0 k x0 x1 (wrap64 (x5 + 1)))) else (none)) else (some false)
def wagtailref13_Has.f (k : Nat) (l0 : List Int) (a1 : Int) : Option (Bool) := wagtailref13_Has.l0 k l0 a1 0
theorem wagtailref13_Has.mono_l : ∀ k, (∀ y0 y1 y2, LeO (wagtailref13_Has.l0 k y0 y1 y2) (wagtailref13_Has.l0 (k + 1) y0 y1 y2))
  | 0 => fun _ _ _ r h => by simp [wagtailref13_Has.l0] at h
  | k + 1 => by
    have ih0 := wagtailref13_Has.mono_l k
    · intro y0 y1 y2
      unfold wagtailref13_Has.l0
      repeat' first
      | (with_reducible exact ih0 _ _ _)
      | (with_reducible exact LeO.refl _)
      | (with_reducible exact LeO.none _)
      | (with_reducible refine LeO.ite ?_ ?_)
      | (with_reducible refine LeO.bind ?_ (fun _ => ?_))
      | exact ih0 _ _ _
      | exact LeO.none _
      | refine LeO.ite ?_ ?_
      | refine LeO.bind ?_ (fun _ => ?_)
theorem wagtailref13_Has.mono : ∀ a0 a1 k, LeO (wagtailref13_Has.f k a0 a1) (wagtailref13_Has.f (k + 1) a0 a1) := by
  intro a0 a1 k
  have ih0 := wagtailref13_Has.mono_l k
  unfold wagtailref13_Has.f
  repeat' first
      | (with_reducible exact ih0 _ _ _)
      | (with_reducible exact LeO.refl _)
      | (with_reducible exact LeO.none _)
      | (with_reducible refine LeO.ite ?_ ?_)
      | (with_reducible refine LeO.bind ?_ (fun _ => ?_))
      | exact ih0 _ _ _
      | exact LeO.none _
      | refine LeO.ite ?_ ?_
      | refine LeO.bind ?_ (fun _ => ?_)
set_option maxHeartbeats 8000000 in
set_option maxRecDepth 100000 in
theorem wagtailref13_Has.calls (k : Nat) (A0 : Option Addr) (c0 : Nat) (l0 : List Int) (a1 : Int) (r : Bool) (w : World) (hr0 : Kd.C (Kd.int .i64) w A0 l0.length l0) (hc0 : l0.length ≤ c0) (h : wagtailref13_Has.f k l0 a1 = some r) :
    Calls Try.prog 44 #[.slice A0 l0.length c0, .int .i64 a1] w fun e w' => e = .returned (.bool r) ∧ Drawn0 w w' := by
  have HR0 := Aside0.mk hr0
  have HC0 := Aside0.mk hc0
  clear hr0 hc0
  have H : (wagtailref13_Has.l0 k l0 a1 0) = some r := h
  clear h
  have H' := Aside0.mk H
  clear H
  go_enter Try.func44, Try.ntmps44
  go_wp2
  go_loopg [5] k (fun kq v5 w' => ∃ (x5_1 : Int), v5 = .int .i64 x5_1 ∧ Aside0 (wagtailref13_Has.l0 kq l0 a1 x5_1 = some r) ∧ Aside0 (kq ≤ k) ∧ Drawn0 w w')
  case atStart => exact ⟨(0), (by first | rfl | (simp; done) | (simp [*]; done)), H', ⟨Nat.le_refl _⟩, by repeat (first | exact Drawn0.refl _ | apply Drawn0.step)⟩
  case round =>
    clear H'
    try clear p2
    obtain ⟨x5_1, rfl, HA, HK1, ⟨m1, rfl⟩⟩ := hrel
    cases gk with
    | zero => exact absurd HA.out (by simp [wagtailref13_Has.l0])
    | succ k1 =>
      have H := HA.out
      clear HA
      simp only [wagtailref13_Has.l0] at H
      by_cases c3 : x5_1 < (l0.length : Int)
      · rw [if_pos c3] at H
        have c3b0 : decide (x5_1 < (l0.length : Int)) = true := decide_eq_true c3
        clear c3
        by_cases c4 : 0 ≤ x5_1
        · rw [if_pos c4] at H
          have c4b0 : decide (0 ≤ x5_1) = true := decide_eq_true c4
          clear c4
          by_cases c5 : (rd l0 x5_1) = a1
          · rw [if_pos c5] at H
            have c5b0 : ((rd l0 x5_1) == a1) = true := beq_iff_eq.mpr c5
            have c5b1 : ((rd l0 x5_1) != a1) = false := bne_eq_false_iff_eq.mpr c5
            clear c5
            obtain rfl := Option.some.inj H
            have p155 : 0 ≤ (x5_1 : Int) := of_decide_eq_true (by first | (with_reducible assumption) | assumption)
            have q155 : x5_1 < (l0.length : Int) := of_decide_eq_true (by first | (with_reducible assumption) | assumption)
            obtain ⟨ad155, e155, hx155_0⟩ := Kd.at_int HR0.out x5_1 p155 q155
            cases e155
            replace p155 := eq_true p155
            replace q155 := eq_true q155
            go_wp2
            go_ret
            exact ⟨by first | rfl | (simp; done) | (simp [*]; done), by repeat (first | exact Drawn0.refl _ | apply Drawn0.step)⟩
          · rw [if_neg c5] at H
            have c5b0 : ((rd l0 x5_1) == a1) = false := beq_eq_false_iff_ne.mpr c5
            have c5b1 : ((rd l0 x5_1) != a1) = true := bne_iff_ne.mpr c5
            have H' := Aside0.mk H
            clear H
            have p155 : 0 ≤ (x5_1 : Int) := of_decide_eq_true (by first | (with_reducible assumption) | assumption)
            have q155 : x5_1 < (l0.length : Int) := of_decide_eq_true (by first | (with_reducible assumption) | assumption)
            obtain ⟨ad155, e155, hx155_0⟩ := Kd.at_int HR0.out x5_1 p155 q155
            cases e155
            replace p155 := eq_true p155
            replace q155 := eq_true q155
            go_wp2
            go_roundg k1
            case measure => have := HK1.out; omega
            case rel => exact ⟨(wrap64 (x5_1 + 1)), (by first | rfl | (simp; done) | (simp [*]; done)), H', ⟨by have := HK1.out; omega⟩, by repeat (first | exact Drawn0.refl _ | apply Drawn0.step)⟩
        · rw [if_neg c4] at H
          exact absurd H (by simp)
      · rw [if_neg c3] at H
        have c3b0 : decide (x5_1 < (l0.length : Int)) = false := decide_eq_false c3
        clear c3
        obtain rfl := Option.some.inj H
        go_wp2
        go_ret
        exact ⟨by first | rfl | (simp; done) | (simp [*]; done), by repeat (first | exact Drawn0.refl _ | apply Drawn0.step)⟩
end Go.Proofs.Ytnchdmidaigheaa.Hp
namespace Go.Proofs.Ytnchdmidaigheaa.ND
set_option linter.unusedVariables false
set_option linter.unusedSimpArgs false
open Go.RowKit Go.Proofs.Ytnchdmidaigheaa.Hp Go.Proofs.YtnchdmidaigheaaW.PrintWords Go.Proofs.YtnchdmidaigheaaW.PrintLast Go.Proofs.YtnchdmidaigheaaW.PrintMore
theorem has_ev (l : List Int) (x : Int) (hl : l.length ≤ 100000) : ∀ (d i : Nat), i + d = l.length → Ev (fun k => wagtailref13_Has.l0 k l x (i : Int)) ((l.drop i).any fun y => y == x)
  | 0, i, hd => by
    refine Ev.step (f := fun k => some false) (fun k => ?_) ?_
    · simp only [wagtailref13_Has.l0]
      rw [if_neg (by omega)]
    · rw [List.drop_of_length_le (by omega)]
      exact Ev.now _
  | d + 1, i, hd => by
    have hi : i < l.length := by omega
    have e2 : wrap64 ((i : Int) + 1) = ((i + 1 : Nat) : Int) := by unfold wrap64; omega
    have hr : rd l (i : Int) = l[i] := by unfold rd; rw [Int.toNat_natCast, List.getD_eq_getElem?_getD, List.getElem?_eq_getElem hi]; rfl
    refine Ev.step (f := fun k => if l[i] = x then some true else wagtailref13_Has.l0 k l x ((i + 1 : Nat) : Int)) (fun k => ?_) ?_
    · simp only [wagtailref13_Has.l0]
      rw [if_pos (by omega), if_pos (by omega), hr, e2]
    · rw [List.drop_eq_getElem_cons hi, List.any_cons]
      by_cases h : l[i] = x
      · refine Ev.congr (fun k => if_pos h) ?_
        rw [show (l[i] == x) = true by simpa using h, Bool.true_or]
        exact Ev.now _
      · refine Ev.congr (fun k => if_neg h) ?_
        rw [show (l[i] == x) = false by simpa using h, Bool.false_or]
        exact has_ev l x hl d (i + 1) (by omega)
end Go.Proofs.Ytnchdmidaigheaa.ND
namespace Go.Proofs.Ytnchdmidaigheaa.ND
set_option linter.unusedVariables false
set_option linter.unusedSimpArgs false
open Go.RowKit Go.Proofs.Ytnchdmidaigheaa.Hp Go.Proofs.YtnchdmidaigheaaW.PrintWords Go.Proofs.YtnchdmidaigheaaW.PrintLast Go.Proofs.YtnchdmidaigheaaW.PrintMore
end Go.Proofs.Ytnchdmidaigheaa.ND
namespace Go.Proofs.Ytnchdmidaigheaa.Hp
open Go.RowKit Go.Proofs.YtnchdmidaigheaaW.PrintWords Go.Proofs.YtnchdmidaigheaaW.PrintLast Go.Proofs.YtnchdmidaigheaaW.PrintMore
attribute [local go_sem] max2_int min2_int max_two min_two max_three min_three max_four min_four   -- for this text's walks alone
set_option linter.unusedVariables false
set_option linter.unusedSimpArgs false
end Go.Proofs.Ytnchdmidaigheaa.Hp
namespace Go.Proofs.Ytnchdmidaigheaa.Hp
open Go.RowKit Go.Proofs.YtnchdmidaigheaaW.PrintWords Go.Proofs.YtnchdmidaigheaaW.PrintLast Go.Proofs.YtnchdmidaigheaaW.PrintMore
attribute [local go_sem] max2_int min2_int max_two min_two max_three min_three max_four min_four   -- for this text's walks alone
set_option linter.unusedVariables false
set_option linter.unusedSimpArgs false
def IsS54 (w0 W : World) (g : Nat) (f0 : Int) (f1 : Int) (f2 : Int) (f3 : List Int) (f4 : List ByteArray) (f5 : List Int) (f6 : List Int) (f7 : List (S65)) (f8 : Int) (f9 : Bool) : Prop := ∃ A3 c3, ∃ A4 c4, ∃ A5 c5, ∃ A6 c6, ∃ A7 c7, W.heap[g]? = some (.cells #[.int .i64 f0, .int .i64 f1, .int .i64 f2, .slice A3 f3.length c3, .slice A4 f4.length c4, .slice A5 f5.length c5, .slice A6 f6.length c6, .slice A7 f7.length c7, .int .i64 f8, .bool f9] 54 (0, 0)) ∧ w0.heap.size ≤ g ∧ Kd.C (Kd.int .i64) w0 A3 f3.length f3 ∧ Kd.C Kd.string w0 A4 f4.length f4 ∧ Kd.C (Kd.int .i64) w0 A5 f5.length f5 ∧ Kd.C (Kd.int .i64) w0 A6 f6.length f6 ∧ Kd.C k65 w0 A7 f7.length f7
theorem IsS54.grown {w0 W : World} {g : Nat} {f0 : Int} {f1 : Int} {f2 : Int} {f3 : List Int} {f4 : List ByteArray} {f5 : List Int} {f6 : List Int} {f7 : List (S65)} {f8 : Int} {f9 : Bool} {W1 : World} {row : Option Nat} (h : IsS54 w0 W g f0 f1 f2 f3 f4 f5 f6 f7 f8 f9) (hw : W.grownBy W1 row) (hne : some g ≠ row) : IsS54 w0 W1 g f0 f1 f2 f3 f4 f5 f6 f7 f8 f9 := by
  obtain ⟨A3, c3, A4, c4, A5, c5, A6, c6, A7, c7, hb, hg, hr3, hr4, hr5, hr6, hr7⟩ := h
  exact ⟨A3, c3, A4, c4, A5, c5, A6, c6, A7, c7, blk_grown hb hw hne, hg, hr3, hr4, hr5, hr6, hr7⟩
theorem IsS54.kept {w0 W : World} {g : Nat} {f0 : Int} {f1 : Int} {f2 : Int} {f3 : List Int} {f4 : List ByteArray} {f5 : List Int} {f6 : List Int} {f7 : List (S65)} {f8 : Int} {f9 : Bool} {W1 : World} {S : Nat → Prop} (h : IsS54 w0 W g f0 f1 f2 f3 f4 f5 f6 f7 f8 f9) (hk : Kept W W1 S) (hne : ¬ S g) : IsS54 w0 W1 g f0 f1 f2 f3 f4 f5 f6 f7 f8 f9 := by
  obtain ⟨A3, c3, A4, c4, A5, c5, A6, c6, A7, c7, hb, hg, hr3, hr4, hr5, hr6, hr7⟩ := h
  exact ⟨A3, c3, A4, c4, A5, c5, A6, c6, A7, c7, blk_kept hb hk hne, hg, hr3, hr4, hr5, hr6, hr7⟩
theorem IsS54.below {w0 W : World} {g : Nat} {f0 : Int} {f1 : Int} {f2 : Int} {f3 : List Int} {f4 : List ByteArray} {f5 : List Int} {f6 : List Int} {f7 : List (S65)} {f8 : Int} {f9 : Bool} {W1 : World} (h : IsS54 w0 W g f0 f1 f2 f3 f4 f5 f6 f7 f8 f9) (hw : Below W.heap.size W W1) : IsS54 w0 W1 g f0 f1 f2 f3 f4 f5 f6 f7 f8 f9 := h.grown (grown_of_below hw none) (by simp)
theorem IsS54.alloc {w0 W : World} {g : Nat} {f0 : Int} {f1 : Int} {f2 : Int} {f3 : List Int} {f4 : List ByteArray} {f5 : List Int} {f6 : List Int} {f7 : List (S65)} {f8 : Int} {f9 : Bool} (h : IsS54 w0 W g f0 f1 f2 f3 f4 f5 f6 f7 f8 f9) (o : Obj) : IsS54 w0 (W.alloc o) g f0 f1 f2 f3 f4 f5 f6 f7 f8 f9 := h.below (below_alloc (Below.refl _ _) o)
theorem IsS54.drewN {w0 W : World} {g : Nat} {f0 : Int} {f1 : Int} {f2 : Int} {f3 : List Int} {f4 : List ByteArray} {f5 : List Int} {f6 : List Int} {f7 : List (S65)} {f8 : Int} {f9 : Bool} (h : IsS54 w0 W g f0 f1 f2 f3 f4 f5 f6 f7 f8 f9) (m : Nat) : IsS54 w0 (W.drewN m) g f0 f1 f2 f3 f4 f5 f6 f7 f8 f9 := h
theorem IsS54.drew {w0 W : World} {g : Nat} {f0 : Int} {f1 : Int} {f2 : Int} {f3 : List Int} {f4 : List ByteArray} {f5 : List Int} {f6 : List Int} {f7 : List (S65)} {f8 : Int} {f9 : Bool} (h : IsS54 w0 W g f0 f1 f2 f3 f4 f5 f6 f7 f8 f9) : IsS54 w0 W.drew g f0 f1 f2 f3 f4 f5 f6 f7 f8 f9 := h
theorem IsS54.at_ {w0 W : World} {g : Nat} {f0 : Int} {f1 : Int} {f2 : Int} {f3 : List Int} {f4 : List ByteArray} {f5 : List Int} {f6 : List Int} {f7 : List (S65)} {f8 : Int} {f9 : Bool} {w' : World} {m : Nat} (hq : W.drewN m = w') (h : IsS54 w0 W g f0 f1 f2 f3 f4 f5 f6 f7 f8 f9) : IsS54 w0 w' g f0 f1 f2 f3 f4 f5 f6 f7 f8 f9 := by subst hq; exact IsS54.drewN h m
theorem IsS54.apart {w0 W : World} {g : Nat} {f0 : Int} {f1 : Int} {f2 : Int} {f3 : List Int} {f4 : List ByteArray} {f5 : List Int} {f6 : List Int} {f7 : List (S65)} {f8 : Int} {f9 : Bool} {α : Type} {d : Kd α} {e : Nat} {base : Nat} {ok : Nat → Prop} {v : Value} {xs : List α} (h : IsS54 w0 W g f0 f1 f2 f3 f4 f5 f6 f7 f8 f9) (ho : d.R e W base ok v xs) (ht : ∀ q, q ∈ e :: d.E → q ≠ 54) : d.R e W base (fun k => ok k ∧ k ≠ g) v xs := by
  obtain ⟨A3, c3, A4, c4, A5, c5, A6, c6, A7, c7, hb, hg, hr3, hr4, hr5, hr6, hr7⟩ := h
  exact Kd.R_types ho hb ht
theorem IsS54.lt {w0 W : World} {g : Nat} {f0 : Int} {f1 : Int} {f2 : Int} {f3 : List Int} {f4 : List ByteArray} {f5 : List Int} {f6 : List Int} {f7 : List (S65)} {f8 : Int} {f9 : Bool} (h : IsS54 w0 W g f0 f1 f2 f3 f4 f5 f6 f7 f8 f9) : g < W.heap.size := by
  obtain ⟨A3, c3, A4, c4, A5, c5, A6, c6, A7, c7, hb, hg, hr3, hr4, hr5, hr6, hr7⟩ := h
  exact blk_lt hb
theorem IsS54.far {w0 W : World} {g : Nat} {f0 : Int} {f1 : Int} {f2 : Int} {f3 : List Int} {f4 : List ByteArray} {f5 : List Int} {f6 : List Int} {f7 : List (S65)} {f8 : Int} {f9 : Bool} {p : Addr} (h : IsS54 w0 W g f0 f1 f2 f3 f4 f5 f6 f7 f8 f9) (hne : g ≠ p.block) (u : Value) : IsS54 w0 (W.setCell p u) g f0 f1 f2 f3 f4 f5 f6 f7 f8 f9 := by
  obtain ⟨A3, c3, A4, c4, A5, c5, A6, c6, A7, c7, hb, hg, hr3, hr4, hr5, hr6, hr7⟩ := h
  exact ⟨A3, c3, A4, c4, A5, c5, A6, c6, A7, c7, blk_far hb hne u, hg, hr3, hr4, hr5, hr6, hr7⟩
end Go.Proofs.Ytnchdmidaigheaa.Hp
namespace Go.Proofs.Ytnchdmidaigheaa.Hp
open Go.RowKit Go.Proofs.YtnchdmidaigheaaW.PrintWords Go.Proofs.YtnchdmidaigheaaW.PrintLast Go.Proofs.YtnchdmidaigheaaW.PrintMore
attribute [local go_sem] max2_int min2_int max_two min_two max_three min_three max_four min_four   -- for this text's walks alone
set_option linter.unusedVariables false
set_option linter.unusedSimpArgs false
end Go.Proofs.Ytnchdmidaigheaa.Hp
namespace Go.Proofs.Ytnchdmidaigheaa.ND
set_option linter.unusedVariables false
set_option linter.unusedSimpArgs false
open Go.RowKit Go.Proofs.Ytnchdmidaigheaa.Hp Go.Proofs.YtnchdmidaigheaaW.PrintWords Go.Proofs.YtnchdmidaigheaaW.PrintLast Go.Proofs.YtnchdmidaigheaaW.PrintMore
end Go.Proofs.Ytnchdmidaigheaa.ND
namespace Go.Proofs.Ytnchdmidaigheaa.ND
set_option linter.unusedVariables false
set_option linter.unusedSimpArgs false
open Go.RowKit Go.Proofs.Ytnchdmidaigheaa.Hp Go.Proofs.YtnchdmidaigheaaW.PrintWords Go.Proofs.YtnchdmidaigheaaW.PrintLast Go.Proofs.YtnchdmidaigheaaW.PrintMore
end Go.Proofs.Ytnchdmidaigheaa.ND
namespace Go.Proofs.Ytnchdmidaigheaa.ND
set_option linter.unusedVariables false
set_option linter.unusedSimpArgs false
open Go.RowKit Go.Proofs.Ytnchdmidaigheaa.Hp Go.Proofs.YtnchdmidaigheaaW.PrintWords Go.Proofs.YtnchdmidaigheaaW.PrintLast Go.Proofs.YtnchdmidaigheaaW.PrintMore
def wipedTo (l : List (List Int)) (i0 : Nat) (m : List Int) (k : Nat) : List (List Int) := l.mapIdx fun i x => if i0 ≤ i ∧ i < i0 + k then wipeRow x m else x
theorem wipedTo_zero (l : List (List Int)) (i0 : Nat) (m : List Int) : wipedTo l i0 m 0 = l := by
  unfold wipedTo
  apply List.ext_getElem?
  intro j
  rw [List.getElem?_mapIdx]
  cases l[j]? with
  | none => rfl
  | some x => show some (ite _ _ _) = some x; rw [if_neg (by omega)]
theorem wipedTo_len (l : List (List Int)) (i0 : Nat) (m : List Int) (k : Nat) : (wipedTo l i0 m k).length = l.length := List.length_mapIdx
theorem wipedTo_at (l : List (List Int)) (i0 : Nat) (m : List Int) (k : Nat) : (wipedTo l i0 m k).getD (i0 + k) [] = l.getD (i0 + k) [] := by
  unfold wipedTo
  rw [List.getD_eq_getElem?_getD, List.getElem?_mapIdx, List.getD_eq_getElem?_getD]
  cases l[i0 + k]? with
  | none => rfl
  | some x => show ite _ _ _ = x; rw [if_neg (by omega)]
theorem wipedTo_succ (l : List (List Int)) (i0 : Nat) (m : List Int) (k : Nat) (h : i0 + k < l.length) : (wipedTo l i0 m k).set (i0 + k) (wipeRow (l.getD (i0 + k) []) m) = wipedTo l i0 m (k + 1) := by
  apply List.ext_getElem?
  intro j
  rw [List.getElem?_set, wipedTo_len]
  unfold wipedTo
  rw [List.getElem?_mapIdx, List.getElem?_mapIdx]
  by_cases hj : i0 + k = j
  · rw [if_pos hj, if_pos h, List.getD_eq_getElem?_getD, hj]
    rw [hj] at h
    rw [List.getElem?_eq_getElem h]
    show some _ = some (ite _ _ _)
    rw [if_pos (by omega)]
    rfl
  · rw [if_neg hj]
    cases l[j]? with
    | none => rfl
    | some x =>
      show some (ite _ _ _) = some (ite _ _ _)
      by_cases h1 : i0 ≤ j ∧ j < i0 + k
      · rw [if_pos h1, if_pos (by omega)]
      · rw [if_neg h1, if_neg (by omega)]
theorem wipedTo_all {D : Dv} (n i0 k : Nat) (m : List Int) (h0 : (i0 : Int) = (n : Int) * D.P) (hk : (k : Int) = D.P) : wipedTo D.pages i0 m k = wiped D (n : Int) m := by
  unfold wipedTo wiped
  apply List.ext_getElem?
  intro j
  rw [List.getElem?_mapIdx, List.getElem?_mapIdx]
  have e : ((n : Int) + 1) * D.P = (i0 : Int) + (k : Int) := by rw [Int.add_mul, Int.one_mul, ← h0, hk]
  cases D.pages[j]? with
  | none => rfl
  | some x =>
    show some (ite _ _ _) = some (ite _ _ _)
    rw [e, ← h0]
    by_cases h1 : i0 ≤ j ∧ j < i0 + k
    · rw [if_pos h1, if_pos (by omega)]
    · rw [if_neg h1, if_neg (by omega)]
def erase12.T12 : Bool × List (List Nat × List Nat) := (true, [([], []), ([0], [0]), ([1], [1]), ([2], [2]), ([], []), ([], []), ([5], [5]), ([6], [6]), ([7], [7]), ([8], [8]), ([3, 4, 0, 1, 2, 3, 4, 5, 6, 7, 8, 9], [3, 4]), ([10, 9, 0, 1, 2, 3, 4, 5, 6, 7, 8, 9], [9, 10])])
def erase12.B12 : List Nat := [0, 1, 3, 7, 0, 0, 32, 96, 224, 480, 1023, 2047]
theorem erase12.tab12 : rtab .any (opsOf Try.f16 12) = erase12.T12 := by kernel_rfl
theorem erase12.bits12 : waitsOk erase12.T12.2 erase12.B12 = true := by kernel_rfl
set_option maxHeartbeats 2000000 in
set_option maxRecDepth 100000 in
theorem erase_calls {W : World} {ok : Nat → Prop} {L : Lay} {D : Dv} (h : DV W ok L D) (bk : Int) :
    Calls Try.prog 16 #[.pointer (some ⟨L.g, 0, none⟩), .int .i64 bk] W fun e w' => e = .returned (.int .i64 (D.erase bk).1) ∧ DV w' (newer W ok) L (D.erase bk).2 ∧ Turn W w' L.S := by
  have H00 := Aside0.mk h
  obtain ⟨r, hr⟩ : ∃ r, r = D.erase bk := ⟨_, rfl⟩
  rw [← hr]
  have HRR := Aside0.mk hr
  have HU := Aside0.mk (up_calls h)
  clear hr h
  cases hd : D.down with
  | true =>
    rw [hd, if_pos rfl] at HU
    have HR1 : Aside0 (r = (9, D)) := ⟨by rw [HRR.out]; unfold Dv.erase; rw [if_pos hd]⟩
    clear hd
    go_enter Try.func16, Try.ntmps16
    go_wp2_with (go_at_call 63; refine HU.out.mono ?_; rintro e w3 ⟨rfl, hb⟩; have HB3 := Aside0.mk hb; clear hb)
    go_ret
    rw [HR1.out]
    exact ⟨rfl, (H00.out.below HB3.out).newer_ H00.out.lt, Turn.of_below HB3.out _⟩
  | false =>
    rw [hd, if_neg (by decide)] at HU
    have HD0 := Aside0.mk hd
    clear hd
    go_enter Try.func16, Try.ntmps16
    go_upto_region 4 with (go_at_call 63; refine HU.out.mono ?_; rintro e w3 ⟨rfl, hb⟩; have HB3 := Aside0.mk hb; clear hb)
    have HT := Aside0.mk (there_calls (H00.out.below HB3.out) bk)
    cases hh : D.there bk with
    | false =>
      rw [hh] at HT
      have HR1 : Aside0 (r = (3, D)) := ⟨by rw [HRR.out]; unfold Dv.erase; rw [if_neg (by rw [HD0.out]; decide), if_pos hh]⟩
      clear hh
      go_wp2_with (go_at_call 62; refine HT.out.mono ?_; rintro e w5 ⟨rfl, hb⟩; have HB5 := Aside0.mk (below_then HB3.out HB3.out.size hb); clear hb)
      go_ret
      rw [HR1.out]
      exact ⟨rfl, (H00.out.below HB5.out).newer_ H00.out.lt, Turn.of_below HB5.out _⟩
    | true =>
      rw [hh] at HT
      obtain ⟨h1, h2⟩ := there_iff.1 hh
      obtain ⟨n, rfl⟩ := Int.eq_ofNat_of_zero_le h1
      have HHH := Aside0.mk hh
      have HN := Aside0.mk h2
      obtain ⟨bm, hbm⟩ : ∃ x, x = D.mark (n : Int) := ⟨_, rfl⟩
      have HBM := Aside0.mk hbm
      clear hh h1 h2 hbm
      go_upto_region 6 with (go_at_call 62; refine HT.out.mono ?_; rintro e w5 ⟨rfl, hb⟩; have HB5 := Aside0.mk (below_then HB3.out HB3.out.size hb); clear hb)
      have H5 := Aside0.mk (H00.out.below HB5.out)
      have c3 := (top_cells H5.out).2.2.2.1
      have ce := H5.out.mb.cell (marks_at HN.out)
      rw [← HBM.out] at ce
      have p1 := eq_true (show (0 : Int) ≤ (n : Int) by omega)
      have q1 := eq_true (show (n : Int) < (((marks D).length : Nat) : Int) by rw [marks_len]; have := HN.out; omega)
      clear HT
      cases bm with
      | true =>
        have HR1 : Aside0 (r = (12, D)) := ⟨by rw [HRR.out]; unfold Dv.erase; rw [if_neg (by rw [HD0.out]; decide), if_neg (by rw [HHH.out]; decide), if_pos HBM.out.symm]⟩
        go_wp2_with fail
        go_ret
        rw [HR1.out]
        exact ⟨rfl, (H00.out.below HB5.out).newer_ H00.out.lt, Turn.of_below HB5.out _⟩
      | false =>
        have HR1 : Aside0 (r = (ended D.fault.1, D.eraseD (n : Int))) := ⟨by rw [HRR.out]; unfold Dv.erase; rw [if_neg (by rw [HD0.out]; decide), if_neg (by rw [HHH.out]; decide), if_neg (by rw [← HBM.out]; decide)]⟩
        go_upto_region 8 with fail
        have HBG := Aside0.mk (begin_calls H5.out)
        obtain ⟨kd, hkd⟩ : ∃ x, x = D.fault.1 := ⟨_, rfl⟩
        obtain ⟨m, hm⟩ : ∃ m, m = D.fault.2 := ⟨_, rfl⟩
        rw [← hkd, ← hm] at HBG
        have HKD := Aside0.mk hkd
        have HM := Aside0.mk hm
        clear hkd hm c3 ce q1
        go_upto_region 9 with (go_at_call 64; refine HBG.out.mono ?_; rintro e w10 ⟨A3, c3, rfl, hc3, hF3, hD3, hT3⟩; have HE3 := Aside0.mk (And.intro hc3 (And.intro hF3 (And.intro hD3 hT3))); clear hc3 hF3 hD3 hT3)
        have hz10 := heap_alloc_new w10 (.cells #[.slice A3 m.length c3] 38)
        have hb10 := below_alloc (Below.refl w10.heap.size w10) (.cells #[.slice A3 m.length c3] 38)
        have hn10 : ¬ L.S w10.heap.size := fun hS => by have := H00.out.lt _ hS; have := HB5.out.size; have := HE3.out.2.2.2.size; omega
        have H11 : Aside0 (DV _ ok L { D with ops := wrap64 (D.ops + 1) }) := ⟨HE3.out.2.2.1.below hb10⟩
        have T11 := Aside0.mk (((Turn.of_below HB5.out L.S).trans HE3.out.2.2.2 (fun k hk => .inl hk)).below hb10)
        have F11 := Aside0.mk (Kd.F_mono (Kd.F_below HE3.out.2.1 hb10) (newer_le HB5.out.size))
        have HC3 := Aside0.mk HE3.out.1
        generalize w10.alloc (.cells #[.slice A3 m.length c3] 38) = W11 at hz10 hb10 H11 T11 F11 ⊢
        generalize w10.heap.size = g10 at hz10 hn10 ⊢
        have Z11 := Aside0.mk hz10
        have HN10 := Aside0.mk hn10
        clear hz10 hb10 hn10 HBG HE3 H5
        obtain ⟨wv, hwv⟩ : ∃ x, x = D.wear.getD n 0 := ⟨_, rfl⟩
        have HWV := Aside0.mk hwv
        have H12 := Aside0.mk (H11.out.set_wear n (wrap64 (wv + 1)) (wrap_range _))
        have t12 := (Turn.refl W11 L.S).setCell (p := ⟨L.gw, n, none⟩) (.inl (.inr (.inr (.inr rfl)))) (.int .i64 (wrap64 (wv + 1)))
        have T12 := Aside0.mk (T11.out.trans t12 (fun k hk => .inl hk))
        have F12 := Aside0.mk (F_turn F11.out t12 (fun k hk _ => newer_no H00.out (Nat.le_refl _) k hk))
        have Z12 := Aside0.mk (blk_turn Z11.out t12 HN10.out)
        have c6 := (top_cells H11.out).2.2.2.2.2.2.1
        have ce := H11.out.we.cell (ints_at (l := D.wear) (n := n) (by have := H00.out.ok.wl; have := HN.out; omega))
        rw [← hwv] at ce
        clear hwv
        have fe := H11.out.we.frozen n
        have q1 := eq_true (show (n : Int) < ((D.wear.length : Nat) : Int) by have := H00.out.ok.wl; have := HN.out; omega)
        go_upto_region 10 with fail
        generalize W11.setCell ⟨L.gw, n, none⟩ (.int .i64 (wrap64 (wv + 1))) = W12 at H12 T12 F12 Z12 ⊢
        clear c6 ce fe q1 t12 H11 T11 F11 Z11
        obtain ⟨wr', hwr⟩ : ∃ x, x = D.wear.set n (wrap64 (wv + 1)) := ⟨_, rfl⟩
        have H12' : Aside0 (DV W12 ok L { D with ops := wrap64 (D.ops + 1), wear := wr' }) := ⟨by rw [hwr]; exact H12.out⟩
        have HWR := Aside0.mk hwr
        have H13 := Aside0.mk (H12'.out.set_next n 0 ⟨Int.le_refl _, by have := H00.out.ok.p1; show 0 ≤ D.P; omega⟩)
        have t13 := (Turn.refl W12 L.S).setCell (p := ⟨L.gn, n, none⟩) (.inl (.inr (.inr (.inl rfl)))) (.int .i64 0)
        have T13 := Aside0.mk (T12.out.trans t13 (fun k hk => .inl hk))
        have F13 := Aside0.mk (F_turn F12.out t13 (fun k hk _ => newer_no H00.out (Nat.le_refl _) k hk))
        have Z13 := Aside0.mk (blk_turn Z12.out t13 HN10.out)
        have c5 := (top_cells H12'.out).2.2.2.2.2.1
        have ce := H12'.out.nx.cell (ints_at (l := D.next) (n := n) (by have := H00.out.ok.nl; have := HN.out; omega))
        have fe := H12'.out.nx.frozen n
        have q1 := eq_true (show (n : Int) < ((D.next.length : Nat) : Int) by have := H00.out.ok.nl; have := HN.out; omega)
        clear hwr H12
        go_upto_region 11 with fail
        generalize W12.setCell ⟨L.gn, n, none⟩ (.int .i64 0) = W13 at H13 T13 F13 Z13 ⊢
        clear c5 ce fe q1 t13 H12' T12 F12 Z12
        obtain ⟨Pn, hPn⟩ := Int.eq_ofNat_of_zero_le (show 0 ≤ D.P by have := H00.out.ok.p1; omega)
        have hmb := mul_lt_of (a := (n : Int)) (b := D.B) (p := 0) (P := D.P) (by omega) HN.out (Int.le_refl _) (by have := H00.out.ok.p1; omega)
        obtain ⟨i0, hi0⟩ := Int.eq_ofNat_of_zero_le (show 0 ≤ (n : Int) * D.P by omega)
        have hmb2 := mul_lt_of (a := (n : Int)) (b := D.B) (p := D.P - 1) (P := D.P) (by omega) HN.out (by have := H00.out.ok.p1; omega) (by omega)
        have HIX : Aside0 ((i0 : Int) = (n : Int) * D.P ∧ (Pn : Int) = D.P ∧ i0 + Pn ≤ D.pages.length ∧ Pn ≤ 32) := ⟨hi0.symm, hPn.symm, by have := H00.out.ok.pl; omega, by have := H00.out.ok.p2; omega⟩
        have HWM : IntKind.i64.wrap ((n : Int) * D.P) = (i0 : Int) := by have := H00.out.ok.size; have := H00.out.ok.pl; have := HIX.out.2.2.1; rw [hi0, i64_w]; unfold wrap64; omega
        have HWM2 : wrap64 ((n : Int) * D.P) = (i0 : Int) := by rw [← i64_w]; exact HWM
        replace HWM := Aside0.mk HWM
        replace HWM2 := Aside0.mk HWM2
        clear hmb hmb2 hi0 hPn
        by_cases hk0 : kd = 0
        case pos =>
          have tk : (kd != 0) = false := by rw [hk0]; rfl
          have HK0 := Aside0.mk hk0
          clear hk0
          have H14 : Aside0 (DV W13 ok L { D with ops := wrap64 (D.ops + 1), wear := wr', next := D.next.set n 0 }) := H13
          obtain ⟨nx', hnx⟩ : ∃ x, x = D.next.set n 0 := ⟨_, rfl⟩
          rw [← hnx] at H14
          have HNX : Aside0 (nx' = D.next.set n (if D.fault.1 = 0 then 0 else D.P)) := ⟨by rw [if_pos (by rw [← HKD.out]; exact HK0.out)]; exact hnx⟩
          have T14 := T13
          have F14 := F13
          have Z14 := Z13
          clear hnx H13 T13 F13 Z13
          go_upto_region 13 with fail
          clear tk
          have c1 := (top_cells H14.out).2.1
          go_wp2_with fail
          clear c1
          go_loopg [65] (Pn + 1) (fun kq v65 w' => ∃ k : Nat, v65 = .int .i64 (k : Int) ∧ Aside0 (k ≤ Pn ∧ kq + k = Pn + 1) ∧ Aside0 (DV w' (newer W ok) L { D with ops := wrap64 (D.ops + 1), wear := wr', next := nx', pages := wipedTo D.pages i0 m k }) ∧ Aside0 (Turn W13 w' L.S))
          case atStart => exact ⟨0, rfl, ⟨Nat.zero_le _, rfl⟩, ⟨by rw [wipedTo_zero]; exact H14.out.newer_ H00.out.lt⟩, ⟨Turn.refl _ _⟩⟩
          case round =>
            obtain ⟨k, rfl, HI, HD, HT⟩ := hrel
            clear p1
            by_cases hk : (k : Int) < D.P
            case neg =>
              have t1 : decide ((k : Int) < D.P) = false := decide_eq_false hk
              have hkP : k = Pn := by have := HI.out.1; have := HIX.out.2.1; omega
              have HKP := Aside0.mk hkP
              have HEN := Aside0.mk (end_calls HD.out HD0.out kd (by rw [HKD.out]; exact fault_kind D))
              clear hk hkP
              go_wp2_with (go_at_call 68; refine HEN.out.mono ?_; rintro e w18 ⟨rfl, hD18, hT18⟩; have H18 := Aside0.mk hD18; have T18 := Aside0.mk ((T14.out.trans HT.out (fun k hk => .inl hk)).trans hT18 (fun k hk => .inl hk)); clear hD18 hT18)
              go_ret
              rw [HR1.out]
              have hE : D.eraseD (n : Int) = { D with ops := wrap64 (D.ops + 1), wear := wr', next := nx', pages := wipedTo D.pages i0 m k, down := kd == 2 } := by
                unfold Dv.eraseD
                rw [HKP.out, wipedTo_all n i0 Pn m HIX.out.1 HIX.out.2.1, HWR.out, HWV.out, HNX.out, HM.out, HKD.out]
                rfl
              refine ⟨by rw [HKD.out]; rfl, ?_, T18.out⟩
              show DV w18 (newer W ok) L (D.eraseD (n : Int))
              rw [hE]
              exact H18.out
            case pos =>
              have t1 : decide ((k : Int) < D.P) = true := decide_eq_true hk
              have HKB : Aside0 (i0 + k < D.pages.length) := ⟨by have := HIX.out; omega⟩
              have HK2 : Aside0 (k < Pn) := ⟨by have := HIX.out; omega⟩
              have hpo := page_ok H00.out.ok HKB.out
              have hmo := fault_mask H00.out.ok
              rw [← HM.out] at hmo
              have hF := F_turn F14.out HT.out (fun k hk _ => newer_no H00.out (Nat.le_refl _) k hk)
              have hZ := blk_turn Z14.out HT.out HN10.out
              have HCH := Aside0.mk (change_calls HD.out (i0 + k) (by show i0 + k < (wipedTo D.pages i0 m k).length; rw [wipedTo_len]; exact HKB.out) 66 _ #[.pointer (some ⟨g10, 0, none⟩)] Try.func66 (by kernel_rfl) rfl (wipeRow (D.pages.getD (i0 + k) []) m) (wipeRow_ok hpo.1 hmo.1 hpo.2)
                (fun W' hW A' c' hc' hC' => erase1_calls (blk_below hZ hW) ⟨hmo.1, HC3.out⟩ hpo hc' (Kd.C_below (Kd.F_now hF) hW) (by have h' : (wipedTo D.pages i0 m k).getD (i0 + k) [] = D.pages.getD (i0 + k) [] := wipedTo_at _ _ _ _; rw [← h']; exact hC') (newer W ok)))
              have c1 := (top_cells HD.out).2.1
              have hw1 := HWM.out
              have hw2 := HWM2.out
              rw [Int.natCast_add] at HCH
              obtain ⟨hw3, hw4⟩ := wrap_id (x := (i0 : Int) + (k : Int)) (by omega) (by have := H00.out.ok.size; have := H00.out.ok.pl; have := HKB.out; omega)
              obtain ⟨hw5, hw6⟩ := wrap_id (x := (k : Int) + 1) (by omega) (by have := HIX.out.2.2.2; have := HK2.out; omega)
              clear hk hpo hmo hF hZ
              go_wp2_with (go_at_call 65; refine HCH.out.mono ?_; rintro e w16 ⟨rfl, hD16, hT16⟩; have H16 := Aside0.mk hD16; have T16 := Aside0.mk (HT.out.trans hT16 (fun k hk => .inl hk)); clear hD16 hT16)
              go_roundg (Pn - k)
              case measure => have := HI.out; have := HK2.out; omega
              case rel =>
                refine ⟨k + 1, by first | rfl | simp, ⟨by have := HK2.out; omega, by have := HI.out; have := HK2.out; omega⟩, ⟨?_⟩, T16⟩
                have h16 := H16.out.newer2 H00.out (fun k hk => by
                  rcases hk with hk | hk
                  · exact hk
                  · exact .inr (Nat.le_trans (Nat.le_trans T14.out.size HT.out.size) hk))
                rw [← wipedTo_succ _ _ _ _ HKB.out]
                exact h16
        case neg =>
          have tk : (kd != 0) = true := by simpa using hk0
          have H14 := Aside0.mk (H13.out.set_next n D.P ⟨by have := H00.out.ok.p1; show 0 ≤ D.P; omega, Int.le_refl _⟩)
          have B0 := Aside0.mk (below_drew1 (Below.refl W13.heap.size W13))
          have HQ2 := Aside0.mk (And.intro (eq_true (show (0 : Int) ≤ (n : Int) by omega)) (eq_true (show (n : Int) < ((D.next.length : Nat) : Int) by have := H00.out.ok.nl; have := HN.out; omega)))
          have HNC : Aside0 (((D.next.set n 0).map (Value.int .i64))[n]? = some (.int .i64 ((D.next.set n 0).getD n 0))) := ⟨ints_at (by rw [List.length_set]; have := H00.out.ok.nl; have := HN.out; omega)⟩
          have HPR := Aside0.mk (show 0 ≤ D.P ∧ D.P ≤ D.P by have := H00.out.ok.p1; omega)
          have HK0 := Aside0.mk hk0
          clear H14 hk0
          go_upto_region 12 with fail
          clear tk
          refine start_ (n := 12) (S := fun w' => True) (ds := []) #[false, false, false, false, false, false, false, false, false, false, false, false] (by kernel_rfl) rfl rfl trivial (fun hHeld => ?_)
          refine with_tabW erase12.tab12 erase12.bits12 (fun HT_ HW_ => ?_)
          generalize W13.drew = wq at B0 hHeld ⊢
          refine inv_at [0, 1, 2, 3, 4, 5, 6, 7, 8, 9, 10, 11] (fun a0_ b a w' => a = putSel a0_ b [(0, 49, .pointer (some ⟨L.g, 0, none⟩)), (1, 50, .pointer (some ⟨L.g, 0, none⟩)), (2, 51, .pointer (some ⟨L.g, 5, none⟩)), (3, 52, .slice (some ⟨L.gn, 0, none⟩) D.next.length L.cn), (4, 53, .int .i64 (n : Int)), (5, 54, .pointer (some ⟨L.g, 0, none⟩)), (6, 55, .pointer (some ⟨L.g, 0, none⟩)), (7, 56, .pointer (some ⟨L.g, 0, none⟩)), (8, 57, .pointer (some ⟨L.g, 1, none⟩)), (9, 58, .int .i64 D.P), (10, 59, .pointer (some ⟨L.gn, n, none⟩))] ∧ (b 11 = false → Below W13.heap.size W13 w') ∧ (b 11 = true → DV w' ok L { D with ops := wrap64 (D.ops + 1), wear := wr', next := (D.next.set n 0).set n D.P } ∧ Turn W13 w' L.S)) HT_.out HW_.out (by kernel_rfl) (by kernel_rfl) ?_ ?_ ?_
          · exact ⟨by simp only [putSel, Bool.false_eq_true, if_false], fun _ => B0.out, fun h_ => absurd h_ (by decide)⟩
          · skip
            clear B0
            refine steps_cons ?_ ?_
            · rintro b a w' ⟨ha, Q_B0, Q_FIN⟩ hb_ hon hoff
              refine ⟨_, rfl, fun K hK => ?_⟩
              have e0 : a.tmps[0]? = some (.pointer (some ⟨L.g, 0, none⟩)) := by rw [ha]; exact (putSel_off rfl).trans rfl
              replace ha := Aside0.mk ha
              have B0 := Aside0.mk (Q_B0 (hoff 11 (by kernel_rfl)))
              refine value_ (w1 := w') (v := .pointer (some ⟨L.g, 0, none⟩)) (by rfl) rfl ?_ ?_
              · go_simp
                (try simp only [i64_w])
                try rfl
              refine hK.out _ _ ⟨(by rw [ha.out]; exact putSel_upk 0 hb_ rfl rfl rfl), Q_B0, fun h0_ => absurd ((hoff 11 (by kernel_rfl)).symm.trans h0_) (by decide)⟩
            refine steps_cons ?_ ?_
            · rintro b a w' ⟨ha, Q_B0, Q_FIN⟩ hb_ hon hoff
              refine ⟨_, rfl, fun K hK => ?_⟩
              have e49 : a.tmps[49]? = some (.pointer (some ⟨L.g, 0, none⟩)) := by rw [ha]; exact putSel_on (e := (0, 49, .pointer (some ⟨L.g, 0, none⟩))) 0 rfl rfl (hon 0 (by kernel_rfl)) rfl
              replace ha := Aside0.mk ha
              have B0 := Aside0.mk (Q_B0 (hoff 11 (by kernel_rfl)))
              refine value_ (w1 := w') (v := .pointer (some ⟨L.g, 0, none⟩)) (by rfl) rfl ?_ ?_
              · go_simp
                (try simp only [i64_w])
                try rfl
              refine hK.out _ _ ⟨(by rw [ha.out]; exact putSel_upk 1 hb_ rfl rfl rfl), Q_B0, fun h0_ => absurd ((hoff 11 (by kernel_rfl)).symm.trans h0_) (by decide)⟩
            refine steps_cons ?_ ?_
            · rintro b a w' ⟨ha, Q_B0, Q_FIN⟩ hb_ hon hoff
              refine ⟨_, rfl, fun K hK => ?_⟩
              have e50 : a.tmps[50]? = some (.pointer (some ⟨L.g, 0, none⟩)) := by rw [ha]; exact putSel_on (e := (1, 50, .pointer (some ⟨L.g, 0, none⟩))) 1 rfl rfl (hon 1 (by kernel_rfl)) rfl
              replace ha := Aside0.mk ha
              have B0 := Aside0.mk (Q_B0 (hoff 11 (by kernel_rfl)))
              refine value_ (w1 := w') (v := .pointer (some ⟨L.g, 5, none⟩)) (by rfl) rfl ?_ ?_
              · go_simp
                (try simp only [i64_w])
                try rfl
              refine hK.out _ _ ⟨(by rw [ha.out]; exact putSel_upk 2 hb_ rfl rfl rfl), Q_B0, fun h0_ => absurd ((hoff 11 (by kernel_rfl)).symm.trans h0_) (by decide)⟩
            refine steps_cons ?_ ?_
            · rintro b a w' ⟨ha, Q_B0, Q_FIN⟩ hb_ hon hoff
              refine ⟨_, rfl, fun K hK => ?_⟩
              have e51 : a.tmps[51]? = some (.pointer (some ⟨L.g, 5, none⟩)) := by rw [ha]; exact putSel_on (e := (2, 51, .pointer (some ⟨L.g, 5, none⟩))) 2 rfl rfl (hon 2 (by kernel_rfl)) rfl
              replace ha := Aside0.mk ha
              have B0 := Aside0.mk (Q_B0 (hoff 11 (by kernel_rfl)))
              have c_ := (top_cells (H13.out.below B0.out)).2.2.2.2.2.1
              refine value_ (w1 := w') (v := .slice (some ⟨L.gn, 0, none⟩) D.next.length L.cn) (by rfl) rfl ?_ ?_
              · go_simp
                (try simp only [i64_w])
                try rfl
              refine hK.out _ _ ⟨(by rw [ha.out]; exact putSel_upk 3 hb_ rfl rfl rfl), Q_B0, fun h0_ => absurd ((hoff 11 (by kernel_rfl)).symm.trans h0_) (by decide)⟩
            refine steps_cons ?_ ?_
            · rintro b a w' ⟨ha, Q_B0, Q_FIN⟩ hb_ hon hoff
              refine ⟨_, rfl, fun K hK => ?_⟩
              have e1 : a.tmps[1]? = some (.int .i64 (n : Int)) := by rw [ha]; exact (putSel_off rfl).trans rfl
              replace ha := Aside0.mk ha
              have B0 := Aside0.mk (Q_B0 (hoff 11 (by kernel_rfl)))
              refine value_ (w1 := w') (v := .int .i64 (n : Int)) (by rfl) rfl ?_ ?_
              · go_simp
                (try simp only [i64_w])
                try rfl
              refine hK.out _ _ ⟨(by rw [ha.out]; exact putSel_upk 4 hb_ rfl rfl rfl), Q_B0, fun h0_ => absurd ((hoff 11 (by kernel_rfl)).symm.trans h0_) (by decide)⟩
            refine steps_cons ?_ ?_
            · rintro b a w' ⟨ha, Q_B0, Q_FIN⟩ hb_ hon hoff
              refine ⟨_, rfl, fun K hK => ?_⟩
              have e0 : a.tmps[0]? = some (.pointer (some ⟨L.g, 0, none⟩)) := by rw [ha]; exact (putSel_off rfl).trans rfl
              replace ha := Aside0.mk ha
              have B0 := Aside0.mk (Q_B0 (hoff 11 (by kernel_rfl)))
              refine value_ (w1 := w') (v := .pointer (some ⟨L.g, 0, none⟩)) (by rfl) rfl ?_ ?_
              · go_simp
                (try simp only [i64_w])
                try rfl
              refine hK.out _ _ ⟨(by rw [ha.out]; exact putSel_upk 5 hb_ rfl rfl rfl), Q_B0, fun h0_ => absurd ((hoff 11 (by kernel_rfl)).symm.trans h0_) (by decide)⟩
            refine steps_cons ?_ ?_
            · rintro b a w' ⟨ha, Q_B0, Q_FIN⟩ hb_ hon hoff
              refine ⟨_, rfl, fun K hK => ?_⟩
              have e54 : a.tmps[54]? = some (.pointer (some ⟨L.g, 0, none⟩)) := by rw [ha]; exact putSel_on (e := (5, 54, .pointer (some ⟨L.g, 0, none⟩))) 5 rfl rfl (hon 5 (by kernel_rfl)) rfl
              replace ha := Aside0.mk ha
              have B0 := Aside0.mk (Q_B0 (hoff 11 (by kernel_rfl)))
              refine value_ (w1 := w') (v := .pointer (some ⟨L.g, 0, none⟩)) (by rfl) rfl ?_ ?_
              · go_simp
                (try simp only [i64_w])
                try rfl
              refine hK.out _ _ ⟨(by rw [ha.out]; exact putSel_upk 6 hb_ rfl rfl rfl), Q_B0, fun h0_ => absurd ((hoff 11 (by kernel_rfl)).symm.trans h0_) (by decide)⟩
            refine steps_cons ?_ ?_
            · rintro b a w' ⟨ha, Q_B0, Q_FIN⟩ hb_ hon hoff
              refine ⟨_, rfl, fun K hK => ?_⟩
              have e55 : a.tmps[55]? = some (.pointer (some ⟨L.g, 0, none⟩)) := by rw [ha]; exact putSel_on (e := (6, 55, .pointer (some ⟨L.g, 0, none⟩))) 6 rfl rfl (hon 6 (by kernel_rfl)) rfl
              replace ha := Aside0.mk ha
              have B0 := Aside0.mk (Q_B0 (hoff 11 (by kernel_rfl)))
              refine value_ (w1 := w') (v := .pointer (some ⟨L.g, 0, none⟩)) (by rfl) rfl ?_ ?_
              · go_simp
                (try simp only [i64_w])
                try rfl
              refine hK.out _ _ ⟨(by rw [ha.out]; exact putSel_upk 7 hb_ rfl rfl rfl), Q_B0, fun h0_ => absurd ((hoff 11 (by kernel_rfl)).symm.trans h0_) (by decide)⟩
            refine steps_cons ?_ ?_
            · rintro b a w' ⟨ha, Q_B0, Q_FIN⟩ hb_ hon hoff
              refine ⟨_, rfl, fun K hK => ?_⟩
              have e56 : a.tmps[56]? = some (.pointer (some ⟨L.g, 0, none⟩)) := by rw [ha]; exact putSel_on (e := (7, 56, .pointer (some ⟨L.g, 0, none⟩))) 7 rfl rfl (hon 7 (by kernel_rfl)) rfl
              replace ha := Aside0.mk ha
              have B0 := Aside0.mk (Q_B0 (hoff 11 (by kernel_rfl)))
              refine value_ (w1 := w') (v := .pointer (some ⟨L.g, 1, none⟩)) (by rfl) rfl ?_ ?_
              · go_simp
                (try simp only [i64_w])
                try rfl
              refine hK.out _ _ ⟨(by rw [ha.out]; exact putSel_upk 8 hb_ rfl rfl rfl), Q_B0, fun h0_ => absurd ((hoff 11 (by kernel_rfl)).symm.trans h0_) (by decide)⟩
            refine steps_cons ?_ ?_
            · rintro b a w' ⟨ha, Q_B0, Q_FIN⟩ hb_ hon hoff
              refine ⟨_, rfl, fun K hK => ?_⟩
              have e57 : a.tmps[57]? = some (.pointer (some ⟨L.g, 1, none⟩)) := by rw [ha]; exact putSel_on (e := (8, 57, .pointer (some ⟨L.g, 1, none⟩))) 8 rfl rfl (hon 8 (by kernel_rfl)) rfl
              replace ha := Aside0.mk ha
              have B0 := Aside0.mk (Q_B0 (hoff 11 (by kernel_rfl)))
              have c_ := (top_cells (H13.out.below B0.out)).2.1
              refine value_ (w1 := w') (v := .int .i64 D.P) (by rfl) rfl ?_ ?_
              · go_simp
                (try simp only [i64_w])
                try rfl
              refine hK.out _ _ ⟨(by rw [ha.out]; exact putSel_upk 9 hb_ rfl rfl rfl), Q_B0, fun h0_ => absurd ((hoff 11 (by kernel_rfl)).symm.trans h0_) (by decide)⟩
            refine steps_cons ?_ ?_
            · rintro b a w' ⟨ha, Q_B0, Q_FIN⟩ hb_ hon hoff
              refine ⟨_, rfl, fun K hK => ?_⟩
              have e52 : a.tmps[52]? = some (.slice (some ⟨L.gn, 0, none⟩) D.next.length L.cn) := by rw [ha]; exact putSel_on (e := (3, 52, .slice (some ⟨L.gn, 0, none⟩) D.next.length L.cn)) 3 rfl rfl (hon 3 (by kernel_rfl)) rfl
              have e53 : a.tmps[53]? = some (.int .i64 (n : Int)) := by rw [ha]; exact putSel_on (e := (4, 53, .int .i64 (n : Int))) 4 rfl rfl (hon 4 (by kernel_rfl)) rfl
              replace ha := Aside0.mk ha
              have B0 := Aside0.mk (Q_B0 (hoff 11 (by kernel_rfl)))
              have p_ := HQ2.out.1
              have q_ := HQ2.out.2
              refine value_ (w1 := w') (v := .pointer (some ⟨L.gn, n, none⟩)) (by rfl) rfl ?_ ?_
              · go_simp
                (try simp only [i64_w])
                try rfl
              refine hK.out _ _ ⟨(by rw [ha.out]; exact putSel_upk 10 hb_ rfl rfl rfl), Q_B0, fun h0_ => absurd ((hoff 11 (by kernel_rfl)).symm.trans h0_) (by decide)⟩
            refine steps_cons ?_ ?_
            · rintro b a w' ⟨ha, Q_B0, Q_FIN⟩ hb_ hon hoff
              refine ⟨_, rfl, fun K hK => ?_⟩
              have e59 : a.tmps[59]? = some (.pointer (some ⟨L.gn, n, none⟩)) := by rw [ha]; exact putSel_on (e := (10, 59, .pointer (some ⟨L.gn, n, none⟩))) 10 rfl rfl (hon 10 (by kernel_rfl)) rfl
              have e58 : a.tmps[58]? = some (.int .i64 D.P) := by rw [ha]; exact putSel_on (e := (9, 58, .int .i64 D.P)) 9 rfl rfl (hon 9 (by kernel_rfl)) rfl
              replace ha := Aside0.mk ha
              have B0 := Aside0.mk (Q_B0 hb_)
              have c_ := (H13.out.below B0.out).nx.cell HNC.out
              have fr_ := (H13.out.below B0.out).nx.frozen n
              refine skip_ (w1 := ?_) (by rfl) rfl ?_ ?_
              rotate_left
              · go_simp
                rfl
              refine hK.out _ _ ⟨(by rw [ha.out]; exact putSel_none (v := undef) rfl), fun h0_ => absurd ((up_self b 11).symm.trans h0_) (by decide), fun _ => ⟨(H13.out.below B0.out).set_next n D.P HPR.out, (Turn.of_below B0.out L.S).setCell (p := ⟨L.gn, n, none⟩) (.inl (.inr (.inr (.inl rfl)))) _⟩⟩
            exact steps_nil
          rintro b a W14 hall ⟨ha, Q_B0, Q_FIN⟩
          clear B0
          have hb0_ := hall 0 (by kernel_rfl)
          have hb1_ := hall 1 (by kernel_rfl)
          have hb2_ := hall 2 (by kernel_rfl)
          have hb3_ := hall 3 (by kernel_rfl)
          have hb4_ := hall 4 (by kernel_rfl)
          have hb5_ := hall 5 (by kernel_rfl)
          have hb6_ := hall 6 (by kernel_rfl)
          have hb7_ := hall 7 (by kernel_rfl)
          have hb8_ := hall 8 (by kernel_rfl)
          have hb9_ := hall 9 (by kernel_rfl)
          have hb10_ := hall 10 (by kernel_rfl)
          have hb11_ := hall 11 (by kernel_rfl)
          subst ha
          simp only [putSel, hb0_, hb1_, hb2_, hb3_, hb4_, hb5_, hb6_, hb7_, hb8_, hb9_, hb10_, hb11_, if_true, Act.put, List.setIfInBounds_toArray, List.set_cons_zero, List.set_cons_succ]
          clear Q_B0
          have FIN := Aside0.mk (Q_FIN hb11_)
          clear Q_FIN
          clear hall hb0_ hb1_ hb2_ hb3_ hb4_ hb5_ hb6_ hb7_ hb8_ hb9_ hb10_ hb11_
          obtain ⟨nx', hnx⟩ : ∃ x, x = D.next.set n D.P := ⟨_, rfl⟩
          have H14 : Aside0 (DV W14 ok L { D with ops := wrap64 (D.ops + 1), wear := wr', next := nx' }) := ⟨by rw [hnx]; have := FIN.out.1; simp only [List.set_set] at this; exact this⟩
          have HNX : Aside0 (nx' = D.next.set n (if D.fault.1 = 0 then 0 else D.P)) := ⟨by rw [if_neg (by rw [← HKD.out]; exact HK0.out)]; exact hnx⟩
          have T14 := Aside0.mk (T13.out.trans FIN.out.2 (fun k hk => .inl hk))
          have F14 := Aside0.mk (F_turn F13.out FIN.out.2 (fun k hk _ => newer_no H00.out (Nat.le_refl _) k hk))
          have Z14 := Aside0.mk (blk_turn Z13.out FIN.out.2 HN10.out)
          clear hnx H13 T13 F13 Z13 FIN
          go_upto_region 13 with fail
          have c1 := (top_cells H14.out).2.1
          go_wp2_with fail
          clear c1
          go_loopg [65] (Pn + 1) (fun kq v65 w' => ∃ k : Nat, v65 = .int .i64 (k : Int) ∧ Aside0 (k ≤ Pn ∧ kq + k = Pn + 1) ∧ Aside0 (DV w' (newer W ok) L { D with ops := wrap64 (D.ops + 1), wear := wr', next := nx', pages := wipedTo D.pages i0 m k }) ∧ Aside0 (Turn W14 w' L.S))
          case atStart => exact ⟨0, rfl, ⟨Nat.zero_le _, rfl⟩, ⟨by rw [wipedTo_zero]; exact H14.out.newer_ H00.out.lt⟩, ⟨Turn.refl _ _⟩⟩
          case round =>
            obtain ⟨k, rfl, HI, HD, HT⟩ := hrel
            clear p1
            by_cases hk : (k : Int) < D.P
            case neg =>
              have t1 : decide ((k : Int) < D.P) = false := decide_eq_false hk
              have hkP : k = Pn := by have := HI.out.1; have := HIX.out.2.1; omega
              have HKP := Aside0.mk hkP
              have HEN := Aside0.mk (end_calls HD.out HD0.out kd (by rw [HKD.out]; exact fault_kind D))
              clear hk hkP
              go_wp2_with (go_at_call 68; refine HEN.out.mono ?_; rintro e w18 ⟨rfl, hD18, hT18⟩; have H18 := Aside0.mk hD18; have T18 := Aside0.mk ((T14.out.trans HT.out (fun k hk => .inl hk)).trans hT18 (fun k hk => .inl hk)); clear hD18 hT18)
              go_ret
              rw [HR1.out]
              have hE : D.eraseD (n : Int) = { D with ops := wrap64 (D.ops + 1), wear := wr', next := nx', pages := wipedTo D.pages i0 m k, down := kd == 2 } := by
                unfold Dv.eraseD
                rw [HKP.out, wipedTo_all n i0 Pn m HIX.out.1 HIX.out.2.1, HWR.out, HWV.out, HNX.out, HM.out, HKD.out]
                rfl
              refine ⟨by rw [HKD.out]; rfl, ?_, T18.out⟩
              show DV w18 (newer W ok) L (D.eraseD (n : Int))
              rw [hE]
              exact H18.out
            case pos =>
              have t1 : decide ((k : Int) < D.P) = true := decide_eq_true hk
              have HKB : Aside0 (i0 + k < D.pages.length) := ⟨by have := HIX.out; omega⟩
              have HK2 : Aside0 (k < Pn) := ⟨by have := HIX.out; omega⟩
              have hpo := page_ok H00.out.ok HKB.out
              have hmo := fault_mask H00.out.ok
              rw [← HM.out] at hmo
              have hF := F_turn F14.out HT.out (fun k hk _ => newer_no H00.out (Nat.le_refl _) k hk)
              have hZ := blk_turn Z14.out HT.out HN10.out
              have HCH := Aside0.mk (change_calls HD.out (i0 + k) (by show i0 + k < (wipedTo D.pages i0 m k).length; rw [wipedTo_len]; exact HKB.out) 66 _ #[.pointer (some ⟨g10, 0, none⟩)] Try.func66 (by kernel_rfl) rfl (wipeRow (D.pages.getD (i0 + k) []) m) (wipeRow_ok hpo.1 hmo.1 hpo.2)
                (fun W' hW A' c' hc' hC' => erase1_calls (blk_below hZ hW) ⟨hmo.1, HC3.out⟩ hpo hc' (Kd.C_below (Kd.F_now hF) hW) (by have h' : (wipedTo D.pages i0 m k).getD (i0 + k) [] = D.pages.getD (i0 + k) [] := wipedTo_at _ _ _ _; rw [← h']; exact hC') (newer W ok)))
              have c1 := (top_cells HD.out).2.1
              have hw1 := HWM.out
              have hw2 := HWM2.out
              rw [Int.natCast_add] at HCH
              obtain ⟨hw3, hw4⟩ := wrap_id (x := (i0 : Int) + (k : Int)) (by omega) (by have := H00.out.ok.size; have := H00.out.ok.pl; have := HKB.out; omega)
              obtain ⟨hw5, hw6⟩ := wrap_id (x := (k : Int) + 1) (by omega) (by have := HIX.out.2.2.2; have := HK2.out; omega)
              clear hk hpo hmo hF hZ
              go_wp2_with (go_at_call 65; refine HCH.out.mono ?_; rintro e w16 ⟨rfl, hD16, hT16⟩; have H16 := Aside0.mk hD16; have T16 := Aside0.mk (HT.out.trans hT16 (fun k hk => .inl hk)); clear hD16 hT16)
              go_roundg (Pn - k)
              case measure => have := HI.out; have := HK2.out; omega
              case rel =>
                refine ⟨k + 1, by first | rfl | simp, ⟨by have := HK2.out; omega, by have := HI.out; have := HK2.out; omega⟩, ⟨?_⟩, T16⟩
                have h16 := H16.out.newer2 H00.out (fun k hk => by
                  rcases hk with hk | hk
                  · exact hk
                  · exact .inr (Nat.le_trans (Nat.le_trans T14.out.size HT.out.size) hk))
                rw [← wipedTo_succ _ _ _ _ HKB.out]
                exact h16
end Go.Proofs.Ytnchdmidaigheaa.ND
namespace Go.Proofs.Ytnchdmidaigheaa.ND
set_option linter.unusedVariables false
set_option linter.unusedSimpArgs false
open Go.RowKit Go.Proofs.Ytnchdmidaigheaa.Hp Go.Proofs.YtnchdmidaigheaaW.PrintWords Go.Proofs.YtnchdmidaigheaaW.PrintLast Go.Proofs.YtnchdmidaigheaaW.PrintMore
end Go.Proofs.Ytnchdmidaigheaa.ND
namespace Go.Proofs.Ytnchdmidaigheaa.ND
set_option linter.unusedVariables false
set_option linter.unusedSimpArgs false
open Go.RowKit Go.Proofs.Ytnchdmidaigheaa.Hp Go.Proofs.YtnchdmidaigheaaW.PrintWords Go.Proofs.YtnchdmidaigheaaW.PrintLast Go.Proofs.YtnchdmidaigheaaW.PrintMore
end Go.Proofs.Ytnchdmidaigheaa.ND
namespace Go.Proofs.Ytnchdmidaigheaa.ND
set_option linter.unusedVariables false
set_option linter.unusedSimpArgs false
open Go.RowKit Go.Proofs.Ytnchdmidaigheaa.Hp Go.Proofs.YtnchdmidaigheaaW.PrintWords Go.Proofs.YtnchdmidaigheaaW.PrintLast Go.Proofs.YtnchdmidaigheaaW.PrintMore
end Go.Proofs.Ytnchdmidaigheaa.ND
namespace Go.Proofs.Ytnchdmidaigheaa.Hp
open Go.RowKit Go.Proofs.YtnchdmidaigheaaW.PrintWords Go.Proofs.YtnchdmidaigheaaW.PrintLast Go.Proofs.YtnchdmidaigheaaW.PrintMore
attribute [local go_sem] max2_int min2_int max_two min_two max_three min_three max_four min_four   -- for this text's walks alone
set_option linter.unusedVariables false
set_option linter.unusedSimpArgs false
end Go.Proofs.Ytnchdmidaigheaa.Hp
namespace Go.Proofs.Ytnchdmidaigheaa.Hp
open Go.RowKit Go.Proofs.YtnchdmidaigheaaW.PrintWords Go.Proofs.YtnchdmidaigheaaW.PrintLast Go.Proofs.YtnchdmidaigheaaW.PrintMore
attribute [local go_sem] max2_int min2_int max_two min_two max_three min_three max_four min_four   -- for this text's walks alone
set_option linter.unusedVariables false
set_option linter.unusedSimpArgs false
mutual
def wagtaillaw14_Plan_Light.j0 : Nat → Bool → Int → Int → Int → List Int → List (S65) → Option (Bool)
  | 0, _, _, _, _, _, _ => none
  | k + 1, x13, x102000, x102001, x102002, x102003, x102004 => if x13 = true then (some false) else (wagtaillaw14_Plan_Light.l0 k 0 x102000 x102001 x102002 x102003 x102004)
def wagtaillaw14_Plan_Light.l0 : Nat → Int → Int → Int → Int → List Int → List (S65) → Option (Bool)
  | 0, _, _, _, _, _, _ => none
  | k + 1, x3, x102000, x102001, x102002, x102003, x102004 => if x3 < (x102004.length : Int) then (if 0 ≤ x3 then (if (((rd_T65 x102004 x3).f2).length : Int) > 300 then (some false) else (wagtaillaw14_Plan_Light.l0 k (wrap64 (x3 + 1)) x102000 x102001 x102002 x102003 x102004)) else (none)) else (some true)
end
def wagtaillaw14_Plan_Light.f (k : Nat) (a0_0 : Int) (a0_1 : Int) (a0_2 : Int) (l0_3 : List Int) (l0_4 : List (S65)) : Option (Bool) := if (l0_3.length : Int) > 60 then (wagtaillaw14_Plan_Light.j0 k true a0_0 a0_1 a0_2 l0_3 l0_4) else (wagtaillaw14_Plan_Light.j0 k (decide ((l0_4.length : Int) > 40)) a0_0 a0_1 a0_2 l0_3 l0_4)
theorem wagtaillaw14_Plan_Light.mono_l : ∀ k, (∀ y0 y1 y2 y3 y4 y5, LeO (wagtaillaw14_Plan_Light.j0 k y0 y1 y2 y3 y4 y5) (wagtaillaw14_Plan_Light.j0 (k + 1) y0 y1 y2 y3 y4 y5)) ∧ (∀ y0 y1 y2 y3 y4 y5, LeO (wagtaillaw14_Plan_Light.l0 k y0 y1 y2 y3 y4 y5) (wagtaillaw14_Plan_Light.l0 (k + 1) y0 y1 y2 y3 y4 y5))
  | 0 => ⟨fun _ _ _ _ _ _ r h => by simp [wagtaillaw14_Plan_Light.j0] at h, fun _ _ _ _ _ _ r h => by simp [wagtaillaw14_Plan_Light.l0] at h⟩
  | k + 1 => by
    obtain ⟨ih0, ih1⟩ := wagtaillaw14_Plan_Light.mono_l k
    refine ⟨?_, ?_⟩
    · intro y0 y1 y2 y3 y4 y5
      unfold wagtaillaw14_Plan_Light.j0
      repeat' first
      | (with_reducible exact ih0 _ _ _ _ _ _)
      | (with_reducible exact ih1 _ _ _ _ _ _)
      | (with_reducible exact LeO.refl _)
      | (with_reducible exact LeO.none _)
      | (with_reducible refine LeO.ite ?_ ?_)
      | (with_reducible refine LeO.bind ?_ (fun _ => ?_))
      | exact ih0 _ _ _ _ _ _
      | exact ih1 _ _ _ _ _ _
      | exact LeO.none _
      | refine LeO.ite ?_ ?_
      | refine LeO.bind ?_ (fun _ => ?_)
    · intro y0 y1 y2 y3 y4 y5
      unfold wagtaillaw14_Plan_Light.l0
      repeat' first
      | (with_reducible exact ih0 _ _ _ _ _ _)
      | (with_reducible exact ih1 _ _ _ _ _ _)
      | (with_reducible exact LeO.refl _)
      | (with_reducible exact LeO.none _)
      | (with_reducible refine LeO.ite ?_ ?_)
      | (with_reducible refine LeO.bind ?_ (fun _ => ?_))
      | exact ih0 _ _ _ _ _ _
      | exact ih1 _ _ _ _ _ _
      | exact LeO.none _
      | refine LeO.ite ?_ ?_
      | refine LeO.bind ?_ (fun _ => ?_)
theorem wagtaillaw14_Plan_Light.mono : ∀ a0 a1 a2 a3 a4 k, LeO (wagtaillaw14_Plan_Light.f k a0 a1 a2 a3 a4) (wagtaillaw14_Plan_Light.f (k + 1) a0 a1 a2 a3 a4) := by
  intro a0 a1 a2 a3 a4 k
  obtain ⟨ih0, ih1⟩ := wagtaillaw14_Plan_Light.mono_l k
  unfold wagtaillaw14_Plan_Light.f
  repeat' first
      | (with_reducible exact ih0 _ _ _ _ _ _)
      | (with_reducible exact ih1 _ _ _ _ _ _)
      | (with_reducible exact LeO.refl _)
      | (with_reducible exact LeO.none _)
      | (with_reducible refine LeO.ite ?_ ?_)
      | (with_reducible refine LeO.bind ?_ (fun _ => ?_))
      | exact ih0 _ _ _ _ _ _
      | exact ih1 _ _ _ _ _ _
      | exact LeO.none _
      | refine LeO.ite ?_ ?_
      | refine LeO.bind ?_ (fun _ => ?_)
set_option maxHeartbeats 8000000 in
set_option maxRecDepth 100000 in
theorem wagtaillaw14_Plan_Light.calls (k : Nat) (a0_0 : Int) (a0_1 : Int) (a0_2 : Int) (A0_3 : Option Addr) (c0_3 : Nat) (l0_3 : List Int) (A0_4 : Option Addr) (c0_4 : Nat) (l0_4 : List (S65)) (r : Bool) (w : World) (hr0_3 : Kd.C (Kd.int .i64) w A0_3 l0_3.length l0_3) (hc0_3 : l0_3.length ≤ c0_3) (hr0_4 : Kd.C k65 w A0_4 l0_4.length l0_4) (hc0_4 : l0_4.length ≤ c0_4) (h : wagtaillaw14_Plan_Light.f k a0_0 a0_1 a0_2 l0_3 l0_4 = some r) :
    Calls Try.prog 11 #[.agg #[.int .i64 a0_0, .int .i64 a0_1, .int .i64 a0_2, .slice A0_3 l0_3.length c0_3, .slice A0_4 l0_4.length c0_4]] w fun e w' => e = .returned (.bool r) ∧ Below w.heap.size w w' := by
  have hu27 := Try.underlying27
  have HR0_3 := Aside0.mk hr0_3
  have HC0_3 := Aside0.mk hc0_3
  clear hr0_3 hc0_3
  have HR0_4 := Aside0.mk hr0_4
  have HC0_4 := Aside0.mk hc0_4
  clear hr0_4 hc0_4
  have HB := Aside0.mk (Below.refl w.heap.size w)
  have H : (if (l0_3.length : Int) > 60 then (wagtaillaw14_Plan_Light.j0 k true a0_0 a0_1 a0_2 l0_3 l0_4) else (wagtaillaw14_Plan_Light.j0 k (decide ((l0_4.length : Int) > 40)) a0_0 a0_1 a0_2 l0_3 l0_4)) = some r := h
  clear h
  have HC2 := Aside0.mk H
  clear H
  go_enter Try.func11, Try.ntmps11
  go_upto_region 1 with (first | ((with_reducible refine gate_dst (N := 1) rfl ?_); (try (refine gate_guard (by rfl) ?_; dsimp only)); refine box_event ?hg (N := 1) ?hd (cs := #[.int .i64 a0_0, .int .i64 a0_1, .int .i64 a0_2, .slice A0_3 l0_3.length c0_3, .slice A0_4 l0_4.length c0_4]) (t := 27) ?hr ?_; (case hd => rfl); (case hg => rfl); (case hr => first | (go_simp; done) | (go_simp; rfl)); intro gb101 hg w3 hbox hb; have n0_ := Aside0.mk (below_step (by repeat (first | (with_reducible first | exact HB.out | apply below_alloc | apply pw_below_drewN | apply below_drew1) | exact HB.out)) hb); have n1_ := Aside0.mk (hbox); have n2_ := Aside0.mk ((by rw [hg]; exact (below_size (by repeat (first | (with_reducible first | exact HB.out | apply below_alloc | apply pw_below_drewN | apply below_drew1) | exact HB.out))) : w.heap.size ≤ gb101)); have n3_ := Aside0.mk ((by rw [hg]; exact (below_size (by repeat (first | (with_reducible first | exact HB.out | apply below_alloc | apply pw_below_drewN | apply below_drew1) | exact HB.out))) : w.heap.size ≤ gb101)); clear HB; have HB := n0_; have BK101 := n1_; have GW101 := n2_; have GE101 := n3_; clear n0_ n1_ n2_ n3_; clear hb hbox hg))
  (try simp only [Act.put, List.setIfInBounds_toArray, List.set_cons_zero, List.set_cons_succ])
  go_cut [13] (fun v13 wc => ∃ (kq : Nat) (x13_1 : Bool), v13 = .bool x13_1 ∧ Aside0 (wagtaillaw14_Plan_Light.j0 kq x13_1 a0_0 a0_1 a0_2 l0_3 l0_4 = some r) ∧ Aside0 (kq ≤ k) ∧ Aside0 (wc.heap[gb101]? = some (.cells #[.int .i64 a0_0, .int .i64 a0_1, .int .i64 a0_2, (.slice A0_3 l0_3.length c0_3), (.slice A0_4 l0_4.length c0_4)] 27 (0, 0))) ∧ Aside0 (Below w.heap.size w wc))
  case first =>
    have H := HC2.out
    clear HC2
    by_cases c4 : (l0_3.length : Int) > 60
    · rw [if_pos c4] at H
      have c4b0 : decide (60 < (l0_3.length : Int)) = true := decide_eq_true c4
      have c4b1 : decide (60 < l0_3.length) = true := decide_eq_true (by omega)
      clear c4
      (first | rw [c4b0] | (simp only [i64_w, i32_w]; rw [c4b0]) | skip)
      have H' := Aside0.mk H
      clear H
      have hcz5_0 : w3.cell? ⟨gb101, 0, none⟩ = some (.int .i64 a0_0) := (blk_cell BK101.out 0).trans rfl
      have hcz5_1 : w3.cell? ⟨gb101, 1, none⟩ = some (.int .i64 a0_1) := (blk_cell BK101.out 1).trans rfl
      have hcz5_2 : w3.cell? ⟨gb101, 2, none⟩ = some (.int .i64 a0_2) := (blk_cell BK101.out 2).trans rfl
      have hcz5_3 : w3.cell? ⟨gb101, 3, none⟩ = some (.slice A0_3 l0_3.length c0_3) := (blk_cell BK101.out 3).trans rfl
      have hcz5_4 : w3.cell? ⟨gb101, 4, none⟩ = some (.slice A0_4 l0_4.length c0_4) := (blk_cell BK101.out 4).trans rfl
      have hfz5_0 := blk_frozen BK101.out 0
      have hfz5_1 := blk_frozen BK101.out 1
      have hfz5_2 := blk_frozen BK101.out 2
      have hfz5_3 := blk_frozen BK101.out 3
      have hfz5_4 := blk_frozen BK101.out 4
      go_wp2
      go_meet
      case rel => exact ⟨_, (true), (by first | rfl | (simp; done) | (simp [*]; done)), H', ⟨by first | omega | exact Nat.le_refl _⟩, ⟨by (with_reducible repeat (first | refine blk_drewN ?_ _ | refine blk_drew ?_ | refine blk_alloc ?_ _)); exact BK101.out⟩, ⟨by repeat (first | (with_reducible first | exact HB.out | apply below_alloc | apply pw_below_drewN | apply below_drew1 | refine below_set ?_ GE101.out) | exact HB.out)⟩⟩
    · rw [if_neg c4] at H
      have c4b0 : decide (60 < (l0_3.length : Int)) = false := decide_eq_false c4
      have c4b1 : decide (60 < l0_3.length) = false := decide_eq_false (by omega)
      clear c4
      (first | rw [c4b0] | (simp only [i64_w, i32_w]; rw [c4b0]) | skip)
      have H' := Aside0.mk H
      clear H
      have hcz6_0 : w3.cell? ⟨gb101, 0, none⟩ = some (.int .i64 a0_0) := (blk_cell BK101.out 0).trans rfl
      have hcz6_1 : w3.cell? ⟨gb101, 1, none⟩ = some (.int .i64 a0_1) := (blk_cell BK101.out 1).trans rfl
      have hcz6_2 : w3.cell? ⟨gb101, 2, none⟩ = some (.int .i64 a0_2) := (blk_cell BK101.out 2).trans rfl
      have hcz6_3 : w3.cell? ⟨gb101, 3, none⟩ = some (.slice A0_3 l0_3.length c0_3) := (blk_cell BK101.out 3).trans rfl
      have hcz6_4 : w3.cell? ⟨gb101, 4, none⟩ = some (.slice A0_4 l0_4.length c0_4) := (blk_cell BK101.out 4).trans rfl
      have hfz6_0 := blk_frozen BK101.out 0
      have hfz6_1 := blk_frozen BK101.out 1
      have hfz6_2 := blk_frozen BK101.out 2
      have hfz6_3 := blk_frozen BK101.out 3
      have hfz6_4 := blk_frozen BK101.out 4
      go_wp2
      go_meet
      case rel => exact ⟨_, (decide ((l0_4.length : Int) > 40)), (by first | rfl | (simp; done) | (simp [*]; done)), H', ⟨by first | omega | exact Nat.le_refl _⟩, ⟨by (with_reducible repeat (first | refine blk_drewN ?_ _ | refine blk_drew ?_ | refine blk_alloc ?_ _)); exact BK101.out⟩, ⟨by repeat (first | (with_reducible first | exact HB.out | apply below_alloc | apply pw_below_drewN | apply below_drew1 | refine below_set ?_ GE101.out) | exact HB.out)⟩⟩
  case rest =>
    clear HC2
    try clear c1
    try clear p2
    try clear c4
    try clear c4b0
    try clear c4b1
    try clear hcz5_0
    try clear hcz5_1
    try clear hcz5_2
    try clear hcz5_3
    try clear hcz5_4
    try clear hcz6_0
    try clear hcz6_1
    try clear hcz6_2
    try clear hcz6_3
    try clear hcz6_4
    try clear hfz5_0
    try clear hfz5_1
    try clear hfz5_2
    try clear hfz5_3
    try clear hfz5_4
    try clear hfz6_0
    try clear hfz6_1
    try clear hfz6_2
    try clear hfz6_3
    try clear hfz6_4
    obtain ⟨kq, x13_1, rfl, HA, HJ1, BK101, HB⟩ := hcut
    cases kq with
    | zero => exact absurd HA.out (by simp [wagtaillaw14_Plan_Light.j0])
    | succ kj1 =>
      have H := HA.out
      clear HA
      simp only [wagtaillaw14_Plan_Light.j0] at H
      by_cases c7 : x13_1 = true
      · subst c7
        have H1 : (some false) = some r := by rw [if_pos rfl] at H; exact H
        clear H
        have H := H1
        clear H1
        obtain rfl := Option.some.inj H
        go_wp2
        go_ret
        exact ⟨by first | rfl | (simp [errW_none, errW_some] <;> rfl) | (simp [*, errW_none, errW_some] <;> rfl), by repeat (first | (with_reducible first | exact HB.out | apply below_alloc | apply pw_below_drewN | apply below_drew1 | refine below_set ?_ GE101.out) | exact HB.out)⟩
      · replace c7 := Bool.eq_false_iff.mpr c7
        subst c7
        have H1 : (wagtaillaw14_Plan_Light.l0 kj1 0 a0_0 a0_1 a0_2 l0_3 l0_4) = some r := by rw [if_neg (show ¬ (false = true) by decide)] at H; exact H
        clear H
        have H := H1
        clear H1
        have H' := Aside0.mk H
        clear H
        go_wp2
        go_loopg [3] kj1 (fun kq v3 w' => ∃ (x3_2 : Int), v3 = .int .i64 x3_2 ∧ Aside0 (wagtaillaw14_Plan_Light.l0 kq x3_2 a0_0 a0_1 a0_2 l0_3 l0_4 = some r) ∧ Aside0 (kq ≤ kj1) ∧ Aside0 (w'.heap[gb101]? = some (.cells #[.int .i64 a0_0, .int .i64 a0_1, .int .i64 a0_2, (.slice A0_3 l0_3.length c0_3), (.slice A0_4 l0_4.length c0_4)] 27 (0, 0))) ∧ Aside0 (Below w.heap.size w w'))
        case atStart => exact ⟨(0), (by first | rfl | (simp; done) | (simp [*]; done)), H', ⟨Nat.le_refl _⟩, ⟨by (with_reducible repeat (first | refine blk_drewN ?_ _ | refine blk_drew ?_ | refine blk_alloc ?_ _)); exact BK101.out⟩, ⟨by repeat (first | (with_reducible first | exact HB.out | apply below_alloc | apply pw_below_drewN | apply below_drew1 | refine below_set ?_ GE101.out) | exact HB.out)⟩⟩
        case round =>
          clear H'
          try clear c1
          try clear p2
          try clear c4
          try clear c4b0
          try clear c4b1
          try clear c7
          try clear hcz5_0
          try clear hcz5_1
          try clear hcz5_2
          try clear hcz5_3
          try clear hcz5_4
          try clear hcz6_0
          try clear hcz6_1
          try clear hcz6_2
          try clear hcz6_3
          try clear hcz6_4
          try clear hfz5_0
          try clear hfz5_1
          try clear hfz5_2
          try clear hfz5_3
          try clear hfz5_4
          try clear hfz6_0
          try clear hfz6_1
          try clear hfz6_2
          try clear hfz6_3
          try clear hfz6_4
          try clear p2
          obtain ⟨x3_2, rfl, HA, HK2, BK101, HB⟩ := hrel
          cases gk with
          | zero => exact absurd HA.out (by simp [wagtaillaw14_Plan_Light.l0])
          | succ k2 =>
            have H := HA.out
            clear HA
            simp only [wagtaillaw14_Plan_Light.l0] at H
            by_cases c8 : x3_2 < (l0_4.length : Int)
            · rw [if_pos c8] at H
              have c8b0 : decide (x3_2 < (l0_4.length : Int)) = true := decide_eq_true c8
              clear c8
              by_cases c9 : 0 ≤ x3_2
              · rw [if_pos c9] at H
                have c9b0 : decide (0 ≤ x3_2) = true := decide_eq_true c9
                clear c9
                by_cases c10 : (((rd_T65 l0_4 x3_2).f2).length : Int) > 300
                · rw [if_pos c10] at H
                  have c10b0 : decide (300 < (((rd_T65 l0_4 x3_2).f2).length : Int)) = true := decide_eq_true c10
                  have c10b1 : decide (300 < ((rd_T65 l0_4 x3_2).f2).length) = true := decide_eq_true (by omega)
                  clear c10
                  obtain rfl := Option.some.inj H
                  have hcz11_0 : wr.cell? ⟨gb101, 0, none⟩ = some (.int .i64 a0_0) := (blk_cell BK101.out 0).trans rfl
                  have hcz11_1 : wr.cell? ⟨gb101, 1, none⟩ = some (.int .i64 a0_1) := (blk_cell BK101.out 1).trans rfl
                  have hcz11_2 : wr.cell? ⟨gb101, 2, none⟩ = some (.int .i64 a0_2) := (blk_cell BK101.out 2).trans rfl
                  have hcz11_3 : wr.cell? ⟨gb101, 3, none⟩ = some (.slice A0_3 l0_3.length c0_3) := (blk_cell BK101.out 3).trans rfl
                  have hcz11_4 : wr.cell? ⟨gb101, 4, none⟩ = some (.slice A0_4 l0_4.length c0_4) := (blk_cell BK101.out 4).trans rfl
                  have hfz11_0 := blk_frozen BK101.out 0
                  have hfz11_1 := blk_frozen BK101.out 1
                  have hfz11_2 := blk_frozen BK101.out 2
                  have hfz11_3 := blk_frozen BK101.out 3
                  have hfz11_4 := blk_frozen BK101.out 4
                  have p102 : 0 ≤ (x3_2 : Int) := of_decide_eq_true (by first | (with_reducible assumption) | assumption)
                  have q102 : x3_2 < (l0_4.length : Int) := of_decide_eq_true (by first | (with_reducible assumption) | assumption)
                  obtain ⟨ad102, A102_2, c102_2, e102, hx102_0, hx102_1, hx102_2, hl102_2, hi102_2⟩ := at_T65 HR0_4.out x3_2 p102 q102
                  cases e102
                  replace hx102_0 := (HB.out.cell (World.block_lt_of_cell? w _ hx102_0)).trans hx102_0
                  replace hx102_1 := (HB.out.cell (World.block_lt_of_cell? w _ hx102_1)).trans hx102_1
                  replace hx102_2 := (HB.out.cell (World.block_lt_of_cell? w _ hx102_2)).trans hx102_2
                  have HR102_2 := Aside0.mk hi102_2
                  have HC102_2 := Aside0.mk hl102_2
                  clear hi102_2 hl102_2
                  replace p102 := eq_true p102
                  replace q102 := eq_true q102
                  go_wp2
                  go_ret
                  exact ⟨by first | rfl | (simp [errW_none, errW_some] <;> rfl) | (simp [*, errW_none, errW_some] <;> rfl), by repeat (first | (with_reducible first | exact HB.out | apply below_alloc | apply pw_below_drewN | apply below_drew1 | refine below_set ?_ GE101.out) | exact HB.out)⟩
                · rw [if_neg c10] at H
                  have c10b0 : decide (300 < (((rd_T65 l0_4 x3_2).f2).length : Int)) = false := decide_eq_false c10
                  have c10b1 : decide (300 < ((rd_T65 l0_4 x3_2).f2).length) = false := decide_eq_false (by omega)
                  clear c10
                  have H' := Aside0.mk H
                  clear H
                  have hcz12_0 : wr.cell? ⟨gb101, 0, none⟩ = some (.int .i64 a0_0) := (blk_cell BK101.out 0).trans rfl
                  have hcz12_1 : wr.cell? ⟨gb101, 1, none⟩ = some (.int .i64 a0_1) := (blk_cell BK101.out 1).trans rfl
                  have hcz12_2 : wr.cell? ⟨gb101, 2, none⟩ = some (.int .i64 a0_2) := (blk_cell BK101.out 2).trans rfl
                  have hcz12_3 : wr.cell? ⟨gb101, 3, none⟩ = some (.slice A0_3 l0_3.length c0_3) := (blk_cell BK101.out 3).trans rfl
                  have hcz12_4 : wr.cell? ⟨gb101, 4, none⟩ = some (.slice A0_4 l0_4.length c0_4) := (blk_cell BK101.out 4).trans rfl
                  have hfz12_0 := blk_frozen BK101.out 0
                  have hfz12_1 := blk_frozen BK101.out 1
                  have hfz12_2 := blk_frozen BK101.out 2
                  have hfz12_3 := blk_frozen BK101.out 3
                  have hfz12_4 := blk_frozen BK101.out 4
                  have p102 : 0 ≤ (x3_2 : Int) := of_decide_eq_true (by first | (with_reducible assumption) | assumption)
                  have q102 : x3_2 < (l0_4.length : Int) := of_decide_eq_true (by first | (with_reducible assumption) | assumption)
                  obtain ⟨ad102, A102_2, c102_2, e102, hx102_0, hx102_1, hx102_2, hl102_2, hi102_2⟩ := at_T65 HR0_4.out x3_2 p102 q102
                  cases e102
                  replace hx102_0 := (HB.out.cell (World.block_lt_of_cell? w _ hx102_0)).trans hx102_0
                  replace hx102_1 := (HB.out.cell (World.block_lt_of_cell? w _ hx102_1)).trans hx102_1
                  replace hx102_2 := (HB.out.cell (World.block_lt_of_cell? w _ hx102_2)).trans hx102_2
                  have HR102_2 := Aside0.mk hi102_2
                  have HC102_2 := Aside0.mk hl102_2
                  clear hi102_2 hl102_2
                  replace p102 := eq_true p102
                  replace q102 := eq_true q102
                  go_wp2
                  go_roundg k2
                  case measure => have := HJ1.out; have := HK2.out; omega
                  case rel => exact ⟨(wrap64 (x3_2 + 1)), (by first | rfl | (simp; done) | (simp [*]; done)), H', ⟨by have := HJ1.out; have := HK2.out; omega⟩, ⟨by (with_reducible repeat (first | refine blk_drewN ?_ _ | refine blk_drew ?_ | refine blk_alloc ?_ _)); exact BK101.out⟩, ⟨by repeat (first | (with_reducible first | exact HB.out | apply below_alloc | apply pw_below_drewN | apply below_drew1 | refine below_set ?_ GE101.out) | exact HB.out)⟩⟩
              · rw [if_neg c9] at H
                exact absurd H (by simp)
            · rw [if_neg c8] at H
              have c8b0 : decide (x3_2 < (l0_4.length : Int)) = false := decide_eq_false c8
              clear c8
              obtain rfl := Option.some.inj H
              have hcz13_0 : wr.cell? ⟨gb101, 0, none⟩ = some (.int .i64 a0_0) := (blk_cell BK101.out 0).trans rfl
              have hcz13_1 : wr.cell? ⟨gb101, 1, none⟩ = some (.int .i64 a0_1) := (blk_cell BK101.out 1).trans rfl
              have hcz13_2 : wr.cell? ⟨gb101, 2, none⟩ = some (.int .i64 a0_2) := (blk_cell BK101.out 2).trans rfl
              have hcz13_3 : wr.cell? ⟨gb101, 3, none⟩ = some (.slice A0_3 l0_3.length c0_3) := (blk_cell BK101.out 3).trans rfl
              have hcz13_4 : wr.cell? ⟨gb101, 4, none⟩ = some (.slice A0_4 l0_4.length c0_4) := (blk_cell BK101.out 4).trans rfl
              have hfz13_0 := blk_frozen BK101.out 0
              have hfz13_1 := blk_frozen BK101.out 1
              have hfz13_2 := blk_frozen BK101.out 2
              have hfz13_3 := blk_frozen BK101.out 3
              have hfz13_4 := blk_frozen BK101.out 4
              go_wp2
              go_ret
              exact ⟨by first | rfl | (simp [errW_none, errW_some] <;> rfl) | (simp [*, errW_none, errW_some] <;> rfl), by repeat (first | (with_reducible first | exact HB.out | apply below_alloc | apply pw_below_drewN | apply below_drew1 | refine below_set ?_ GE101.out) | exact HB.out)⟩
def wagtailref13_Right.f (a0_0 : Int) (a0_1 : Int) (a0_2 : Int) : Option (Bool) := if a0_0 ≥ 8 then (if a0_0 ≤ 34 then (if a0_1 ≥ 4 then (if a0_1 ≤ 32 then (if a0_2 ≥ 0 then (some (decide (a0_2 ≤ 8))) else (some false)) else (some false)) else (some false)) else (some false)) else (some false)
set_option maxHeartbeats 8000000 in
set_option maxRecDepth 100000 in
theorem wagtailref13_Right.calls (a0_0 : Int) (a0_1 : Int) (a0_2 : Int) (r : Bool) (w : World) (h : wagtailref13_Right.f a0_0 a0_1 a0_2 = some r) :
    Calls Try.prog 12 #[.agg #[.int .i64 a0_0, .int .i64 a0_1, .int .i64 a0_2]] w fun e w' => e = .returned (.bool r) ∧ Below w.heap.size w w' := by
  have hu23 := Try.underlying23
  have HB := Aside0.mk (Below.refl w.heap.size w)
  have H : (if a0_0 ≥ 8 then (if a0_0 ≤ 34 then (if a0_1 ≥ 4 then (if a0_1 ≤ 32 then (if a0_2 ≥ 0 then (some (decide (a0_2 ≤ 8))) else (some false)) else (some false)) else (some false)) else (some false)) else (some false)) = some r := h
  clear h
  by_cases c2 : a0_0 ≥ 8
  · rw [if_pos c2] at H
    have c2b0 : decide (8 ≤ a0_0) = true := decide_eq_true c2
    clear c2
    by_cases c3 : a0_0 ≤ 34
    · rw [if_pos c3] at H
      have c3b0 : decide (a0_0 ≤ 34) = true := decide_eq_true c3
      clear c3
      by_cases c4 : a0_1 ≥ 4
      · rw [if_pos c4] at H
        have c4b0 : decide (4 ≤ a0_1) = true := decide_eq_true c4
        clear c4
        by_cases c5 : a0_1 ≤ 32
        · rw [if_pos c5] at H
          have c5b0 : decide (a0_1 ≤ 32) = true := decide_eq_true c5
          clear c5
          by_cases c6 : a0_2 ≥ 0
          · rw [if_pos c6] at H
            have c6b0 : decide (0 ≤ a0_2) = true := decide_eq_true c6
            clear c6
            obtain rfl := Option.some.inj H
            go_enter Try.func12, Try.ntmps12
            go_wp2_with (first | ((with_reducible refine gate_dst (N := 1) rfl ?_); refine box_event ?hg (N := 1) ?hd (cs := #[.int .i64 a0_0, .int .i64 a0_1, .int .i64 a0_2]) (t := 23) ?hr ?_; (case hd => rfl); (case hg => rfl); (case hr => first | (go_simp; done) | (go_simp; rfl)); intro gb103 hg w7 hbox hb; have n0_ := Aside0.mk (below_step (by repeat (first | (with_reducible first | exact HB.out | apply below_alloc | apply pw_below_drewN | apply below_drew1) | exact HB.out)) hb); have n1_ := Aside0.mk (hbox); have n2_ := Aside0.mk ((by rw [hg]; exact (below_size (by repeat (first | (with_reducible first | exact HB.out | apply below_alloc | apply pw_below_drewN | apply below_drew1) | exact HB.out))) : w.heap.size ≤ gb103)); have n3_ := Aside0.mk ((by rw [hg]; exact (below_size (by repeat (first | (with_reducible first | exact HB.out | apply below_alloc | apply pw_below_drewN | apply below_drew1) | exact HB.out))) : w.heap.size ≤ gb103)); clear HB; have HB := n0_; have BK103 := n1_; have GW103 := n2_; have GE103 := n3_; clear n0_ n1_ n2_ n3_; clear hb hbox hg; have hcz8_0 : w7.cell? ⟨gb103, 0, none⟩ = some (.int .i64 a0_0) := (blk_cell BK103.out 0).trans rfl; have hcz8_1 : w7.cell? ⟨gb103, 1, none⟩ = some (.int .i64 a0_1) := (blk_cell BK103.out 1).trans rfl; have hcz8_2 : w7.cell? ⟨gb103, 2, none⟩ = some (.int .i64 a0_2) := (blk_cell BK103.out 2).trans rfl; have hfz8_0 := blk_frozen BK103.out 0; have hfz8_1 := blk_frozen BK103.out 1; have hfz8_2 := blk_frozen BK103.out 2))
            go_ret
            exact ⟨by first | rfl | (simp [errW_none, errW_some] <;> rfl) | (simp [*, errW_none, errW_some] <;> rfl), by repeat (first | (with_reducible first | exact HB.out | apply below_alloc | apply pw_below_drewN | apply below_drew1 | refine below_set ?_ GE103.out) | exact HB.out)⟩
          · rw [if_neg c6] at H
            have c6b0 : decide (0 ≤ a0_2) = false := decide_eq_false c6
            clear c6
            obtain rfl := Option.some.inj H
            go_enter Try.func12, Try.ntmps12
            go_wp2_with (first | ((with_reducible refine gate_dst (N := 1) rfl ?_); refine box_event ?hg (N := 1) ?hd (cs := #[.int .i64 a0_0, .int .i64 a0_1, .int .i64 a0_2]) (t := 23) ?hr ?_; (case hd => rfl); (case hg => rfl); (case hr => first | (go_simp; done) | (go_simp; rfl)); intro gb103 hg w9 hbox hb; have n0_ := Aside0.mk (below_step (by repeat (first | (with_reducible first | exact HB.out | apply below_alloc | apply pw_below_drewN | apply below_drew1) | exact HB.out)) hb); have n1_ := Aside0.mk (hbox); have n2_ := Aside0.mk ((by rw [hg]; exact (below_size (by repeat (first | (with_reducible first | exact HB.out | apply below_alloc | apply pw_below_drewN | apply below_drew1) | exact HB.out))) : w.heap.size ≤ gb103)); have n3_ := Aside0.mk ((by rw [hg]; exact (below_size (by repeat (first | (with_reducible first | exact HB.out | apply below_alloc | apply pw_below_drewN | apply below_drew1) | exact HB.out))) : w.heap.size ≤ gb103)); clear HB; have HB := n0_; have BK103 := n1_; have GW103 := n2_; have GE103 := n3_; clear n0_ n1_ n2_ n3_; clear hb hbox hg; have hcz10_0 : w9.cell? ⟨gb103, 0, none⟩ = some (.int .i64 a0_0) := (blk_cell BK103.out 0).trans rfl; have hcz10_1 : w9.cell? ⟨gb103, 1, none⟩ = some (.int .i64 a0_1) := (blk_cell BK103.out 1).trans rfl; have hcz10_2 : w9.cell? ⟨gb103, 2, none⟩ = some (.int .i64 a0_2) := (blk_cell BK103.out 2).trans rfl; have hfz10_0 := blk_frozen BK103.out 0; have hfz10_1 := blk_frozen BK103.out 1; have hfz10_2 := blk_frozen BK103.out 2))
            go_ret
            exact ⟨by first | rfl | (simp [errW_none, errW_some] <;> rfl) | (simp [*, errW_none, errW_some] <;> rfl), by repeat (first | (with_reducible first | exact HB.out | apply below_alloc | apply pw_below_drewN | apply below_drew1 | refine below_set ?_ GE103.out) | exact HB.out)⟩
        · rw [if_neg c5] at H
          have c5b0 : decide (a0_1 ≤ 32) = false := decide_eq_false c5
          clear c5
          obtain rfl := Option.some.inj H
          go_enter Try.func12, Try.ntmps12
          go_wp2_with (first | ((with_reducible refine gate_dst (N := 1) rfl ?_); refine box_event ?hg (N := 1) ?hd (cs := #[.int .i64 a0_0, .int .i64 a0_1, .int .i64 a0_2]) (t := 23) ?hr ?_; (case hd => rfl); (case hg => rfl); (case hr => first | (go_simp; done) | (go_simp; rfl)); intro gb103 hg w11 hbox hb; have n0_ := Aside0.mk (below_step (by repeat (first | (with_reducible first | exact HB.out | apply below_alloc | apply pw_below_drewN | apply below_drew1) | exact HB.out)) hb); have n1_ := Aside0.mk (hbox); have n2_ := Aside0.mk ((by rw [hg]; exact (below_size (by repeat (first | (with_reducible first | exact HB.out | apply below_alloc | apply pw_below_drewN | apply below_drew1) | exact HB.out))) : w.heap.size ≤ gb103)); have n3_ := Aside0.mk ((by rw [hg]; exact (below_size (by repeat (first | (with_reducible first | exact HB.out | apply below_alloc | apply pw_below_drewN | apply below_drew1) | exact HB.out))) : w.heap.size ≤ gb103)); clear HB; have HB := n0_; have BK103 := n1_; have GW103 := n2_; have GE103 := n3_; clear n0_ n1_ n2_ n3_; clear hb hbox hg; have hcz12_0 : w11.cell? ⟨gb103, 0, none⟩ = some (.int .i64 a0_0) := (blk_cell BK103.out 0).trans rfl; have hcz12_1 : w11.cell? ⟨gb103, 1, none⟩ = some (.int .i64 a0_1) := (blk_cell BK103.out 1).trans rfl; have hcz12_2 : w11.cell? ⟨gb103, 2, none⟩ = some (.int .i64 a0_2) := (blk_cell BK103.out 2).trans rfl; have hfz12_0 := blk_frozen BK103.out 0; have hfz12_1 := blk_frozen BK103.out 1; have hfz12_2 := blk_frozen BK103.out 2))
          go_ret
          exact ⟨by first | rfl | (simp [errW_none, errW_some] <;> rfl) | (simp [*, errW_none, errW_some] <;> rfl), by repeat (first | (with_reducible first | exact HB.out | apply below_alloc | apply pw_below_drewN | apply below_drew1 | refine below_set ?_ GE103.out) | exact HB.out)⟩
      · rw [if_neg c4] at H
        have c4b0 : decide (4 ≤ a0_1) = false := decide_eq_false c4
        clear c4
        obtain rfl := Option.some.inj H
        go_enter Try.func12, Try.ntmps12
        go_wp2_with (first | ((with_reducible refine gate_dst (N := 1) rfl ?_); refine box_event ?hg (N := 1) ?hd (cs := #[.int .i64 a0_0, .int .i64 a0_1, .int .i64 a0_2]) (t := 23) ?hr ?_; (case hd => rfl); (case hg => rfl); (case hr => first | (go_simp; done) | (go_simp; rfl)); intro gb103 hg w13 hbox hb; have n0_ := Aside0.mk (below_step (by repeat (first | (with_reducible first | exact HB.out | apply below_alloc | apply pw_below_drewN | apply below_drew1) | exact HB.out)) hb); have n1_ := Aside0.mk (hbox); have n2_ := Aside0.mk ((by rw [hg]; exact (below_size (by repeat (first | (with_reducible first | exact HB.out | apply below_alloc | apply pw_below_drewN | apply below_drew1) | exact HB.out))) : w.heap.size ≤ gb103)); have n3_ := Aside0.mk ((by rw [hg]; exact (below_size (by repeat (first | (with_reducible first | exact HB.out | apply below_alloc | apply pw_below_drewN | apply below_drew1) | exact HB.out))) : w.heap.size ≤ gb103)); clear HB; have HB := n0_; have BK103 := n1_; have GW103 := n2_; have GE103 := n3_; clear n0_ n1_ n2_ n3_; clear hb hbox hg; have hcz14_0 : w13.cell? ⟨gb103, 0, none⟩ = some (.int .i64 a0_0) := (blk_cell BK103.out 0).trans rfl; have hcz14_1 : w13.cell? ⟨gb103, 1, none⟩ = some (.int .i64 a0_1) := (blk_cell BK103.out 1).trans rfl; have hcz14_2 : w13.cell? ⟨gb103, 2, none⟩ = some (.int .i64 a0_2) := (blk_cell BK103.out 2).trans rfl; have hfz14_0 := blk_frozen BK103.out 0; have hfz14_1 := blk_frozen BK103.out 1; have hfz14_2 := blk_frozen BK103.out 2))
        go_ret
        exact ⟨by first | rfl | (simp [errW_none, errW_some] <;> rfl) | (simp [*, errW_none, errW_some] <;> rfl), by repeat (first | (with_reducible first | exact HB.out | apply below_alloc | apply pw_below_drewN | apply below_drew1 | refine below_set ?_ GE103.out) | exact HB.out)⟩
    · rw [if_neg c3] at H
      have c3b0 : decide (a0_0 ≤ 34) = false := decide_eq_false c3
      clear c3
      obtain rfl := Option.some.inj H
      go_enter Try.func12, Try.ntmps12
      go_wp2_with (first | ((with_reducible refine gate_dst (N := 1) rfl ?_); refine box_event ?hg (N := 1) ?hd (cs := #[.int .i64 a0_0, .int .i64 a0_1, .int .i64 a0_2]) (t := 23) ?hr ?_; (case hd => rfl); (case hg => rfl); (case hr => first | (go_simp; done) | (go_simp; rfl)); intro gb103 hg w15 hbox hb; have n0_ := Aside0.mk (below_step (by repeat (first | (with_reducible first | exact HB.out | apply below_alloc | apply pw_below_drewN | apply below_drew1) | exact HB.out)) hb); have n1_ := Aside0.mk (hbox); have n2_ := Aside0.mk ((by rw [hg]; exact (below_size (by repeat (first | (with_reducible first | exact HB.out | apply below_alloc | apply pw_below_drewN | apply below_drew1) | exact HB.out))) : w.heap.size ≤ gb103)); have n3_ := Aside0.mk ((by rw [hg]; exact (below_size (by repeat (first | (with_reducible first | exact HB.out | apply below_alloc | apply pw_below_drewN | apply below_drew1) | exact HB.out))) : w.heap.size ≤ gb103)); clear HB; have HB := n0_; have BK103 := n1_; have GW103 := n2_; have GE103 := n3_; clear n0_ n1_ n2_ n3_; clear hb hbox hg; have hcz16_0 : w15.cell? ⟨gb103, 0, none⟩ = some (.int .i64 a0_0) := (blk_cell BK103.out 0).trans rfl; have hcz16_1 : w15.cell? ⟨gb103, 1, none⟩ = some (.int .i64 a0_1) := (blk_cell BK103.out 1).trans rfl; have hcz16_2 : w15.cell? ⟨gb103, 2, none⟩ = some (.int .i64 a0_2) := (blk_cell BK103.out 2).trans rfl; have hfz16_0 := blk_frozen BK103.out 0; have hfz16_1 := blk_frozen BK103.out 1; have hfz16_2 := blk_frozen BK103.out 2))
      go_ret
      exact ⟨by first | rfl | (simp [errW_none, errW_some] <;> rfl) | (simp [*, errW_none, errW_some] <;> rfl), by repeat (first | (with_reducible first | exact HB.out | apply below_alloc | apply pw_below_drewN | apply below_drew1 | refine below_set ?_ GE103.out) | exact HB.out)⟩
  · rw [if_neg c2] at H
    have c2b0 : decide (8 ≤ a0_0) = false := decide_eq_false c2
    clear c2
    obtain rfl := Option.some.inj H
    go_enter Try.func12, Try.ntmps12
    go_wp2_with (first | ((with_reducible refine gate_dst (N := 1) rfl ?_); refine box_event ?hg (N := 1) ?hd (cs := #[.int .i64 a0_0, .int .i64 a0_1, .int .i64 a0_2]) (t := 23) ?hr ?_; (case hd => rfl); (case hg => rfl); (case hr => first | (go_simp; done) | (go_simp; rfl)); intro gb103 hg w17 hbox hb; have n0_ := Aside0.mk (below_step (by repeat (first | (with_reducible first | exact HB.out | apply below_alloc | apply pw_below_drewN | apply below_drew1) | exact HB.out)) hb); have n1_ := Aside0.mk (hbox); have n2_ := Aside0.mk ((by rw [hg]; exact (below_size (by repeat (first | (with_reducible first | exact HB.out | apply below_alloc | apply pw_below_drewN | apply below_drew1) | exact HB.out))) : w.heap.size ≤ gb103)); have n3_ := Aside0.mk ((by rw [hg]; exact (below_size (by repeat (first | (with_reducible first | exact HB.out | apply below_alloc | apply pw_below_drewN | apply below_drew1) | exact HB.out))) : w.heap.size ≤ gb103)); clear HB; have HB := n0_; have BK103 := n1_; have GW103 := n2_; have GE103 := n3_; clear n0_ n1_ n2_ n3_; clear hb hbox hg; have hcz18_0 : w17.cell? ⟨gb103, 0, none⟩ = some (.int .i64 a0_0) := (blk_cell BK103.out 0).trans rfl; have hcz18_1 : w17.cell? ⟨gb103, 1, none⟩ = some (.int .i64 a0_1) := (blk_cell BK103.out 1).trans rfl; have hcz18_2 : w17.cell? ⟨gb103, 2, none⟩ = some (.int .i64 a0_2) := (blk_cell BK103.out 2).trans rfl; have hfz18_0 := blk_frozen BK103.out 0; have hfz18_1 := blk_frozen BK103.out 1; have hfz18_2 := blk_frozen BK103.out 2))
    go_ret
    exact ⟨by first | rfl | (simp [errW_none, errW_some] <;> rfl) | (simp [*, errW_none, errW_some] <;> rfl), by repeat (first | (with_reducible first | exact HB.out | apply below_alloc | apply pw_below_drewN | apply below_drew1 | refine below_set ?_ GE103.out) | exact HB.out)⟩
end Go.Proofs.Ytnchdmidaigheaa.Hp
namespace Go.Proofs.Ytnchdmidaigheaa.ND
set_option linter.unusedVariables false
set_option linter.unusedSimpArgs false
open Go.RowKit Go.Proofs.Ytnchdmidaigheaa.Hp Go.Proofs.YtnchdmidaigheaaW.PrintWords Go.Proofs.YtnchdmidaigheaaW.PrintLast Go.Proofs.YtnchdmidaigheaaW.PrintMore
def lightP (bad : List Int) (fs : List Flt) : Bool := (decide (bad.length ≤ 60) && decide (fs.length ≤ 40)) && fs.all fun f => decide (f.f2.length ≤ 300)
theorem light_loop (B P C : Int) (bad : List Int) (fs : List Flt) (hl : fs.length ≤ 40) : ∀ (d i : Nat), i + d = fs.length → Ev (fun k => wagtaillaw14_Plan_Light.l0 k (i : Int) B P C bad fs) ((fs.drop i).all fun f => decide (f.f2.length ≤ 300))
  | 0, i, hd => by
    refine Ev.step (f := fun k => some true) (fun k => ?_) ?_
    · simp only [wagtaillaw14_Plan_Light.l0]
      rw [if_neg (by omega)]
    · rw [List.drop_of_length_le (by omega)]
      exact Ev.now _
  | d + 1, i, hd => by
    have hi : i < fs.length := by omega
    have e2 : wrap64 ((i : Int) + 1) = ((i + 1 : Nat) : Int) := by unfold wrap64; omega
    have hr : rd_T65 fs (i : Int) = fs[i] := by unfold rd_T65; rw [Int.toNat_natCast, List.getD_eq_getElem?_getD, List.getElem?_eq_getElem hi]; rfl
    refine Ev.step (f := fun k => if ((fs[i].f2).length : Int) > 300 then some false else wagtaillaw14_Plan_Light.l0 k ((i + 1 : Nat) : Int) B P C bad fs) (fun k => ?_) ?_
    · simp only [wagtaillaw14_Plan_Light.l0]
      rw [if_pos (by omega), if_pos (by omega), hr, e2]
    · rw [List.drop_eq_getElem_cons hi, List.all_cons]
      by_cases h : ((fs[i].f2).length : Int) > 300
      · refine Ev.congr (fun k => if_pos h) ?_
        rw [decide_eq_false (show ¬ (fs[i].f2).length ≤ 300 by omega), Bool.false_and]
        exact Ev.now _
      · refine Ev.congr (fun k => if_neg h) ?_
        rw [decide_eq_true (show (fs[i].f2).length ≤ 300 by omega), Bool.true_and]
        exact light_loop B P C bad fs hl d (i + 1) (by omega)
theorem light_ev (B P C : Int) (bad : List Int) (fs : List Flt) : Ev (fun k => wagtaillaw14_Plan_Light.f k B P C bad fs) (lightP bad fs) := by
  unfold lightP
  by_cases h1 : bad.length ≤ 60
  · by_cases h2 : fs.length ≤ 40
    · refine Ev.congr (f := fun k => wagtaillaw14_Plan_Light.j0 k false B P C bad fs) (fun k => ?_) ?_
      · unfold wagtaillaw14_Plan_Light.f
        rw [if_neg (by omega), decide_eq_false (by omega)]
      · rw [decide_eq_true h1, decide_eq_true h2, Bool.true_and, Bool.true_and]
        have := light_loop B P C bad fs h2 fs.length 0 (by omega)
        rw [List.drop_zero] at this
        exact Ev.step (fun k => by simp only [wagtaillaw14_Plan_Light.j0]; rw [if_neg (by decide)]; rfl) this
    · refine Ev.congr (f := fun k => wagtaillaw14_Plan_Light.j0 k true B P C bad fs) (fun k => ?_) ?_
      · unfold wagtaillaw14_Plan_Light.f
        rw [if_neg (by omega), decide_eq_true (by omega)]
      · rw [decide_eq_false h2, Bool.and_false, Bool.false_and]
        exact Ev.step (f := fun k => some false) (fun k => by simp only [wagtaillaw14_Plan_Light.j0]; rw [if_pos (by decide)]) (Ev.now _)
  · refine Ev.congr (f := fun k => wagtaillaw14_Plan_Light.j0 k true B P C bad fs) (fun k => ?_) ?_
    · unfold wagtaillaw14_Plan_Light.f
      rw [if_pos (by omega)]
    · rw [decide_eq_false h1, Bool.false_and, Bool.false_and]
      exact Ev.step (f := fun k => some false) (fun k => by simp only [wagtaillaw14_Plan_Light.j0]; rw [if_pos (by decide)]) (Ev.now _)
def Two (W w : World) (L : Lay) (X : XLay) (D E : Dv) : Prop := ∃ ok okx, DV w ok L D ∧ XV w okx X E ∧ (∀ k, L.all ok k → k < w.heap.size → ¬ X.S k) ∧ (∀ k, okx k ∨ X.S k → k < w.heap.size → ¬ L.S k) ∧ Below W.heap.size W w ∧ ∀ k, L.S k ∨ X.S k → W.heap.size ≤ k
section
variable {W w w' : World} {L : Lay} {X : XLay} {D D' E E' : Dv} {ok' okx' : Nat → Prop}
theorem Two.lt (h : Two W w L X D E) : ∀ k, L.S k ∨ X.S k → k < w.heap.size := by
  obtain ⟨ok, okx, h1, h2, _⟩ := h
  exact fun k hk => hk.elim (h1.lt k) (h2.lt k)
theorem Two.below (h : Two W w L X D E) (hb : Below w.heap.size w w') : Two W w' L X D E := by
  have hlt := h.lt
  obtain ⟨ok, okx, h1, h2, h3, h4, h5, h6⟩ := h
  exact ⟨ok, okx, h1.below hb, h2.below hb, fun k hk _ hX => h3 k hk (hlt k (.inr hX)) hX, fun k hk _ hL => h4 k hk (hlt k (.inl hL)) hL, below_then h5 h5.size hb, h6⟩
theorem Two.left (h : Two W w L X D E) : ∃ ok, DV w ok L D := by obtain ⟨ok, okx, h1, _⟩ := h; exact ⟨ok, h1⟩
end
end Go.Proofs.Ytnchdmidaigheaa.ND
