/- A device's page is changed, by whatever function. -/
import Derived.Test.YtnchdmidaigheaaD3
namespace Go.Proofs.Ytnchdmidaigheaa.ND
set_option linter.unusedVariables false
set_option linter.unusedSimpArgs false
open Go.RowKit Go.Proofs.Ytnchdmidaigheaa.Hp Go.Proofs.YtnchdmidaigheaaW.PrintWords Go.Proofs.YtnchdmidaigheaaW.PrintLast Go.Proofs.YtnchdmidaigheaaW.PrintMore
section
variable {P : Program} {ops : Array Oper} {Q : Exit → Act → World → Prop}
/-- a call of a function that is a value -/
theorem goesv_ {oi : Oper} {N : Option Tmp} {a : Act} {w : World} {K : Act → World → Prop} {f : FuncId} {fn : Func} {as_ : Array Operand} {ts : Array TypeId} {tc : Tmp} {caps : Array Value} (hf : P.funcs[f]? = some fn) (hname : (fn.name == "runtime.NumGoroutine") = false) (hb : fn.body.isSome = true) (args : Array Value)
    (hw : Region.wanted oi (yielded ops a.tmps) = true) (hN : oi.dst = N) (hop : oi.op = .call { callee := .value (.tmp tc), args := as_, argTypes := ts }) (hc : a.tmps[tc]? = some (.func (.func f) #[] caps)) (hargs : as_.map a.eval = args)
    (h : Calls P f (args ++ caps) w fun e w' => ∃ v, e = .returned v ∧ K (a.put N v) w') : if Region.wanted oi (yielded ops a.tmps) = true then Oper.wp P oi a w K Q else K (a.put N undef) w := by
  refine call_ f (args ++ caps) hw hN ?_ h
  have he := enters_ hf hname hb (args ++ caps) w
  have hc' : a.tmps.getD tc undef = .func (.func f) #[] caps := by simp [Array.getD_eq_getD_getElem?, hc]
  unfold execOp
  simp [hop, resolve, Deferred.ofValue, invoke, Act.eval, hargs, he, hc']
end
-- tabs
def change0.T0 : Bool × List (List Nat × List Nat) := (true, [([], []), ([0], [0]), ([1], [1]), ([2], [2]), ([], []), ([], []), ([], []), ([6], [6]), ([7], [7]), ([8], [8]), ([], []), ([9, 10], [9, 10]), ([11], [11]), ([5, 12], [5, 12]), ([3, 4, 0, 1, 2, 3, 4, 5, 6, 7, 8, 9, 10, 11, 12, 13], [3, 4]), ([14, 13, 13, 0, 1, 2, 3, 4, 5, 6, 7, 8, 9, 10, 11, 12, 13], [13, 14])])
def change0.B0 : List Nat := [0, 1, 3, 7, 0, 0, 0, 64, 192, 448, 0, 1984, 4032, 8160, 16383, 32767]
theorem change0.tab0 : rtab .any (opsOf Try.f65 0) = change0.T0 := by kernel_rfl
theorem change0.bits0 : waitsOk change0.T0.2 change0.B0 = true := by kernel_rfl
-- tabs end
theorem newer_le {W W' : World} {ok : Nat → Prop} (h : W.heap.size ≤ W'.heap.size) : ∀ k, newer W' ok k → newer W ok k := fun k hk => hk.elim .inl (fun hk => .inr (Nat.le_trans h hk))
theorem DV.newer_ {W W' : World} {ok : Nat → Prop} {L : Lay} {D : Dv} (h : DV W' ok L D) (hl : ∀ k, L.S k → k < W.heap.size) : DV W' (newer W ok) L D :=
  h.mono (fun k hk => .inl hk) (fun k hk hlt hS => by
    rcases hk with hk | hk
    · exact h.no k hk hlt hS
    · have := hl k hS; omega)
set_option maxHeartbeats 2000000 in
set_option maxRecDepth 100000 in
theorem change_calls {W : World} {ok : Nat → Prop} {L : Lay} {D : Dv} (h : DV W ok L D) (i : Nat) (hi : i < D.pages.length) (kf : FuncId) (fn : Func) (caps : Array Value) (hK : Try.prog.funcs[kf]? = some fn) (hname : (fn.name == "runtime.NumGoroutine") = false) (hbody : fn.body.isSome = true) (l' : List Int) (hl : isBytes l' ∧ l'.length = 256)
    (hdo : ∀ W', Below W.heap.size W W' → ∀ A c, 256 ≤ c → Kd.C (Kd.int .u8) W' A 256 (D.pages.getD i []) → Calls Try.prog kf (#[.slice A 256 c] ++ caps) W' fun e w' => ∃ A c, e = .returned (.slice A 256 c) ∧ 256 ≤ c ∧ Kd.F (Kd.int .u8) w' (newer W' ok) A 256 l' ∧ Below W'.heap.size W' w') :
    Calls Try.prog 65 #[.pointer (some ⟨L.g, 0, none⟩), .int .i64 (i : Int),   .func (.func kf) #[] caps] W fun e w' => e = .returned (.tuple #[]) ∧ DV w' (newer W ok) L { D with pages := D.pages.set i l' } ∧ Turn W w' L.S := by
  obtain ⟨vs, hcv, hpg⟩ := h.pg
  have hil : i < vs.length := by rw [hpg.1]; exact hi
  obtain ⟨Ai, ci, hv, hci, hFi⟩ := hpg.2 i vs[i] (D.pages.getD i []) (List.getElem?_eq_getElem hil) (by rw [List.getD_eq_getElem?_getD, List.getElem?_eq_getElem hi]; rfl)
  have HV : Aside0 (vs[i]? = some (.slice Ai 256 ci)) := ⟨by rw [List.getElem?_eq_getElem hil, hv]⟩
  have HC := Aside0.mk hcv
  have HFI := Aside0.mk (And.intro hci hFi)
  have HP := Aside0.mk (And.intro (eq_true (show (0 : Int) ≤ (i : Int) by omega)) (eq_true (show (i : Int) < ((D.pages.length : Nat) : Int) by omega)))
  have H := Aside0.mk h
  have HDO := Aside0.mk hdo
  have HK := Aside0.mk (And.intro hK (And.intro hname hbody))
  have HLL := Aside0.mk hl
  have B0 := Aside0.mk (below_drew1 (Below.refl W.heap.size W))
  clear hcv hpg hil hv hci hFi h hdo hK hname hbody hl hi
  go_enter Try.func65, Try.ntmps65
  go_upto_region 0 with fail
  -- R0
  refine start_ (n := 16) (S := fun w' => True) (ds := []) #[false, false, false, false, false, false, false, false, false, false, false, false, false, false, false, false] (by kernel_rfl) rfl rfl trivial (fun hHeld => ?_)
  refine with_tabW change0.tab0 change0.bits0 (fun HT_ HW_ => ?_)
  generalize W.drew = wq at B0 hHeld ⊢
  refine inv_at [0, 1, 2, 3, 4, 5, 6, 7, 8, 9, 10, 11, 12, 13, 14, 15] (fun a0_ b a w' => ∃ (A13 : Option Addr) (c13 : Nat) (m13_ : Value), a = putSel a0_ b [(0, 6, .pointer (some ⟨L.g, 0, none⟩)), (1, 7, .pointer (some ⟨L.g, 0, none⟩)), (2, 8, .pointer (some ⟨L.g, 4, none⟩)), (3, 9, .slice (some ⟨L.gp, 0, none⟩) D.pages.length L.cp), (4, 10, .int .i64 (i : Int)), (5, 11, .func (.func kf) #[] caps), (6, 12, .pointer (some ⟨L.g, 0, none⟩)), (7, 13, .pointer (some ⟨L.g, 0, none⟩)), (8, 14, .pointer (some ⟨L.g, 4, none⟩)), (9, 15, .slice (some ⟨L.gp, 0, none⟩) D.pages.length L.cp), (10, 16, .int .i64 (i : Int)), (11, 17, .pointer (some ⟨L.gp, i, none⟩)), (12, 18, .slice Ai 256 ci), (13, 19, m13_), (14, 20, .pointer (some ⟨L.gp, i, none⟩))] ∧ (b 15 = false → Below W.heap.size W w') ∧ (b 13 = true → b 15 = false → 256 ≤ c13 ∧ Kd.F (Kd.int .u8) w' (newer W ok) A13 256 l') ∧ (b 15 = true → DV w' (newer W ok) L { D with pages := D.pages.set i l' } ∧ Turn W w' L.S) ∧ (b 13 = true → (m13_ : Value) = .slice A13 256 c13)) HT_.out HW_.out (by kernel_rfl) (by kernel_rfl) ?_ ?_ ?_
  · exact ⟨none, 0, .bool false, by simp only [putSel, Bool.false_eq_true, if_false], fun _ => B0.out, fun h_ => absurd h_ (by decide), fun h_ => absurd h_ (by decide), fun h_ => absurd h_ (by decide)⟩
  · skip
    clear B0
    refine steps_cons ?_ ?_
    · rintro b a w' ⟨A13, c13, m13_, ha, Q_B0, Q_R13, Q_FIN, Q_X13_⟩ hb_ hon hoff
      refine ⟨_, rfl, fun K hK => ?_⟩
      have e0 : a.tmps[0]? = some (.pointer (some ⟨L.g, 0, none⟩)) := by rw [ha]; exact (putSel_off rfl).trans rfl
      replace ha := Aside0.mk ha
      have B0 := Aside0.mk (Q_B0 (hoff 15 (by kernel_rfl)))
      refine value_ (w1 := w') (v := .pointer (some ⟨L.g, 0, none⟩)) (by rfl) rfl ?_ ?_
      · go_simp
        (try simp only [i64_w])
        try rfl
      refine hK.out _ _ ⟨A13, c13, m13_, (by rw [ha.out]; exact putSel_upk 0 hb_ rfl rfl rfl), Q_B0, Q_R13, fun h0_ => absurd ((hoff 15 (by kernel_rfl)).symm.trans h0_) (by decide), Q_X13_⟩
    refine steps_cons ?_ ?_
    · rintro b a w' ⟨A13, c13, m13_, ha, Q_B0, Q_R13, Q_FIN, Q_X13_⟩ hb_ hon hoff
      refine ⟨_, rfl, fun K hK => ?_⟩
      have e6 : a.tmps[6]? = some (.pointer (some ⟨L.g, 0, none⟩)) := by rw [ha]; exact putSel_on (e := (0, 6, .pointer (some ⟨L.g, 0, none⟩))) 0 rfl rfl (hon 0 (by kernel_rfl)) rfl
      replace ha := Aside0.mk ha
      have B0 := Aside0.mk (Q_B0 (hoff 15 (by kernel_rfl)))
      refine value_ (w1 := w') (v := .pointer (some ⟨L.g, 0, none⟩)) (by rfl) rfl ?_ ?_
      · go_simp
        (try simp only [i64_w])
        try rfl
      refine hK.out _ _ ⟨A13, c13, m13_, (by rw [ha.out]; exact putSel_upk 1 hb_ rfl rfl rfl), Q_B0, Q_R13, fun h0_ => absurd ((hoff 15 (by kernel_rfl)).symm.trans h0_) (by decide), Q_X13_⟩
    refine steps_cons ?_ ?_
    · rintro b a w' ⟨A13, c13, m13_, ha, Q_B0, Q_R13, Q_FIN, Q_X13_⟩ hb_ hon hoff
      refine ⟨_, rfl, fun K hK => ?_⟩
      have e7 : a.tmps[7]? = some (.pointer (some ⟨L.g, 0, none⟩)) := by rw [ha]; exact putSel_on (e := (1, 7, .pointer (some ⟨L.g, 0, none⟩))) 1 rfl rfl (hon 1 (by kernel_rfl)) rfl
      replace ha := Aside0.mk ha
      have B0 := Aside0.mk (Q_B0 (hoff 15 (by kernel_rfl)))
      refine value_ (w1 := w') (v := .pointer (some ⟨L.g, 4, none⟩)) (by rfl) rfl ?_ ?_
      · go_simp
        (try simp only [i64_w])
        try rfl
      refine hK.out _ _ ⟨A13, c13, m13_, (by rw [ha.out]; exact putSel_upk 2 hb_ rfl rfl rfl), Q_B0, Q_R13, fun h0_ => absurd ((hoff 15 (by kernel_rfl)).symm.trans h0_) (by decide), Q_X13_⟩
    refine steps_cons ?_ ?_
    · rintro b a w' ⟨A13, c13, m13_, ha, Q_B0, Q_R13, Q_FIN, Q_X13_⟩ hb_ hon hoff
      refine ⟨_, rfl, fun K hK => ?_⟩
      have e8 : a.tmps[8]? = some (.pointer (some ⟨L.g, 4, none⟩)) := by rw [ha]; exact putSel_on (e := (2, 8, .pointer (some ⟨L.g, 4, none⟩))) 2 rfl rfl (hon 2 (by kernel_rfl)) rfl
      replace ha := Aside0.mk ha
      have B0 := Aside0.mk (Q_B0 (hoff 15 (by kernel_rfl)))
      have c_ := (top_cells (H.out.below B0.out)).2.2.2.2.1
      refine value_ (w1 := w') (v := .slice (some ⟨L.gp, 0, none⟩) D.pages.length L.cp) (by rfl) rfl ?_ ?_
      · go_simp
        (try simp only [i64_w])
        try rfl
      refine hK.out _ _ ⟨A13, c13, m13_, (by rw [ha.out]; exact putSel_upk 3 hb_ rfl rfl rfl), Q_B0, Q_R13, fun h0_ => absurd ((hoff 15 (by kernel_rfl)).symm.trans h0_) (by decide), Q_X13_⟩
    refine steps_cons ?_ ?_
    · rintro b a w' ⟨A13, c13, m13_, ha, Q_B0, Q_R13, Q_FIN, Q_X13_⟩ hb_ hon hoff
      refine ⟨_, rfl, fun K hK => ?_⟩
      have e1 : a.tmps[1]? = some (.int .i64 (i : Int)) := by rw [ha]; exact (putSel_off rfl).trans rfl
      replace ha := Aside0.mk ha
      have B0 := Aside0.mk (Q_B0 (hoff 15 (by kernel_rfl)))
      refine value_ (w1 := w') (v := .int .i64 (i : Int)) (by rfl) rfl ?_ ?_
      · go_simp
        (try simp only [i64_w])
        try rfl
      refine hK.out _ _ ⟨A13, c13, m13_, (by rw [ha.out]; exact putSel_upk 4 hb_ rfl rfl rfl), Q_B0, Q_R13, fun h0_ => absurd ((hoff 15 (by kernel_rfl)).symm.trans h0_) (by decide), Q_X13_⟩
    refine steps_cons ?_ ?_
    · rintro b a w' ⟨A13, c13, m13_, ha, Q_B0, Q_R13, Q_FIN, Q_X13_⟩ hb_ hon hoff
      refine ⟨_, rfl, fun K hK => ?_⟩
      have e2 : a.tmps[2]? = some (.func (.func kf) #[] caps) := by rw [ha]; exact (putSel_off rfl).trans rfl
      replace ha := Aside0.mk ha
      have B0 := Aside0.mk (Q_B0 (hoff 15 (by kernel_rfl)))
      refine value_ (w1 := w') (v := .func (.func kf) #[] caps) (by rfl) rfl ?_ ?_
      · go_simp
        (try simp only [i64_w])
        try rfl
      refine hK.out _ _ ⟨A13, c13, m13_, (by rw [ha.out]; exact putSel_upk 5 hb_ rfl rfl rfl), Q_B0, fun h0_ _ => absurd ((hoff 13 (by kernel_rfl)).symm.trans h0_) (by decide), fun h0_ => absurd ((hoff 15 (by kernel_rfl)).symm.trans h0_) (by decide), fun h0_ => absurd ((hoff 13 (by kernel_rfl)).symm.trans h0_) (by decide)⟩
    refine steps_cons ?_ ?_
    · rintro b a w' ⟨A13, c13, m13_, ha, Q_B0, Q_R13, Q_FIN, Q_X13_⟩ hb_ hon hoff
      refine ⟨_, rfl, fun K hK => ?_⟩
      have e0 : a.tmps[0]? = some (.pointer (some ⟨L.g, 0, none⟩)) := by rw [ha]; exact (putSel_off rfl).trans rfl
      replace ha := Aside0.mk ha
      have B0 := Aside0.mk (Q_B0 (hoff 15 (by kernel_rfl)))
      refine value_ (w1 := w') (v := .pointer (some ⟨L.g, 0, none⟩)) (by rfl) rfl ?_ ?_
      · go_simp
        (try simp only [i64_w])
        try rfl
      refine hK.out _ _ ⟨A13, c13, m13_, (by rw [ha.out]; exact putSel_upk 6 hb_ rfl rfl rfl), Q_B0, fun h0_ _ => absurd ((hoff 13 (by kernel_rfl)).symm.trans h0_) (by decide), fun h0_ => absurd ((hoff 15 (by kernel_rfl)).symm.trans h0_) (by decide), fun h0_ => absurd ((hoff 13 (by kernel_rfl)).symm.trans h0_) (by decide)⟩
    refine steps_cons ?_ ?_
    · rintro b a w' ⟨A13, c13, m13_, ha, Q_B0, Q_R13, Q_FIN, Q_X13_⟩ hb_ hon hoff
      refine ⟨_, rfl, fun K hK => ?_⟩
      have e12 : a.tmps[12]? = some (.pointer (some ⟨L.g, 0, none⟩)) := by rw [ha]; exact putSel_on (e := (6, 12, .pointer (some ⟨L.g, 0, none⟩))) 6 rfl rfl (hon 6 (by kernel_rfl)) rfl
      replace ha := Aside0.mk ha
      have B0 := Aside0.mk (Q_B0 (hoff 15 (by kernel_rfl)))
      refine value_ (w1 := w') (v := .pointer (some ⟨L.g, 0, none⟩)) (by rfl) rfl ?_ ?_
      · go_simp
        (try simp only [i64_w])
        try rfl
      refine hK.out _ _ ⟨A13, c13, m13_, (by rw [ha.out]; exact putSel_upk 7 hb_ rfl rfl rfl), Q_B0, fun h0_ _ => absurd ((hoff 13 (by kernel_rfl)).symm.trans h0_) (by decide), fun h0_ => absurd ((hoff 15 (by kernel_rfl)).symm.trans h0_) (by decide), fun h0_ => absurd ((hoff 13 (by kernel_rfl)).symm.trans h0_) (by decide)⟩
    refine steps_cons ?_ ?_
    · rintro b a w' ⟨A13, c13, m13_, ha, Q_B0, Q_R13, Q_FIN, Q_X13_⟩ hb_ hon hoff
      refine ⟨_, rfl, fun K hK => ?_⟩
      have e13 : a.tmps[13]? = some (.pointer (some ⟨L.g, 0, none⟩)) := by rw [ha]; exact putSel_on (e := (7, 13, .pointer (some ⟨L.g, 0, none⟩))) 7 rfl rfl (hon 7 (by kernel_rfl)) rfl
      replace ha := Aside0.mk ha
      have B0 := Aside0.mk (Q_B0 (hoff 15 (by kernel_rfl)))
      refine value_ (w1 := w') (v := .pointer (some ⟨L.g, 4, none⟩)) (by rfl) rfl ?_ ?_
      · go_simp
        (try simp only [i64_w])
        try rfl
      refine hK.out _ _ ⟨A13, c13, m13_, (by rw [ha.out]; exact putSel_upk 8 hb_ rfl rfl rfl), Q_B0, fun h0_ _ => absurd ((hoff 13 (by kernel_rfl)).symm.trans h0_) (by decide), fun h0_ => absurd ((hoff 15 (by kernel_rfl)).symm.trans h0_) (by decide), fun h0_ => absurd ((hoff 13 (by kernel_rfl)).symm.trans h0_) (by decide)⟩
    refine steps_cons ?_ ?_
    · rintro b a w' ⟨A13, c13, m13_, ha, Q_B0, Q_R13, Q_FIN, Q_X13_⟩ hb_ hon hoff
      refine ⟨_, rfl, fun K hK => ?_⟩
      have e14 : a.tmps[14]? = some (.pointer (some ⟨L.g, 4, none⟩)) := by rw [ha]; exact putSel_on (e := (8, 14, .pointer (some ⟨L.g, 4, none⟩))) 8 rfl rfl (hon 8 (by kernel_rfl)) rfl
      replace ha := Aside0.mk ha
      have B0 := Aside0.mk (Q_B0 (hoff 15 (by kernel_rfl)))
      have c_ := (top_cells (H.out.below B0.out)).2.2.2.2.1
      refine value_ (w1 := w') (v := .slice (some ⟨L.gp, 0, none⟩) D.pages.length L.cp) (by rfl) rfl ?_ ?_
      · go_simp
        (try simp only [i64_w])
        try rfl
      refine hK.out _ _ ⟨A13, c13, m13_, (by rw [ha.out]; exact putSel_upk 9 hb_ rfl rfl rfl), Q_B0, fun h0_ _ => absurd ((hoff 13 (by kernel_rfl)).symm.trans h0_) (by decide), fun h0_ => absurd ((hoff 15 (by kernel_rfl)).symm.trans h0_) (by decide), fun h0_ => absurd ((hoff 13 (by kernel_rfl)).symm.trans h0_) (by decide)⟩
    refine steps_cons ?_ ?_
    · rintro b a w' ⟨A13, c13, m13_, ha, Q_B0, Q_R13, Q_FIN, Q_X13_⟩ hb_ hon hoff
      refine ⟨_, rfl, fun K hK => ?_⟩
      have e1 : a.tmps[1]? = some (.int .i64 (i : Int)) := by rw [ha]; exact (putSel_off rfl).trans rfl
      replace ha := Aside0.mk ha
      have B0 := Aside0.mk (Q_B0 (hoff 15 (by kernel_rfl)))
      refine value_ (w1 := w') (v := .int .i64 (i : Int)) (by rfl) rfl ?_ ?_
      · go_simp
        (try simp only [i64_w])
        try rfl
      refine hK.out _ _ ⟨A13, c13, m13_, (by rw [ha.out]; exact putSel_upk 10 hb_ rfl rfl rfl), Q_B0, fun h0_ _ => absurd ((hoff 13 (by kernel_rfl)).symm.trans h0_) (by decide), fun h0_ => absurd ((hoff 15 (by kernel_rfl)).symm.trans h0_) (by decide), fun h0_ => absurd ((hoff 13 (by kernel_rfl)).symm.trans h0_) (by decide)⟩
    refine steps_cons ?_ ?_
    · rintro b a w' ⟨A13, c13, m13_, ha, Q_B0, Q_R13, Q_FIN, Q_X13_⟩ hb_ hon hoff
      refine ⟨_, rfl, fun K hK => ?_⟩
      have e15 : a.tmps[15]? = some (.slice (some ⟨L.gp, 0, none⟩) D.pages.length L.cp) := by rw [ha]; exact putSel_on (e := (9, 15, .slice (some ⟨L.gp, 0, none⟩) D.pages.length L.cp)) 9 rfl rfl (hon 9 (by kernel_rfl)) rfl
      have e16 : a.tmps[16]? = some (.int .i64 (i : Int)) := by rw [ha]; exact putSel_on (e := (10, 16, .int .i64 (i : Int))) 10 rfl rfl (hon 10 (by kernel_rfl)) rfl
      replace ha := Aside0.mk ha
      have B0 := Aside0.mk (Q_B0 (hoff 15 (by kernel_rfl)))
      have p_ := HP.out.1
      have q_ := HP.out.2
      refine value_ (w1 := w') (v := .pointer (some ⟨L.gp, i, none⟩)) (by rfl) rfl ?_ ?_
      · go_simp
        (try simp only [i64_w])
        try rfl
      refine hK.out _ _ ⟨A13, c13, m13_, (by rw [ha.out]; exact putSel_upk 11 hb_ rfl rfl rfl), Q_B0, fun h0_ _ => absurd ((hoff 13 (by kernel_rfl)).symm.trans h0_) (by decide), fun h0_ => absurd ((hoff 15 (by kernel_rfl)).symm.trans h0_) (by decide), fun h0_ => absurd ((hoff 13 (by kernel_rfl)).symm.trans h0_) (by decide)⟩
    refine steps_cons ?_ ?_
    · rintro b a w' ⟨A13, c13, m13_, ha, Q_B0, Q_R13, Q_FIN, Q_X13_⟩ hb_ hon hoff
      refine ⟨_, rfl, fun K hK => ?_⟩
      have e17 : a.tmps[17]? = some (.pointer (some ⟨L.gp, i, none⟩)) := by rw [ha]; exact putSel_on (e := (11, 17, .pointer (some ⟨L.gp, i, none⟩))) 11 rfl rfl (hon 11 (by kernel_rfl)) rfl
      replace ha := Aside0.mk ha
      have B0 := Aside0.mk (Q_B0 (hoff 15 (by kernel_rfl)))
      have c_ := (HC.out.below B0.out).cell HV.out
      refine value_ (w1 := w') (v := .slice Ai 256 ci) (by rfl) rfl ?_ ?_
      · go_simp
        (try simp only [i64_w])
        try rfl
      refine hK.out _ _ ⟨A13, c13, m13_, (by rw [ha.out]; exact putSel_upk 12 hb_ rfl rfl rfl), Q_B0, fun h0_ _ => absurd ((hoff 13 (by kernel_rfl)).symm.trans h0_) (by decide), fun h0_ => absurd ((hoff 15 (by kernel_rfl)).symm.trans h0_) (by decide), fun h0_ => absurd ((hoff 13 (by kernel_rfl)).symm.trans h0_) (by decide)⟩
    refine steps_cons ?_ ?_
    · rintro b a w' ⟨A13, c13, m13_, ha, Q_B0, Q_R13, Q_FIN, Q_X13_⟩ hb_ hon hoff
      refine ⟨_, rfl, fun K hK => ?_⟩
      have e11 : a.tmps[11]? = some (.func (.func kf) #[] caps) := by rw [ha]; exact putSel_on (e := (5, 11, .func (.func kf) #[] caps)) 5 rfl rfl (hon 5 (by kernel_rfl)) rfl
      have e18 : a.tmps[18]? = some (.slice Ai 256 ci) := by rw [ha]; exact putSel_on (e := (12, 18, .slice Ai 256 ci)) 12 rfl rfl (hon 12 (by kernel_rfl)) rfl
      replace ha := Aside0.mk ha
      have B0 := Aside0.mk (Q_B0 (hoff 15 (by kernel_rfl)))
      refine goesv_ HK.out.1 HK.out.2.1 HK.out.2.2 #[.slice Ai 256 ci] (by rfl) rfl rfl e11 (by first | (simp only [List.map_toArray, List.map_cons, List.map_nil, Act.eval, Array.getD_eq_getD_getElem?, Option.getD_some, e11, e18]; done) | (simp only [List.map_toArray, List.map_cons, List.map_nil, Act.eval, Array.getD_eq_getD_getElem?, Option.getD_some, e11, e18]; rfl)) ?_
      with_reducible refine (HDO.out _ B0.out Ai ci HFI.out.1 (Kd.C_below (Kd.F_now HFI.out.2) B0.out)).mono ?_
      rintro e w2 ⟨A_, c_, rfl, hc_, hF_, hb⟩
      refine ⟨_, rfl, ?_⟩
      refine hK.out _ _ ⟨A_, c_, (.slice A_ 256 c_), (by rw [ha.out]; exact putSel_upk 13 hb_ rfl rfl rfl), fun _ => below_then B0.out B0.out.size hb, fun _ _ => ⟨hc_, Kd.F_mono hF_ (newer_le B0.out.size)⟩, fun h0_ => absurd ((hoff 15 (by kernel_rfl)).symm.trans h0_) (by decide), fun _ => rfl⟩
    refine steps_cons ?_ ?_
    · rintro b a w' ⟨A13, c13, m13_, ha, Q_B0, Q_R13, Q_FIN, Q_X13_⟩ hb_ hon hoff
      refine ⟨_, rfl, fun K hK => ?_⟩
      have e9 : a.tmps[9]? = some (.slice (some ⟨L.gp, 0, none⟩) D.pages.length L.cp) := by rw [ha]; exact putSel_on (e := (3, 9, .slice (some ⟨L.gp, 0, none⟩) D.pages.length L.cp)) 3 rfl rfl (hon 3 (by kernel_rfl)) rfl
      have e10 : a.tmps[10]? = some (.int .i64 (i : Int)) := by rw [ha]; exact putSel_on (e := (4, 10, .int .i64 (i : Int))) 4 rfl rfl (hon 4 (by kernel_rfl)) rfl
      replace ha := Aside0.mk ha
      have B0 := Aside0.mk (Q_B0 (hoff 15 (by kernel_rfl)))
      have R13 := Aside0.mk (Q_R13 (hon 13 (by kernel_rfl)) (hoff 15 (by kernel_rfl)))
      have p_ := HP.out.1
      have q_ := HP.out.2
      refine value_ (w1 := w') (v := .pointer (some ⟨L.gp, i, none⟩)) (by rfl) rfl ?_ ?_
      · go_simp
        (try simp only [i64_w])
        try rfl
      refine hK.out _ _ ⟨A13, c13, m13_, (by rw [ha.out]; exact putSel_upk 14 hb_ rfl rfl rfl), Q_B0, Q_R13, fun h0_ => absurd ((hoff 15 (by kernel_rfl)).symm.trans h0_) (by decide), Q_X13_⟩
    refine steps_cons ?_ ?_
    · rintro b a w' ⟨A13, c13, m13_, ha, Q_B0, Q_R13, Q_FIN, Q_X13_⟩ hb_ hon hoff
      refine ⟨_, rfl, fun K hK => ?_⟩
      have e20 : a.tmps[20]? = some (.pointer (some ⟨L.gp, i, none⟩)) := by rw [ha]; exact putSel_on (e := (14, 20, .pointer (some ⟨L.gp, i, none⟩))) 14 rfl rfl (hon 14 (by kernel_rfl)) rfl
      have e19 : a.tmps[19]? = some (m13_) := by rw [ha]; exact putSel_on (e := (13, 19, m13_)) 13 rfl rfl (hon 13 (by kernel_rfl)) rfl
      rw [Q_X13_ (hon 13 (by kernel_rfl))] at e19
      replace ha := Aside0.mk ha
      have B0 := Aside0.mk (Q_B0 hb_)
      have R13 := Aside0.mk (Q_R13 (hon 13 (by kernel_rfl)) hb_)
      have c_ := (HC.out.below B0.out).cell HV.out
      have fr_ := (HC.out.below B0.out).frozen i
      refine skip_ (w1 := ?_) (by rfl) rfl ?_ ?_
      rotate_left
      · go_simp
        rfl
      refine hK.out _ _ ⟨A13, c13, m13_, (by rw [ha.out]; exact putSel_none (v := undef) rfl), fun h0_ => absurd ((up_self b 15).symm.trans h0_) (by decide), fun _ h1_ => absurd ((up_self b 15).symm.trans h1_) (by decide), fun _ => ⟨((H.out.below B0.out).newer_ H.out.lt).set_page i R13.out.1 R13.out.2 HLL.out, (Turn.of_below B0.out L.S).setCell (p := ⟨L.gp, i, none⟩) (.inl (.inr (.inl rfl))) _⟩, Q_X13_⟩
    exact steps_nil
  rintro b a wl hall ⟨A13, c13, m13_, ha, Q_B0, Q_R13, Q_FIN, Q_X13_⟩
  clear B0
  have hb0_ := hall 0 (by kernel_rfl)
  have hb1_ := hall 1 (by kernel_rfl)
  have hb2_ := hall 2 (by kernel_rfl)
  have hb3_ := hall 3 (by kernel_rfl)
  have hb4_ := hall 4 (by kernel_rfl)
  have hb5_ := hall 5 (by kernel_rfl)
  have hb6_ := hall 6 (by kernel_rfl)
  have hb7_ := hall 7 (by kernel_rfl)
  have hb8_ := hall 8 (by kernel_rfl)
  have hb9_ := hall 9 (by kernel_rfl)
  have hb10_ := hall 10 (by kernel_rfl)
  have hb11_ := hall 11 (by kernel_rfl)
  have hb12_ := hall 12 (by kernel_rfl)
  have hb13_ := hall 13 (by kernel_rfl)
  have hb14_ := hall 14 (by kernel_rfl)
  have hb15_ := hall 15 (by kernel_rfl)
  subst ha
  obtain rfl := Q_X13_ hb13_
  simp only [putSel, hb0_, hb1_, hb2_, hb3_, hb4_, hb5_, hb6_, hb7_, hb8_, hb9_, hb10_, hb11_, hb12_, hb13_, hb14_, hb15_, if_true, Act.put, List.setIfInBounds_toArray, List.set_cons_zero, List.set_cons_succ]
  clear Q_B0
  clear Q_R13
  have FIN := Aside0.mk (Q_FIN hb15_)
  clear Q_FIN
  clear hall hb0_ hb1_ hb2_ hb3_ hb4_ hb5_ hb6_ hb7_ hb8_ hb9_ hb10_ hb11_ hb12_ hb13_ hb14_ hb15_
  -- R0 end
  go_wp2_with fail
  go_end0
  exact ⟨rfl, FIN.out.1, FIN.out.2⟩
end Go.Proofs.Ytnchdmidaigheaa.ND
