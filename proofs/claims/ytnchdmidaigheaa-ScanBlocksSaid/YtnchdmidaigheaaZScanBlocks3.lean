/- Parts of the proof of the statement ScanBlocks, laid together (4 of 10). -/
import Derived.Deep.Upon
import Derived.Test.YtnchdmidaigheaaZScanBlocks2
namespace Go.Proofs.Ytnchdmidaigheaa.ND
set_option linter.unusedVariables false
set_option linter.unusedSimpArgs false
open Go.RowKit Go.Proofs.Ytnchdmidaigheaa.Hp Go.Proofs.YtnchdmidaigheaaW.PrintWords Go.Proofs.YtnchdmidaigheaaW.PrintLast Go.Proofs.YtnchdmidaigheaaW.PrintMore
section
variable {P : Program} {ops : Array Oper} {Q : Exit → Act → World → Prop}
theorem goesv_ {oi : Oper} {N : Option Tmp} {a : Act} {w : World} {K : Act → World → Prop} {f : FuncId} {fn : Func} {as_ : Array Operand} {ts : Array TypeId} {tc : Tmp} {caps : Array Value} (hf : P.funcs[f]? = some fn) (hname : (fn.name == "runtime.NumGoroutine") = false) (hb : fn.body.isSome = true) (args : Array Value)
  (hw : Region.wanted oi (yielded ops a.tmps) = true) (hN : oi.dst = N) (hop : oi.op = .call { callee := .value (.tmp tc), args := as_, argTypes := ts }) (hc : a.tmps[tc]? = some (.func (.func f) #[] caps)) (hargs : as_.map a.eval = args)
  (h : Calls P f (args ++ caps) w fun e w' => ∃ v, e = .returned v ∧ K (a.put N v) w') : if Region.wanted oi (yielded ops a.tmps) = true then Oper.wp P oi a w K Q else K (a.put N undef) w := by
 refine call_ f (args ++ caps) hw hN ?_ h; have he := enters_ hf hname hb (args ++ caps) w; have hc' : a.tmps.getD tc undef = .func (.func f) #[] caps := by simp [Array.getD_eq_getD_getElem?, hc]
 unfold execOp; simp [hop, resolve, Deferred.ofValue, invoke, Act.eval, hargs, he, hc']
end
def change0.T0 : Bool × List (List Nat × List Nat) := (true, [([], []), ([0], [0]), ([1], [1]), ([2], [2]), ([], []), ([], []), ([], []), ([6], [6]), ([7], [7]), ([8], [8]), ([], []), ([9, 10], [9, 10]), ([11], [11]), ([5, 12], [5, 12]), ([3, 4, 0, 1, 2, 3, 4, 5, 6, 7, 8, 9, 10, 11, 12, 13], [3, 4]), ([14, 13, 13, 0, 1, 2, 3, 4, 5, 6, 7, 8, 9, 10, 11, 12, 13], [13, 14])])
def change0.B0 : List Nat := [0, 1, 3, 7, 0, 0, 0, 64, 192, 448, 0, 1984, 4032, 8160, 16383, 32767]
theorem change0.tab0 : rtab .any (opsOf Try.f65 0) = change0.T0 := by kernel_rfl
theorem change0.bits0 : waitsOk change0.T0.2 change0.B0 = true := by kernel_rfl
theorem newer_le {W W' : World} {ok : Nat → Prop} (h : W.heap.size ≤ W'.heap.size) : ∀ k, newer W' ok k → newer W ok k := fun k hk => hk.elim .inl (fun hk => .inr (Nat.le_trans h hk))
theorem DV.newer_ {W W' : World} {ok : Nat → Prop} {L : Lay} {D : Dv} (h : DV W' ok L D) (hl : ∀ k, L.S k → k < W.heap.size) : DV W' (newer W ok) L D :=
 h.mono (fun k hk => .inl hk) (fun k hk hlt hS => by
  rcases hk with hk | hk
  ·
   exact h.no k hk hlt hS
  ·
   have := hl k hS; omega)
set_option maxHeartbeats 2000000 in
set_option maxRecDepth 100000 in
theorem change_calls {W : World} {ok : Nat → Prop} {L : Lay} {D : Dv} (h : DV W ok L D) (i : Nat) (hi : i < D.pages.length) (kf : FuncId) (fn : Func) (caps : Array Value) (hK : Try.prog.funcs[kf]? = some fn) (hname : (fn.name == "runtime.NumGoroutine") = false) (hbody : fn.body.isSome = true) (l' : List Int) (hl : isBytes l' ∧ l'.length = 256)
  (hdo : ∀ W', Below W.heap.size W W' → ∀ A c, 256 ≤ c → Kd.C (Kd.int .u8) W' A 256 (D.pages.getD i []) → Calls Try.prog kf (#[.slice A 256 c] ++ caps) W' fun e w' => ∃ A c, e = .returned (.slice A 256 c) ∧ 256 ≤ c ∧ Kd.F (Kd.int .u8) w' (newer W' ok) A 256 l' ∧ Below W'.heap.size W' w') :
  Calls Try.prog 65 #[.pointer (some ⟨L.g, 0, none⟩), .int .i64 (i : Int),   .func (.func kf) #[] caps] W fun e w' => e = .returned (.tuple #[]) ∧ DV w' (newer W ok) L { D with pages := D.pages.set i l' } ∧ Turn W w' L.S := by
 obtain ⟨vs, hcv, hpg⟩ := h.pg; have hil : i < vs.length := by rw [hpg.1]; exact hi
 obtain ⟨Ai, ci, hv, hci, hFi⟩ := hpg.2 i vs[i] (D.pages.getD i []) (List.getElem?_eq_getElem hil) (by rw [List.getD_eq_getElem?_getD, List.getElem?_eq_getElem hi]; rfl); have HV : Aside0 (vs[i]? = some (.slice Ai 256 ci)) := ⟨by rw [List.getElem?_eq_getElem hil, hv]⟩; have HC := aK hcv; have HFI := aK (And.intro hci hFi); have HP := aK (And.intro (eq_true (show (0 : Int) ≤ (i : Int) by omega)) (eq_true (show (i : Int) < ((D.pages.length : Nat) : Int) by omega))); have H := aK h; have HDO := aK hdo; have HK := aK (And.intro hK (And.intro hname hbody)); have HLL := aK hl; have B0 := aK (below_drew1 (Below.refl W.heap.size W)); clear hcv hpg hil hv hci hFi h hdo hK hname hbody hl hi; go_enter Try.func65, Try.ntmps65; go_upto_region 0 with fail; refine start_ (n := 16) (S := fun w' => True) (ds := []) #[false, false, false, false, false, false, false, false, false, false, false, false, false, false, false, false] (by kernel_rfl) rfl rfl trivial (fun hHeld => ?_); refine with_tabW change0.tab0 change0.bits0 (fun HT_ HW_ => ?_); generalize W.drew = wq at B0 hHeld ⊢; refine inv_at [0, 1, 2, 3, 4, 5, 6, 7, 8, 9, 10, 11, 12, 13, 14, 15] (fun a0_ b a w' => ∃ (A13 : Option Addr) (c13 : Nat) (m13_ : Value), a = putSel a0_ b [(0, 6, .pointer (some ⟨L.g, 0, none⟩)), (1, 7, .pointer (some ⟨L.g, 0, none⟩)), (2, 8, .pointer (some ⟨L.g, 4, none⟩)), (3, 9, .slice (some ⟨L.gp, 0, none⟩) D.pages.length L.cp), (4, 10, .int .i64 (i : Int)), (5, 11, .func (.func kf) #[] caps), (6, 12, .pointer (some ⟨L.g, 0, none⟩)), (7, 13, .pointer (some ⟨L.g, 0, none⟩)), (8, 14, .pointer (some ⟨L.g, 4, none⟩)), (9, 15, .slice (some ⟨L.gp, 0, none⟩) D.pages.length L.cp), (10, 16, .int .i64 (i : Int)), (11, 17, .pointer (some ⟨L.gp, i, none⟩)), (12, 18, .slice Ai 256 ci), (13, 19, m13_), (14, 20, .pointer (some ⟨L.gp, i, none⟩))] ∧ (b 15 = false → Below W.heap.size W w') ∧ (b 13 = true → b 15 = false → 256 ≤ c13 ∧ Kd.F (Kd.int .u8) w' (newer W ok) A13 256 l') ∧ (b 15 = true → DV w' (newer W ok) L { D with pages := D.pages.set i l' } ∧ Turn W w' L.S) ∧ (b 13 = true → (m13_ : Value) = .slice A13 256 c13)) HT_.out HW_.out (by kernel_rfl) (by kernel_rfl) ?_ ?_ ?_
 ·
  exact ⟨none, 0, .bool false, by simp only [putSel, Bool.false_eq_true, if_false], fun _ => B0.out, fun h_ => absurd h_ (by decide), fun h_ => absurd h_ (by decide), fun h_ => absurd h_ (by decide)⟩
 ·
  skip
  clear B0; refine steps_cons ?_ ?_; rintro b a w' ⟨A13, c13, m13_, ha, Q_B0, Q_R13, Q_FIN, Q_X13_⟩ hb_ hon hoff; refine ⟨_, rfl, fun K hK => ?_⟩; have e0 := q_f ha 0 rfl rfl; replace ha := aK ha; have B0 := aK (Q_B0 (hoff 15 (by kernel_rfl))); refine q_v (.pointer (some ⟨L.g, 0, none⟩)) (by rfl) rfl ?_ ?_; (· (go_simp; (try simp only [i64_w]); try rfl)); refine hK.out _ _ ⟨A13, c13, m13_, q_u ha 0 hb_ rfl rfl rfl, Q_B0, Q_R13, fun h0_ => q_h hoff 15 h0_, Q_X13_⟩; refine steps_cons ?_ ?_; rintro b a w' ⟨A13, c13, m13_, ha, Q_B0, Q_R13, Q_FIN, Q_X13_⟩ hb_ hon hoff; refine ⟨_, rfl, fun K hK => ?_⟩; have e6 := q_n ha hon 6 0 0 rfl; replace ha := aK ha; have B0 := aK (Q_B0 (hoff 15 (by kernel_rfl))); refine q_v (.pointer (some ⟨L.g, 0, none⟩)) (by rfl) rfl ?_ ?_; (· (go_simp; (try simp only [i64_w]); try rfl)); refine hK.out _ _ ⟨A13, c13, m13_, q_u ha 1 hb_ rfl rfl rfl, Q_B0, Q_R13, fun h0_ => q_h hoff 15 h0_, Q_X13_⟩; refine steps_cons ?_ ?_; rintro b a w' ⟨A13, c13, m13_, ha, Q_B0, Q_R13, Q_FIN, Q_X13_⟩ hb_ hon hoff; refine ⟨_, rfl, fun K hK => ?_⟩; have e7 := q_n ha hon 7 1 1 rfl; replace ha := aK ha; have B0 := aK (Q_B0 (hoff 15 (by kernel_rfl))); refine q_v (.pointer (some ⟨L.g, 4, none⟩)) (by rfl) rfl ?_ ?_; (· (go_simp; (try simp only [i64_w]); try rfl)); refine hK.out _ _ ⟨A13, c13, m13_, q_u ha 2 hb_ rfl rfl rfl, Q_B0, Q_R13, fun h0_ => q_h hoff 15 h0_, Q_X13_⟩; refine steps_cons ?_ ?_; rintro b a w' ⟨A13, c13, m13_, ha, Q_B0, Q_R13, Q_FIN, Q_X13_⟩ hb_ hon hoff; refine ⟨_, rfl, fun K hK => ?_⟩; have e8 := q_n ha hon 8 2 2 rfl; replace ha := aK ha; have B0 := aK (Q_B0 (hoff 15 (by kernel_rfl))); have c_ := (top_cells (H.out.below B0.out)).2.2.2.2.1; refine q_v (.slice (some ⟨L.gp, 0, none⟩) D.pages.length L.cp) (by rfl) rfl ?_ ?_; (· (go_simp; (try simp only [i64_w]); try rfl)); refine hK.out _ _ ⟨A13, c13, m13_, q_u ha 3 hb_ rfl rfl rfl, Q_B0, Q_R13, fun h0_ => q_h hoff 15 h0_, Q_X13_⟩; refine steps_cons ?_ ?_; rintro b a w' ⟨A13, c13, m13_, ha, Q_B0, Q_R13, Q_FIN, Q_X13_⟩ hb_ hon hoff; refine ⟨_, rfl, fun K hK => ?_⟩; have e1 := q_f ha 1 rfl rfl; replace ha := aK ha; have B0 := aK (Q_B0 (hoff 15 (by kernel_rfl))); refine q_v (.int .i64 (i : Int)) (by rfl) rfl ?_ ?_; (· (go_simp; (try simp only [i64_w]); try rfl)); refine hK.out _ _ ⟨A13, c13, m13_, q_u ha 4 hb_ rfl rfl rfl, Q_B0, Q_R13, fun h0_ => q_h hoff 15 h0_, Q_X13_⟩; refine steps_cons ?_ ?_; rintro b a w' ⟨A13, c13, m13_, ha, Q_B0, Q_R13, Q_FIN, Q_X13_⟩ hb_ hon hoff; refine ⟨_, rfl, fun K hK => ?_⟩; have e2 := q_f ha 2 rfl rfl; replace ha := aK ha; have B0 := aK (Q_B0 (hoff 15 (by kernel_rfl))); refine q_v (.func (.func kf) #[] caps) (by rfl) rfl ?_ ?_; (· (go_simp; (try simp only [i64_w]); try rfl)); refine hK.out _ _ ⟨A13, c13, m13_, q_u ha 5 hb_ rfl rfl rfl, Q_B0, fun h0_ _ => q_h hoff 13 h0_, fun h0_ => q_h hoff 15 h0_, fun h0_ => q_h hoff 13 h0_⟩; refine steps_cons ?_ ?_; rintro b a w' ⟨A13, c13, m13_, ha, Q_B0, Q_R13, Q_FIN, Q_X13_⟩ hb_ hon hoff; refine ⟨_, rfl, fun K hK => ?_⟩; have e0 := q_f ha 0 rfl rfl; replace ha := aK ha; have B0 := aK (Q_B0 (hoff 15 (by kernel_rfl))); refine q_v (.pointer (some ⟨L.g, 0, none⟩)) (by rfl) rfl ?_ ?_; (· (go_simp; (try simp only [i64_w]); try rfl)); refine hK.out _ _ ⟨A13, c13, m13_, q_u ha 6 hb_ rfl rfl rfl, Q_B0, fun h0_ _ => q_h hoff 13 h0_, fun h0_ => q_h hoff 15 h0_, fun h0_ => q_h hoff 13 h0_⟩; refine steps_cons ?_ ?_; rintro b a w' ⟨A13, c13, m13_, ha, Q_B0, Q_R13, Q_FIN, Q_X13_⟩ hb_ hon hoff; refine ⟨_, rfl, fun K hK => ?_⟩; have e12 := q_n ha hon 12 6 6 rfl; replace ha := aK ha; have B0 := aK (Q_B0 (hoff 15 (by kernel_rfl))); refine q_v (.pointer (some ⟨L.g, 0, none⟩)) (by rfl) rfl ?_ ?_; (· (go_simp; (try simp only [i64_w]); try rfl)); refine hK.out _ _ ⟨A13, c13, m13_, q_u ha 7 hb_ rfl rfl rfl, Q_B0, fun h0_ _ => q_h hoff 13 h0_, fun h0_ => q_h hoff 15 h0_, fun h0_ => q_h hoff 13 h0_⟩; refine steps_cons ?_ ?_
  rintro b a w' ⟨A13, c13, m13_, ha, Q_B0, Q_R13, Q_FIN, Q_X13_⟩ hb_ hon hoff; refine ⟨_, rfl, fun K hK => ?_⟩; have e13 := q_n ha hon 13 7 7 rfl; replace ha := aK ha; have B0 := aK (Q_B0 (hoff 15 (by kernel_rfl))); refine q_v (.pointer (some ⟨L.g, 4, none⟩)) (by rfl) rfl ?_ ?_; (· (go_simp; (try simp only [i64_w]); try rfl)); refine hK.out _ _ ⟨A13, c13, m13_, q_u ha 8 hb_ rfl rfl rfl, Q_B0, fun h0_ _ => q_h hoff 13 h0_, fun h0_ => q_h hoff 15 h0_, fun h0_ => q_h hoff 13 h0_⟩; refine steps_cons ?_ ?_; rintro b a w' ⟨A13, c13, m13_, ha, Q_B0, Q_R13, Q_FIN, Q_X13_⟩ hb_ hon hoff; refine ⟨_, rfl, fun K hK => ?_⟩; have e14 := q_n ha hon 14 8 8 rfl; replace ha := aK ha; have B0 := aK (Q_B0 (hoff 15 (by kernel_rfl))); have c_ := (top_cells (H.out.below B0.out)).2.2.2.2.1; refine q_v (.slice (some ⟨L.gp, 0, none⟩) D.pages.length L.cp) (by rfl) rfl ?_ ?_; (· (go_simp; (try simp only [i64_w]); try rfl)); refine hK.out _ _ ⟨A13, c13, m13_, q_u ha 9 hb_ rfl rfl rfl, Q_B0, fun h0_ _ => q_h hoff 13 h0_, fun h0_ => q_h hoff 15 h0_, fun h0_ => q_h hoff 13 h0_⟩; refine steps_cons ?_ ?_; rintro b a w' ⟨A13, c13, m13_, ha, Q_B0, Q_R13, Q_FIN, Q_X13_⟩ hb_ hon hoff; refine ⟨_, rfl, fun K hK => ?_⟩; have e1 := q_f ha 1 rfl rfl; replace ha := aK ha; have B0 := aK (Q_B0 (hoff 15 (by kernel_rfl))); refine q_v (.int .i64 (i : Int)) (by rfl) rfl ?_ ?_; (· (go_simp; (try simp only [i64_w]); try rfl)); refine hK.out _ _ ⟨A13, c13, m13_, q_u ha 10 hb_ rfl rfl rfl, Q_B0, fun h0_ _ => q_h hoff 13 h0_, fun h0_ => q_h hoff 15 h0_, fun h0_ => q_h hoff 13 h0_⟩; refine steps_cons ?_ ?_; rintro b a w' ⟨A13, c13, m13_, ha, Q_B0, Q_R13, Q_FIN, Q_X13_⟩ hb_ hon hoff; refine ⟨_, rfl, fun K hK => ?_⟩; have e15 := q_n ha hon 15 9 9 rfl; have e16 := q_n ha hon 16 10 10 rfl; replace ha := aK ha; have B0 := aK (Q_B0 (hoff 15 (by kernel_rfl))); have p_ := HP.out.1; have q_ := HP.out.2; refine q_v (.pointer (some ⟨L.gp, i, none⟩)) (by rfl) rfl ?_ ?_; (· (go_simp; (try simp only [i64_w]); try rfl)); refine hK.out _ _ ⟨A13, c13, m13_, q_u ha 11 hb_ rfl rfl rfl, Q_B0, fun h0_ _ => q_h hoff 13 h0_, fun h0_ => q_h hoff 15 h0_, fun h0_ => q_h hoff 13 h0_⟩; refine steps_cons ?_ ?_; rintro b a w' ⟨A13, c13, m13_, ha, Q_B0, Q_R13, Q_FIN, Q_X13_⟩ hb_ hon hoff; refine ⟨_, rfl, fun K hK => ?_⟩; have e17 := q_n ha hon 17 11 11 rfl; replace ha := aK ha; have B0 := aK (Q_B0 (hoff 15 (by kernel_rfl))); have c_ := (HC.out.below B0.out).cell HV.out; refine q_v (.slice Ai 256 ci) (by rfl) rfl ?_ ?_; (· (go_simp; (try simp only [i64_w]); try rfl)); refine hK.out _ _ ⟨A13, c13, m13_, q_u ha 12 hb_ rfl rfl rfl, Q_B0, fun h0_ _ => q_h hoff 13 h0_, fun h0_ => q_h hoff 15 h0_, fun h0_ => q_h hoff 13 h0_⟩; refine steps_cons ?_ ?_; rintro b a w' ⟨A13, c13, m13_, ha, Q_B0, Q_R13, Q_FIN, Q_X13_⟩ hb_ hon hoff; refine ⟨_, rfl, fun K hK => ?_⟩; have e11 := q_n ha hon 11 5 5 rfl; have e18 := q_n ha hon 18 12 12 rfl; replace ha := aK ha; have B0 := aK (Q_B0 (hoff 15 (by kernel_rfl))); refine goesv_ HK.out.1 HK.out.2.1 HK.out.2.2 #[.slice Ai 256 ci] (by rfl) rfl rfl e11 (by (simp only [List.map_toArray, List.map_cons, List.map_nil, Act.eval, Array.getD_eq_getD_getElem?, Option.getD_some, e11, e18]) <;> rfl) ?_; (with_reducible refine (HDO.out _ B0.out Ai ci HFI.out.1 (Kd.C_below (Kd.F_now HFI.out.2) B0.out)).mono ?_); rintro e w2 ⟨A_, c_, rfl, hc_, hF_, hb⟩; refine ⟨_, rfl, ?_⟩; refine hK.out _ _ ⟨A_, c_, (.slice A_ 256 c_), q_u ha 13 hb_ rfl rfl rfl, fun _ => below_then B0.out B0.out.size hb, fun _ _ => ⟨hc_, Kd.F_mono hF_ (newer_le B0.out.size)⟩, fun h0_ => q_h hoff 15 h0_, fun _ => rfl⟩; refine steps_cons ?_ ?_; rintro b a w' ⟨A13, c13, m13_, ha, Q_B0, Q_R13, Q_FIN, Q_X13_⟩ hb_ hon hoff; refine ⟨_, rfl, fun K hK => ?_⟩; have e9 := q_n ha hon 9 3 3 rfl; have e10 := q_n ha hon 10 4 4 rfl; replace ha := aK ha; have B0 := aK (Q_B0 (hoff 15 (by kernel_rfl))); have R13 := aK (Q_R13 (hon 13 (by kernel_rfl)) (hoff 15 (by kernel_rfl)))
  have p_ := HP.out.1; have q_ := HP.out.2; refine q_v (.pointer (some ⟨L.gp, i, none⟩)) (by rfl) rfl ?_ ?_; (· (go_simp; (try simp only [i64_w]); try rfl)); refine hK.out _ _ ⟨A13, c13, m13_, q_u ha 14 hb_ rfl rfl rfl, Q_B0, Q_R13, fun h0_ => q_h hoff 15 h0_, Q_X13_⟩; refine steps_cons ?_ ?_; rintro b a w' ⟨A13, c13, m13_, ha, Q_B0, Q_R13, Q_FIN, Q_X13_⟩ hb_ hon hoff; refine ⟨_, rfl, fun K hK => ?_⟩; have e20 := q_n ha hon 20 14 14 rfl; have e19 := q_n ha hon 19 13 13 rfl; rw [Q_X13_ (hon 13 (by kernel_rfl))] at e19; replace ha := aK ha; have B0 := aK (Q_B0 hb_); have R13 := aK (Q_R13 (hon 13 (by kernel_rfl)) hb_); have c_ := (HC.out.below B0.out).cell HV.out; have fr_ := (HC.out.below B0.out).frozen i; refine skip_ (w1 := ?_) (by rfl) rfl ?_ ?_; rotate_left
  ·
   go_simp
   rfl
  refine hK.out _ _ ⟨A13, c13, m13_, (by rw [ha.out]; exact putSel_none (v := undef) rfl), fun h0_ => q_x h0_ (up_self b 15), fun _ h1_ => q_x h1_ (up_self b 15), fun _ => ⟨((H.out.below B0.out).newer_ H.out.lt).set_page i R13.out.1 R13.out.2 HLL.out, (Turn.of_below B0.out L.S).setCell (p := ⟨L.gp, i, none⟩) (.inl (.inr (.inl rfl))) _⟩, Q_X13_⟩; exact steps_nil
 rintro b a wl hall ⟨A13, c13, m13_, ha, Q_B0, Q_R13, Q_FIN, Q_X13_⟩; clear B0; subst ha; obtain rfl := Q_X13_ (hall 13 (by kernel_rfl)); rw [q_a hall]; rotate_left
 ·
  kernel_rfl
 simp only [List.foldl_cons, List.foldl_nil, Act.put, List.setIfInBounds_toArray, List.set_cons_zero, List.set_cons_succ]; clear Q_B0; clear Q_R13; have FIN := aK (Q_FIN (hall 15 (by kernel_rfl))); clear Q_FIN; clear hall; go_wp2_with fail
 go_end0
 exact ⟨rfl, FIN.out.1, FIN.out.2⟩
end Go.Proofs.Ytnchdmidaigheaa.ND
namespace Go.Proofs.Ytnchdmidaigheaa.Hp
open Go.RowKit Go.Proofs.YtnchdmidaigheaaW.PrintWords Go.Proofs.YtnchdmidaigheaaW.PrintLast Go.Proofs.YtnchdmidaigheaaW.PrintMore
attribute [local go_sem] max2_int min2_int max_two min_two max_three min_three max_four min_four   -- for this text's walks alone
set_option linter.unusedVariables false
set_option linter.unusedSimpArgs false
def zeros_Program.f (old b m : List Int) : Option (List Int) := if isBytes old ∧ isBytes b ∧ isBytes m ∧ old.length ≤ 1000000 then some (progRow old b m) else none
set_option maxHeartbeats 1000000 in
theorem each_calls (cap : Array Value) (g : Nat → Int) (A0 : Option Addr) (c0 : Nat) (l0 : List Int) (w : World) (hr0 : Kd.C (Kd.int .u8) w A0 l0.length l0) (hlen : l0.length ≤ 1000000)
  (hf : ∀ (i : Nat) (W : World), i < l0.length → Below w.heap.size w W → Calls Try.prog 105 (#[.int .i64 (i : Int), .int .u8 (rd l0 (i : Int))] ++ cap) W fun e w' => e = .returned (.int .u8 (g i)) ∧ Drawn0 W w') :
  Calls Try.prog 102 #[.slice A0 l0.length c0, .func (.func 105) #[] cap] w fun e w' => ∃ v0_ : Value, e = .returned (v0_) ∧ Kd.R (Kd.int .u8) 5 w' w.heap.size (fun _ => True) v0_ ((List.range l0.length).map g) ∧ Below w.heap.size w w' := by
 have HR0 := aK hr0; have HL := aK hlen; have HF := aK hf; clear hr0 hlen hf; have HB := aK (Below.refl w.heap.size w); go_enter Try.func102, Try.ntmps102
 go_wp2
 go_loopg [5, 10] (l0.length + 1) (fun kq v5 v10 w' => ∃ (j : Nat), v10 = .int .i64 j ∧ Aside0 (j ≤ l0.length) ∧ Aside0 (kq + j = l0.length + 1) ∧ Aside0 (Kd.R (Kd.int .u8) 5 w' w.heap.size (fun _ => True) v5 ((List.range j).map g)) ∧ Aside0 (Below w.heap.size w w'))
 case atStart => exact ⟨0, rfl, ⟨by omega⟩, ⟨by omega⟩, ⟨Kd.R_nil _ _ _ _ _⟩, ⟨by repeat (first | (with_reducible first | exact HB.out | apply below_alloc | apply pw_below_drewN | apply below_drew1) | exact HB.out)⟩⟩
 case round =>
  obtain ⟨j, rfl, HJ, HQ, HO_5, HB⟩ := hrel; by_cases hj : j < l0.length
  ·
   have c3b0 : decide ((j : Int) < (l0.length : Int)) = true := decide_eq_true (by omega); have c3b1 : decide (j < l0.length) = true := decide_eq_true (by omega); have p395 : 0 ≤ (j : Int) := by omega
   have q395 : (j : Int) < (l0.length : Int) := by omega
   obtain ⟨ad395, e395, hx395_0⟩ := Kd.at_int HR0.out j p395 q395
   cases e395
   replace hx395_0 := (HB.out.cell (World.block_lt_of_cell? w _ hx395_0)).trans hx395_0; rw [Int.toNat_natCast] at hx395_0; replace p395 := eq_true p395; replace q395 := eq_true q395; go_wp2_with (first | ((go_at_call 105); (with_reducible refine (HF.out j _ hj ?side1).mono ?_); (case side1 => exact (by repeat (first | (with_reducible first | exact HB.out | apply below_alloc | apply pw_below_drewN | apply below_drew1) | exact HB.out))); rintro e w' ⟨rfl, ⟨nd, rfl⟩⟩) | ((with_reducible refine gate_builtin (b := .append) (xs := #[.tmp 15, .tmp 20]) rfl ?_); at_builtin; refine Kd.R_append (Kd.int .u8) (w0 := w) w.heap.size rfl (.tmp 15) (.tmp 20) 38 5 (.int .u8 0) 1 rfl Try.underlying38 info5 rfl (by decide) (by omega) u5 ((List.range j).map g) (g j) [.int .u8 (g j)] (fun _ => True) (fun _ => False) rfl rfl ?aP (fun _ hk => hk.elim) ?aF ?aO ?aB ?aS ?aL ?_; (case aP => exact rfl); (case aB => exact (by repeat (first | (with_reducible first | exact HB.out | apply below_alloc | apply pw_below_drewN | apply below_drew1) | exact HB.out))); (case aF => exact (fun _ _ => trivial)); (case aO => exact (by (with_reducible repeat (first | apply Kd.R_alloc | apply Kd.R_drewN | apply Kd.R_drew)); exact HO_5.out)); (case aS => exact (below_size (by repeat (first | (with_reducible first | exact HB.out | apply below_alloc | apply pw_below_drewN | apply below_drew1) | exact HB.out)))); (case aL => have := HL.out; simp only [List.length_map, List.length_range]; omega); intro v397 w11 ho hb hg hat; rw [← range_map_snoc] at ho; have n0_ := aK (hb); have n1_ := aK (ho); clear HB; clear HO_5; have HB := n0_; have HO398 := n1_; clear n0_ n1_; clear ho hb hg hat)); go_roundg (l0.length - j)
   case measure => have := HQ.out; omega
   case rel => exact ⟨j + 1, by congr 1; have := HL.out; unfold wrap64; omega, ⟨by omega⟩, ⟨by omega⟩, ⟨by (with_reducible repeat (first | apply Kd.R_alloc | apply Kd.R_drewN | apply Kd.R_drew)); exact HO398.out⟩, ⟨by repeat (first | (with_reducible first | exact HB.out | apply below_alloc | apply pw_below_drewN | apply below_drew1) | exact HB.out)⟩⟩
  ·
   have hje : j = l0.length := by have := HJ.out; omega
   subst hje
   go_wp2
   go_ret; exact ⟨_, rfl, by (with_reducible repeat (first | apply Kd.R_alloc | apply Kd.R_drewN | apply Kd.R_drew)); exact HO_5.out, by repeat (first | (with_reducible first | exact HB.out | apply below_alloc | apply pw_below_drewN | apply below_drew1) | exact HB.out)⟩
theorem mask_at (m : List Int) (i : Nat) (hm : isBytes m) : zeros_Mask.f m (i : Int) = some (maskAt m i) := by
 unfold zeros_Mask.f maskAt; rw [if_neg (by omega)]; by_cases h0 : m.length = 0
 ·
  rw [if_pos (by omega), if_pos h0]
 ·
  rw [if_neg (by omega), if_neg h0]; have e : Int.tmod (i : Int) (m.length : Int) = ((i % m.length : Nat) : Int) := by
   rw [Int.tmod_eq_emod_of_nonneg (by omega)]; rfl
  have hlt := Nat.mod_lt i (show m.length > 0 by omega); rw [e, if_pos (by omega), if_pos (by omega)]
  show some (m.getD (((i % m.length : Nat) : Int)).toNat 0) = _
  rw [Int.toNat_natCast]
set_option maxHeartbeats 1000000 in
theorem prog_clo (i : Nat) (c : Int) (A1 A2 : Option Addr) (c1 c2 : Nat) (l1 l2 : List Int) (p q : Addr) (w : World) (hcr : 0 ≤ c ∧ c ≤ 255)
  (hp : w.cell? p = some (.slice A1 l1.length c1)) (hq : w.cell? q = some (.slice A2 l2.length c2))
  (hr1 : Kd.C (Kd.int .u8) w A1 l1.length l1) (hb1 : isBytes l1) (hr2 : Kd.C (Kd.int .u8) w A2 l2.length l2) (hc2 : l2.length ≤ c2) (hb2 : isBytes l2) :
  Calls Try.prog 105 #[.int .i64 (i : Int), .int .u8 c, .pointer (some p), .pointer (some q)] w fun e w' => e = .returned (.int .u8 (if i < l1.length then progByte c (rd l1 i) (maskAt l2 i) else c)) ∧ Drawn0 w w' := by
 have HE := aK (prog_bits c (rd l1 i) (maskAt l2 i) hcr (rd_range l1 hb1 i) (maskAt_range l2 hb2 i)); have HR1 := aK hr1; have HR2 := aK hr2; have HC2 := aK hc2; have HM := aK (mask_at l2 i hb2); clear hr1 hr2 hc2 hb2 hb1 hcr; by_cases hj : i < l1.length
 ·
  rw [if_pos hj]; have c3b0 : decide ((l1.length : Int) ≤ (i : Int)) = false := decide_eq_false (by omega); have c3b1 : decide (l1.length ≤ i) = false := decide_eq_false (by omega); have p395 : 0 ≤ (i : Int) := by omega
  have q395 : (i : Int) < (l1.length : Int) := by omega
  obtain ⟨ad395, e395, hx395_0⟩ := Kd.at_int HR1.out i p395 q395
  cases e395
  rw [Int.toNat_natCast] at hx395_0; go_enter Try.func105, Try.ntmps105
  go_wp2
  go_quiet ((go_at_call 104; exact (Calls.quiet_of ((zeros_Mask.calls _ _ l2 i (maskAt l2 i) _ (Kd.C_drewN HR2.out _) HC2.out HM.out).mono fun _ _ h => ⟨h.1, h.2.out⟩))))
  rw [HE.out]
  go_wp2
  go_ret; exact ⟨rfl, ⟨⟨_, rfl⟩⟩⟩
 ·
  rw [if_neg hj]; have c3b0 : decide ((l1.length : Int) ≤ (i : Int)) = true := decide_eq_true (by omega); have c3b1 : decide (l1.length ≤ i) = true := decide_eq_true (by omega); go_enter Try.func105, Try.ntmps105
  go_wp2
  go_ret; exact ⟨rfl, Drawn0.refl _⟩
set_option maxHeartbeats 8000000 in
set_option maxRecDepth 100000 in
theorem zeros_Program.calls (A0 : Option Addr) (c0 : Nat) (l0 : List Int) (A1 : Option Addr) (c1 : Nat) (l1 : List Int) (A2 : Option Addr) (c2 : Nat) (l2 : List Int) (r : List Int) (w : World) (hr0 : Kd.C (Kd.int .u8) w A0 l0.length l0) (hc0 : l0.length ≤ c0) (hr1 : Kd.C (Kd.int .u8) w A1 l1.length l1) (hc1 : l1.length ≤ c1) (hr2 : Kd.C (Kd.int .u8) w A2 l2.length l2) (hc2 : l2.length ≤ c2) (h : zeros_Program.f l0 l1 l2 = some r) :
  Calls Try.prog 71 #[.slice A0 l0.length c0, .slice A1 l1.length c1, .slice A2 l2.length c2] w fun e w' => ∃ v0_ : Value, e = .returned (v0_) ∧ Kd.R (Kd.int .u8) 5 w' w.heap.size (fun _ => True) v0_ r ∧ Below w.heap.size w w' := by
 unfold zeros_Program.f at h; by_cases hb : isBytes l0 ∧ isBytes l1 ∧ isBytes l2 ∧ l0.length ≤ 1000000
 ·
  rw [if_pos hb] at h; obtain rfl := Option.some.inj h; clear h; obtain ⟨hb0, hb1, hb2, hl⟩ := hb; have HF := fun (W : World) (hB : Below w.heap.size w W) (p q : Addr) (hp : W.cell? p = some (.slice A1 l1.length c1)) (hq : W.cell? q = some (.slice A2 l2.length c2)) =>
   each_calls #[.pointer (some p), .pointer (some q)] (fun i => if i < l1.length then progByte (rd l0 i) (rd l1 i) (maskAt l2 i) else rd l0 i) A0 c0 l0 W (Kd.C_below hr0 hB) hl
    (fun i W' hi hB' => prog_clo i (rd l0 i) A1 A2 c1 c2 l1 l2 p q W' (rd_range l0 hb0 i) (pw_cell_below hB' hp) (pw_cell_below hB' hq) (Kd.C_below (Kd.C_below hr1 hB) hB') hb1 (Kd.C_below (Kd.C_below hr2 hB) hB') hc2 hb2)
  have HF := aK HF; clear hr0 hr1 hr2 hc0 hc1 hc2 hb0 hb1 hb2 hl; have hmf : ∀ (fn : Fn) (first cap : Array Value) (w : World), (Instr.makeFunc fn first cap).run Try.prog w = .ok (.func fn first cap) w := fun _ _ _ _ => rfl; go_enter Try.func71, Try.ntmps71; go_wp2_with fail; have HBw : Below w.heap.size w ((w.alloc (Obj.cells #[Value.slice A1 l1.length c1] 38)).alloc (Obj.cells #[Value.slice A2 l2.length c2] 38)) := (by repeat (first | exact Below.refl _ _ | apply below_alloc | apply pw_below_drewN | apply below_drew1)); refine (HF.out _ HBw ⟨w.heap.size, 0, none⟩ ⟨w.heap.size + 1, 0, none⟩ (by simp) (by simp)).mono ?_; rintro e w' ⟨v, rfl, hR, hB⟩; have HR := aK (Kd.R_lower hR (show w.heap.size ≤ _ by simp; omega)); have HB := aK (below_step HBw hB); clear hR hB HBw HF
  go_wp2
  go_ret; exact ⟨_, rfl, HR.out, HB.out⟩
 ·
  rw [if_neg hb] at h
  cases h
end Go.Proofs.Ytnchdmidaigheaa.Hp
namespace Go.Proofs.Ytnchdmidaigheaa.Hp
open Go.RowKit Go.Proofs.YtnchdmidaigheaaW.PrintWords Go.Proofs.YtnchdmidaigheaaW.PrintLast Go.Proofs.YtnchdmidaigheaaW.PrintMore
attribute [local go_sem] max2_int min2_int max_two min_two max_three min_three max_four min_four   -- for this text's walks alone
set_option linter.unusedVariables false
set_option linter.unusedSimpArgs false
def zeros_Erase.f (old m : List Int) : Option (List Int) := if isBytes old ∧ isBytes m ∧ old.length ≤ 1000000 then some (wipeRow old m) else none
set_option maxHeartbeats 1000000 in
theorem each_calls2 (cap : Array Value) (g : Nat → Int) (A0 : Option Addr) (c0 : Nat) (l0 : List Int) (w : World) (hr0 : Kd.C (Kd.int .u8) w A0 l0.length l0) (hlen : l0.length ≤ 1000000)
  (hf : ∀ (i : Nat) (W : World), i < l0.length → Below w.heap.size w W → Calls Try.prog 103 (#[.int .i64 (i : Int), .int .u8 (rd l0 (i : Int))] ++ cap) W fun e w' => e = .returned (.int .u8 (g i)) ∧ Drawn0 W w') :
  Calls Try.prog 102 #[.slice A0 l0.length c0, .func (.func 103) #[] cap] w fun e w' => ∃ v0_ : Value, e = .returned (v0_) ∧ Kd.R (Kd.int .u8) 5 w' w.heap.size (fun _ => True) v0_ ((List.range l0.length).map g) ∧ Below w.heap.size w w' := by
 have HR0 := aK hr0; have HL := aK hlen; have HF := aK hf; clear hr0 hlen hf; have HB := aK (Below.refl w.heap.size w); go_enter Try.func102, Try.ntmps102
 go_wp2
 go_loopg [5, 10] (l0.length + 1) (fun kq v5 v10 w' => ∃ (j : Nat), v10 = .int .i64 j ∧ Aside0 (j ≤ l0.length) ∧ Aside0 (kq + j = l0.length + 1) ∧ Aside0 (Kd.R (Kd.int .u8) 5 w' w.heap.size (fun _ => True) v5 ((List.range j).map g)) ∧ Aside0 (Below w.heap.size w w'))
 case atStart => exact ⟨0, rfl, ⟨by omega⟩, ⟨by omega⟩, ⟨Kd.R_nil _ _ _ _ _⟩, ⟨by repeat (first | (with_reducible first | exact HB.out | apply below_alloc | apply pw_below_drewN | apply below_drew1) | exact HB.out)⟩⟩
 case round =>
  obtain ⟨j, rfl, HJ, HQ, HO_5, HB⟩ := hrel; by_cases hj : j < l0.length
  ·
   have c3b0 : decide ((j : Int) < (l0.length : Int)) = true := decide_eq_true (by omega); have c3b1 : decide (j < l0.length) = true := decide_eq_true (by omega); have p395 : 0 ≤ (j : Int) := by omega
   have q395 : (j : Int) < (l0.length : Int) := by omega
   obtain ⟨ad395, e395, hx395_0⟩ := Kd.at_int HR0.out j p395 q395
   cases e395
   replace hx395_0 := (HB.out.cell (World.block_lt_of_cell? w _ hx395_0)).trans hx395_0; rw [Int.toNat_natCast] at hx395_0; replace p395 := eq_true p395; replace q395 := eq_true q395; go_wp2_with (first | ((go_at_call 103); (with_reducible refine (HF.out j _ hj ?side1).mono ?_); (case side1 => exact (by repeat (first | (with_reducible first | exact HB.out | apply below_alloc | apply pw_below_drewN | apply below_drew1) | exact HB.out))); rintro e w' ⟨rfl, ⟨nd, rfl⟩⟩) | ((with_reducible refine gate_builtin (b := .append) (xs := #[.tmp 15, .tmp 20]) rfl ?_); at_builtin; refine Kd.R_append (Kd.int .u8) (w0 := w) w.heap.size rfl (.tmp 15) (.tmp 20) 38 5 (.int .u8 0) 1 rfl Try.underlying38 info5 rfl (by decide) (by omega) u5 ((List.range j).map g) (g j) [.int .u8 (g j)] (fun _ => True) (fun _ => False) rfl rfl ?aP (fun _ hk => hk.elim) ?aF ?aO ?aB ?aS ?aL ?_; (case aP => exact rfl); (case aB => exact (by repeat (first | (with_reducible first | exact HB.out | apply below_alloc | apply pw_below_drewN | apply below_drew1) | exact HB.out))); (case aF => exact (fun _ _ => trivial)); (case aO => exact (by (with_reducible repeat (first | apply Kd.R_alloc | apply Kd.R_drewN | apply Kd.R_drew)); exact HO_5.out)); (case aS => exact (below_size (by repeat (first | (with_reducible first | exact HB.out | apply below_alloc | apply pw_below_drewN | apply below_drew1) | exact HB.out)))); (case aL => have := HL.out; simp only [List.length_map, List.length_range]; omega); intro v397 w11 ho hb hg hat; rw [← range_map_snoc] at ho; have n0_ := aK (hb); have n1_ := aK (ho); clear HB; clear HO_5; have HB := n0_; have HO398 := n1_; clear n0_ n1_; clear ho hb hg hat)); go_roundg (l0.length - j)
   case measure => have := HQ.out; omega
   case rel => exact ⟨j + 1, by congr 1; have := HL.out; unfold wrap64; omega, ⟨by omega⟩, ⟨by omega⟩, ⟨by (with_reducible repeat (first | apply Kd.R_alloc | apply Kd.R_drewN | apply Kd.R_drew)); exact HO398.out⟩, ⟨by repeat (first | (with_reducible first | exact HB.out | apply below_alloc | apply pw_below_drewN | apply below_drew1) | exact HB.out)⟩⟩
  ·
   have hje : j = l0.length := by have := HJ.out; omega
   subst hje
   go_wp2
   go_ret; exact ⟨_, rfl, by (with_reducible repeat (first | apply Kd.R_alloc | apply Kd.R_drewN | apply Kd.R_drew)); exact HO_5.out, by repeat (first | (with_reducible first | exact HB.out | apply below_alloc | apply pw_below_drewN | apply below_drew1) | exact HB.out)⟩
set_option maxHeartbeats 1000000 in
theorem erase_clo (i : Nat) (c : Int) (A2 : Option Addr) (c2 : Nat) (l2 : List Int) (q : Addr) (w : World) (hcr : 0 ≤ c ∧ c ≤ 255)
  (hq : w.cell? q = some (.slice A2 l2.length c2)) (hr2 : Kd.C (Kd.int .u8) w A2 l2.length l2) (hc2 : l2.length ≤ c2) (hb2 : isBytes l2) :
  Calls Try.prog 103 #[.int .i64 (i : Int), .int .u8 c, .pointer (some q)] w fun e w' => e = .returned (.int .u8 ((c.toNat ||| (maskAt l2 i).toNat : Nat) : Int)) ∧ Drawn0 w w' := by
 have HE := aK (wipe_bits c (maskAt l2 i) hcr (maskAt_range l2 hb2 i)); have HR2 := aK hr2; have HC2 := aK hc2; have HM := aK (mask_at l2 i hb2); clear hr2 hc2 hb2 hcr; go_enter Try.func103, Try.ntmps103; go_wp2_with ((go_at_call 104); (with_reducible refine (zeros_Mask.calls _ _ l2 i (maskAt l2 i) _ HR2.out HC2.out HM.out).mono ?_); rintro e w' ⟨rfl, ⟨nd, rfl⟩⟩); rw [HE.out]; go_ret; exact ⟨rfl, ⟨⟨_, rfl⟩⟩⟩
set_option maxHeartbeats 8000000 in
set_option maxRecDepth 100000 in
theorem zeros_Erase.calls (A0 : Option Addr) (c0 : Nat) (l0 : List Int) (A1 : Option Addr) (c1 : Nat) (l1 : List Int) (r : List Int) (w : World) (hr0 : Kd.C (Kd.int .u8) w A0 l0.length l0) (hc0 : l0.length ≤ c0) (hr1 : Kd.C (Kd.int .u8) w A1 l1.length l1) (hc1 : l1.length ≤ c1) (h : zeros_Erase.f l0 l1 = some r) :
  Calls Try.prog 67 #[.slice A0 l0.length c0, .slice A1 l1.length c1] w fun e w' => ∃ v0_ : Value, e = .returned (v0_) ∧ Kd.R (Kd.int .u8) 5 w' w.heap.size (fun _ => True) v0_ r ∧ Below w.heap.size w w' := by
 unfold zeros_Erase.f at h; by_cases hb : isBytes l0 ∧ isBytes l1 ∧ l0.length ≤ 1000000
 ·
  rw [if_pos hb] at h; obtain rfl := Option.some.inj h; clear h; obtain ⟨hb0, hb1, hl⟩ := hb; have HF := fun (W : World) (hB : Below w.heap.size w W) (q : Addr) (hq : W.cell? q = some (.slice A1 l1.length c1)) =>
   each_calls2 #[.pointer (some q)] (fun i => (((rd l0 i).toNat ||| (maskAt l1 i).toNat : Nat) : Int)) A0 c0 l0 W (Kd.C_below hr0 hB) hl
    (fun i W' hi hB' => erase_clo i (rd l0 i) A1 c1 l1 q W' (rd_range l0 hb0 i) (pw_cell_below hB' hq) (Kd.C_below (Kd.C_below hr1 hB) hB') hc1 hb1)
  have HF := aK HF; clear hr0 hr1 hc0 hc1 hb0 hb1 hl; have hmf : ∀ (fn : Fn) (first cap : Array Value) (w : World), (Instr.makeFunc fn first cap).run Try.prog w = .ok (.func fn first cap) w := fun _ _ _ _ => rfl; go_enter Try.func67, Try.ntmps67; go_wp2_with fail; have HBw : Below w.heap.size w (w.alloc (Obj.cells #[Value.slice A1 l1.length c1] 38)) := (by repeat (first | exact Below.refl _ _ | apply below_alloc | apply pw_below_drewN | apply below_drew1)); refine (HF.out _ HBw ⟨w.heap.size, 0, none⟩ (by simp)).mono ?_; rintro e w' ⟨v, rfl, hR, hB⟩; have HR := aK (Kd.R_lower hR (show w.heap.size ≤ _ by simp)); have HB := aK (below_step HBw hB); clear hR hB HBw HF
  go_wp2
  go_ret; exact ⟨_, rfl, HR.out, HB.out⟩
 ·
  rw [if_neg hb] at h
  cases h
end Go.Proofs.Ytnchdmidaigheaa.Hp
namespace Go.Proofs.Ytnchdmidaigheaa.ND
set_option linter.unusedVariables false
set_option linter.unusedSimpArgs false
open Go.RowKit Go.Proofs.Ytnchdmidaigheaa.Hp Go.Proofs.YtnchdmidaigheaaW.PrintWords Go.Proofs.YtnchdmidaigheaaW.PrintLast Go.Proofs.YtnchdmidaigheaaW.PrintMore
set_option maxHeartbeats 1000000 in
set_option maxRecDepth 100000 in
theorem prog1_calls {W : World} {hb hm : Nat} {tb tm : Nat} {Ab Am A0 : Option Addr} {cb cm c0 : Nat} {l m o : List Int} (hzb : W.heap[hb]? = some (.cells #[.slice Ab l.length cb] tb (0, 0))) (hzm : W.heap[hm]? = some (.cells #[.slice Am m.length cm] tm (0, 0)))
  (hl : isBytes l ∧ l.length ≤ cb) (hm' : isBytes m ∧ m.length ≤ cm) (ho : isBytes o ∧ o.length = 256) (hc0 : 256 ≤ c0) (gl : Kd.C (Kd.int .u8) W Ab l.length l) (gm : Kd.C (Kd.int .u8) W Am m.length m) (go : Kd.C (Kd.int .u8) W A0 256 o) (ok : Nat → Prop) :
  Calls Try.prog 70 (#[.slice A0 256 c0] ++ #[.pointer (some ⟨hb, 0, none⟩), .pointer (some ⟨hm, 0, none⟩)]) W fun e w' => ∃ A c, e = .returned (.slice A 256 c) ∧ 256 ≤ c ∧ Kd.F (Kd.int .u8) w' (newer W ok) A 256 (progRow o l m) ∧ Below W.heap.size W w' := by
 have x0 := blk_cell hzb 0; have x1 := blk_cell hzm 0; have hP := zeros_Program.calls A0 c0 o Ab cb l Am cm m (progRow o l m) W (by rw [ho.2]; exact go) (by rw [ho.2]; exact hc0) gl hl.2 gm hm'.2 (by unfold zeros_Program.f; rw [if_pos ⟨ho.1, hl.1, hm'.1, by rw [ho.2]; omega⟩]); have hlen : (progRow o l m).length = 256 := (progRow_ok ho.1 ho.2).2; rw [ho.2] at hP; have HP := aK hP; clear hP hzb hzm hl hm' gl gm go ho hc0
 show Calls Try.prog 70 #[.slice A0 256 c0, .pointer (some ⟨hb, 0, none⟩), .pointer (some ⟨hm, 0, none⟩)] W _
 go_enter Try.func70, Try.ntmps70; go_wp2_with (go_at_call 71; refine HP.out.mono ?_; rintro e w2 ⟨v, rfl, hR, hb⟩; have HR := aK (And.intro hR hb); clear hR hb); go_ret; obtain ⟨A, c, rfl, hc, hF⟩ := fresh_F HR.out.1 ok; rw [hlen] at hc hF ⊢; exact ⟨A, c, rfl, hc, hF, HR.out.2⟩
set_option maxHeartbeats 1000000 in
set_option maxRecDepth 100000 in
theorem erase1_calls {W : World} {hm : Nat} {tm : Nat} {Am A0 : Option Addr} {cm c0 : Nat} {m o : List Int} (hzm : W.heap[hm]? = some (.cells #[.slice Am m.length cm] tm (0, 0)))
  (hm' : isBytes m ∧ m.length ≤ cm) (ho : isBytes o ∧ o.length = 256) (hc0 : 256 ≤ c0) (gm : Kd.C (Kd.int .u8) W Am m.length m) (go : Kd.C (Kd.int .u8) W A0 256 o) (ok : Nat → Prop) :
  Calls Try.prog 66 (#[.slice A0 256 c0] ++ #[.pointer (some ⟨hm, 0, none⟩)]) W fun e w' => ∃ A c, e = .returned (.slice A 256 c) ∧ 256 ≤ c ∧ Kd.F (Kd.int .u8) w' (newer W ok) A 256 (wipeRow o m) ∧ Below W.heap.size W w' := by
 have x1 := blk_cell hzm 0; have hP := zeros_Erase.calls A0 c0 o Am cm m (wipeRow o m) W (by rw [ho.2]; exact go) (by rw [ho.2]; exact hc0) gm hm'.2 (by unfold zeros_Erase.f; rw [if_pos ⟨ho.1, hm'.1, by rw [ho.2]; omega⟩]); have hlen : (wipeRow o m).length = 256 := (wipeRow_ok ho.1 hm'.1 ho.2).2; rw [ho.2] at hP; have HP := aK hP; clear hP hzm hm' gm go ho hc0
 show Calls Try.prog 66 #[.slice A0 256 c0, .pointer (some ⟨hm, 0, none⟩)] W _
 go_enter Try.func66, Try.ntmps66; go_wp2_with (go_at_call 67; refine HP.out.mono ?_; rintro e w2 ⟨v, rfl, hR, hb⟩; have HR := aK (And.intro hR hb); clear hR hb); go_ret; obtain ⟨A, c, rfl, hc, hF⟩ := fresh_F HR.out.1 ok; rw [hlen] at hc hF ⊢; exact ⟨A, c, rfl, hc, hF, HR.out.2⟩
end Go.Proofs.Ytnchdmidaigheaa.ND
namespace Go.Proofs.Ytnchdmidaigheaa.Hp
open Go.RowKit Go.Proofs.YtnchdmidaigheaaW.PrintWords Go.Proofs.YtnchdmidaigheaaW.PrintLast Go.Proofs.YtnchdmidaigheaaW.PrintMore
attribute [local go_sem] max2_int min2_int max_two min_two max_three min_three max_four min_four   -- for this text's walks alone
set_option linter.unusedVariables false
set_option linter.unusedSimpArgs false
def geom_Check.f (a b c : Int) : Option Int := some (if within a 8 34 && (within b 4 32 && within c 0 8) then 0 else 3)
theorem geom_Check.within_calls (n a b : Int) (r : Bool) (w : World) (h : within n a b = r) : Calls Try.prog 101 #[.int .i64 n, .int .i64 a, .int .i64 b] w fun e w' => e = .returned (.bool r) ∧ Drawn0 w w' := by
 unfold within at h; subst h; by_cases h1 : a ≤ n <;> by_cases h2 : n ≤ b
 all_goals
  go_enter Try.func101, Try.ntmps101
  go_wp2
  go_ret; exact ⟨by simp [h1, h2], Drawn0.refl _⟩
set_option maxHeartbeats 8000000 in
set_option maxRecDepth 100000 in
theorem geom_Check.calls (a0_0 : Int) (a0_1 : Int) (a0_2 : Int) (r : Int) (w : World) (h : geom_Check.f a0_0 a0_1 a0_2 = some r) :
  Calls Try.prog 60 #[.agg #[.int .i64 a0_0, .int .i64 a0_1, .int .i64 a0_2]] w fun e w' => e = .returned (.int .i64 r) ∧ Below w.heap.size w w' := by
 have h := Option.some.inj h; obtain ⟨b1, h1⟩ : ∃ b, within a0_0 8 34 = b := ⟨_, rfl⟩; obtain ⟨b2, h2⟩ : ∃ b, within a0_1 4 32 = b := ⟨_, rfl⟩; obtain ⟨b3, h3⟩ : ∃ b, within a0_2 0 8 = b := ⟨_, rfl⟩; rw [h1, h2, h3] at h; have H1 := aK h1; have H2 := aK h2; have H3 := aK h3; clear h1 h2 h3
 cases b1 <;> cases b2 <;> cases b3 <;> simp only [Bool.false_and, Bool.true_and, Bool.and_false, Bool.and_true, if_true, Bool.false_eq_true, if_false] at h <;> subst h
 all_goals
  go_enter Try.func60, Try.ntmps60; go_wp2_with ((go_at_call 101); (first | (with_reducible refine (geom_Check.within_calls a0_0 8 34 _ _ H1.out).mono ?_) | (with_reducible refine (geom_Check.within_calls a0_1 4 32 _ _ H2.out).mono ?_) | (with_reducible refine (geom_Check.within_calls a0_2 0 8 _ _ H3.out).mono ?_)); rintro e w' ⟨rfl, ⟨n, rfl⟩⟩); go_ret; exact ⟨rfl, by repeat (first | exact Below.refl _ _ | apply below_alloc | apply pw_below_drewN | apply below_drew1)⟩
end Go.Proofs.Ytnchdmidaigheaa.Hp
namespace Go.Proofs.Ytnchdmidaigheaa.Hp
open Go.RowKit Go.Proofs.YtnchdmidaigheaaW.PrintWords Go.Proofs.YtnchdmidaigheaaW.PrintLast Go.Proofs.YtnchdmidaigheaaW.PrintMore
attribute [local go_sem] max2_int min2_int max_two min_two max_three min_three max_four min_four   -- for this text's walks alone
set_option linter.unusedVariables false
set_option linter.unusedSimpArgs false
def geom_Place.f (a0_0 a0_1 a0_2 a1_0 a1_1 : Int) : Option (Int) := (geom_Check.f a0_0 a0_1 a0_2).bind fun t115 => (if t115 = 0 then (if a1_0 < 0 then (some (-1)) else (if a1_0 ≥ a0_0 then (some (-1)) else (if a1_1 < 0 then (some (-1)) else (if a1_1 ≥ a0_1 then (some (-1)) else (some (wrap64 ((wrap64 (a1_0 * a0_1)) + a1_1))))))) else (some (-1)))
set_option maxHeartbeats 8000000 in
set_option maxRecDepth 100000 in
theorem geom_Place.calls (a0_0 : Int) (a0_1 : Int) (a0_2 : Int) (a1_0 : Int) (a1_1 : Int) (r : Int) (w : World) (h : geom_Place.f a0_0 a0_1 a0_2 a1_0 a1_1 = some r) :
  Calls Try.prog 69 #[.agg #[.int .i64 a0_0, .int .i64 a0_1, .int .i64 a0_2], .agg #[.int .i64 a1_0, .int .i64 a1_1]] w fun e w' => e = .returned (.int .i64 r) ∧ Below w.heap.size w w' := by
 unfold geom_Place.f at h; obtain ⟨k, hk, h⟩ := Option.bind_eq_some_iff.1 h; have HK := aK (fun W => geom_Check.calls a0_0 a0_1 a0_2 k W hk); have H := aK h; clear h hk; have hz := heap_alloc_new w (.cells #[.int .i64 a0_0, .int .i64 a0_1, .int .i64 a0_2] 23); have hz2 := heap_alloc_new (w.alloc (.cells #[.int .i64 a0_0, .int .i64 a0_1, .int .i64 a0_2] 23)) (.cells #[.int .i64 a1_0, .int .i64 a1_1] 37); have hz1 := blk_below hz (below_alloc (Below.refl _ _) (.cells #[.int .i64 a1_0, .int .i64 a1_1] 37)); have hb := below_alloc (below_alloc (Below.refl w.heap.size w) (.cells #[.int .i64 a0_0, .int .i64 a0_1, .int .i64 a0_2] 23)) (.cells #[.int .i64 a1_0, .int .i64 a1_1] 37); have hs : (w.alloc (.cells #[.int .i64 a0_0, .int .i64 a0_1, .int .i64 a0_2] 23)).heap.size = w.heap.size + 1 := by simp
 rw [hs] at hz2; obtain ⟨g, hg⟩ : ∃ g, g = w.heap.size := ⟨_, rfl⟩; go_enter Try.func69, Try.ntmps69; go_upto_region 1 with fail; generalize (w.alloc (.cells #[.int .i64 a0_0, .int .i64 a0_1, .int .i64 a0_2] 23)).alloc (.cells #[.int .i64 a1_0, .int .i64 a1_1] 37) = W at hz1 hz2 hb ⊢; clear hz hs; rw [← hg] at hz1 hz2 ⊢; have HB := aK hb; have Z1 := aK hz1; have Z2 := aK hz2; have c0 := blk_cell hz1 0; have c1 := blk_cell hz1 1; have c2 := blk_cell hz1 2; clear hz1 hz2 hb hg; by_cases t : k = 0
 case neg =>
  have h := H.out; rw [if_neg t] at h; obtain rfl := Option.some.inj h; have e := bne_iff_ne.2 t; clear t h H; go_wp2_with (go_at_call 60; refine (HK.out _).mono ?_; rintro e w' ⟨rfl, hb⟩; have HB2 := aK (below_then HB.out HB.out.size hb); have z1 := blk_below Z1.out hb; have z2 := blk_below Z2.out hb; clear hb c0 c1 c2; have c0 := blk_cell z1 0; have c1 := blk_cell z1 1; have d0 := blk_cell z2 0; have d1 := blk_cell z2 1; clear z1 z2); go_ret; exact ⟨rfl, HB2.out⟩
 subst t; replace H := aK ((if_pos rfl).symm.trans H.out); by_cases t : a1_0 < 0
 case pos =>
  have h := H.out; rw [if_pos t] at h; obtain rfl := Option.some.inj h; have e := decide_eq_true t; clear t h H; go_wp2_with (go_at_call 60; refine (HK.out _).mono ?_; rintro e w' ⟨rfl, hb⟩; have HB2 := aK (below_then HB.out HB.out.size hb); have z1 := blk_below Z1.out hb; have z2 := blk_below Z2.out hb; clear hb c0 c1 c2; have c0 := blk_cell z1 0; have c1 := blk_cell z1 1; have d0 := blk_cell z2 0; have d1 := blk_cell z2 1; clear z1 z2); go_ret; exact ⟨rfl, HB2.out⟩
 replace H := aK ((if_neg t).symm.trans H.out); have e0 := decide_eq_false t; clear t; by_cases t : a1_0 ≥ a0_0
 case pos =>
  have h := H.out; rw [if_pos t] at h; obtain rfl := Option.some.inj h; have e := decide_eq_true t; clear t h H; go_wp2_with (go_at_call 60; refine (HK.out _).mono ?_; rintro e w' ⟨rfl, hb⟩; have HB2 := aK (below_then HB.out HB.out.size hb); have z1 := blk_below Z1.out hb; have z2 := blk_below Z2.out hb; clear hb c0 c1 c2; have c0 := blk_cell z1 0; have c1 := blk_cell z1 1; have d0 := blk_cell z2 0; have d1 := blk_cell z2 1; clear z1 z2); go_ret; exact ⟨rfl, HB2.out⟩
 replace H := aK ((if_neg t).symm.trans H.out); have e1 := decide_eq_false t; clear t; by_cases t : a1_1 < 0
 case pos =>
  have h := H.out; rw [if_pos t] at h; obtain rfl := Option.some.inj h; have e := decide_eq_true t; clear t h H; go_wp2_with (go_at_call 60; refine (HK.out _).mono ?_; rintro e w' ⟨rfl, hb⟩; have HB2 := aK (below_then HB.out HB.out.size hb); have z1 := blk_below Z1.out hb; have z2 := blk_below Z2.out hb; clear hb c0 c1 c2; have c0 := blk_cell z1 0; have c1 := blk_cell z1 1; have d0 := blk_cell z2 0; have d1 := blk_cell z2 1; clear z1 z2); go_ret; exact ⟨rfl, HB2.out⟩
 replace H := aK ((if_neg t).symm.trans H.out); have e2 := decide_eq_false t; clear t; by_cases t : a1_1 ≥ a0_1
 case pos =>
  have h := H.out; rw [if_pos t] at h; obtain rfl := Option.some.inj h; have e := decide_eq_true t; clear t h H; go_wp2_with (go_at_call 60; refine (HK.out _).mono ?_; rintro e w' ⟨rfl, hb⟩; have HB2 := aK (below_then HB.out HB.out.size hb); have z1 := blk_below Z1.out hb; have z2 := blk_below Z2.out hb; clear hb c0 c1 c2; have c0 := blk_cell z1 0; have c1 := blk_cell z1 1; have d0 := blk_cell z2 0; have d1 := blk_cell z2 1; clear z1 z2); go_ret; exact ⟨rfl, HB2.out⟩
 replace H := aK ((if_neg t).symm.trans H.out); have e3 := decide_eq_false t; clear t; obtain rfl := Option.some.inj H.out; clear H; go_wp2_with (go_at_call 60; refine (HK.out _).mono ?_; rintro e w' ⟨rfl, hb⟩; have HB2 := aK (below_then HB.out HB.out.size hb); have z1 := blk_below Z1.out hb; have z2 := blk_below Z2.out hb; clear hb c0 c1 c2; have c0 := blk_cell z1 0; have c1 := blk_cell z1 1; have d0 := blk_cell z2 0; have d1 := blk_cell z2 1; clear z1 z2); go_ret; exact ⟨by first | rfl | simp only [i64_w], HB2.out⟩
end Go.Proofs.Ytnchdmidaigheaa.Hp
namespace Go.Proofs.Ytnchdmidaigheaa.ND
set_option linter.unusedVariables false
set_option linter.unusedSimpArgs false
open Go.RowKit Go.Proofs.Ytnchdmidaigheaa.Hp Go.Proofs.YtnchdmidaigheaaW.PrintWords Go.Proofs.YtnchdmidaigheaaW.PrintLast Go.Proofs.YtnchdmidaigheaaW.PrintMore
theorem place_f {D : Dv} (h : D.Ok) (b p : Int) : geom_Place.f D.B D.P D.C b p = some (if D.here b p = true then (D.idx b p : Int) else -1) := by
 have hc : geom_Check.f D.B D.P D.C = some 0 := by
  unfold geom_Check.f within; rw [if_pos (by simp; have := h.b1; have := h.b2; have := h.p1; have := h.p2; have := h.c1; have := h.c2; omega)]
 unfold geom_Place.f; rw [hc, Option.bind_some, if_pos rfl]
 cases hh : D.here b p with
 | true =>
  obtain ⟨⟨h1, h2⟩, h3, h4⟩ := here_iff.1 hh; have hi := h.idx hh; have hs := h.size; have hl := h.pl; have h5 : 0 ≤ b * D.P := Int.mul_nonneg h1 (by omega); rw [if_neg (by omega), if_neg (by omega), if_neg (by omega), if_neg (by omega), if_pos rfl]; have e1 : wrap64 (b * D.P) = b * D.P := by unfold wrap64; omega
  rw [e1, hi.1]
  congr 1
  unfold wrap64; omega
 | false =>
  have hn : ¬ ((0 ≤ b ∧ b < D.B) ∧ 0 ≤ p ∧ p < D.P) := fun hc => by rw [here_iff.2 hc] at hh; cases hh
  rw [show (if false = true then (D.idx b p : Int) else -1) = -1 from rfl]; by_cases h1 : b < 0
  ·
   rw [if_pos h1]
  ·
   rw [if_neg h1]; by_cases h2 : b ≥ D.B
   ·
    rw [if_pos h2]
   ·
    rw [if_neg h2]; by_cases h3 : p < 0
    ·
     rw [if_pos h3]
    ·
     rw [if_neg h3, if_pos (by omega)]
theorem DV.newer2 {W W' : World} {ok ok' : Nat → Prop} {L : Lay} {D D0 : Dv} (h : DV W' ok' L D) (h0 : DV W ok L D0) (ho : ∀ k, ok' k → newer W ok k) : DV W' (newer W ok) L D :=
 h.mono ho (fun k hk hlt hS => hk.elim (fun hk => h0.no k hk (h0.lt k hS) hS) (fun hk => by have := h0.lt k hS; omega))
theorem newer_no {W W9 : World} {ok : Nat → Prop} {L : Lay} {D0 : Dv} (h0 : DV W ok L D0) (hs : W.heap.size ≤ W9.heap.size) : ∀ k, newer W9 ok k → ¬ L.S k := fun k hk hS => hk.elim (fun hk => h0.no k hk (h0.lt k hS) hS) (fun hk => by have := h0.lt k hS; omega)
def prog4.T4 : Bool × List (List Nat × List Nat) := (true, [([], []), ([0], [0]), ([1], [1]), ([2], [2]), ([], []), ([3, 4], [3, 4]), ([5, 5, 0, 1, 2, 3, 4, 5], [5])])
def prog4.B4 : List Nat := [0, 1, 3, 7, 0, 31, 63]
theorem prog4.tab4 : rtab .any (opsOf Try.f17 4) = prog4.T4 := by kernel_rfl
theorem prog4.bits4 : waitsOk prog4.T4.2 prog4.B4 = true := by kernel_rfl
def prog7.T7 : Bool × List (List Nat × List Nat) := (true, [([], []), ([0], [0]), ([1], [1]), ([2], [2]), ([], []), ([4], [4]), ([3, 5], [3, 5]), ([6], [6]), ([7], [7])])
def prog7.B7 : List Nat := [0, 1, 3, 7, 0, 16, 63, 127, 255]
theorem prog7.tab7 : rtab .any (opsOf Try.f17 7) = prog7.T7 := by kernel_rfl
theorem prog7.bits7 : waitsOk prog7.T7.2 prog7.B7 = true := by kernel_rfl
def prog9.T9 : Bool × List (List Nat × List Nat) := (true, [([], []), ([0], [0]), ([], []), ([2], [2]), ([3], [3]), ([4], [4]), ([], []), ([6], [6]), ([5, 7], [5, 7]), ([8], [8]), ([1, 9], [1, 9]), ([10], [10])])
def prog9.B9 : List Nat := [0, 1, 0, 4, 12, 28, 0, 64, 252, 508, 1023, 2047]
theorem prog9.tab9 : rtab .any (opsOf Try.f17 9) = prog9.T9 := by kernel_rfl
theorem prog9.bits9 : waitsOk prog9.T9.2 prog9.B9 = true := by kernel_rfl
def prog12.T12 : Bool × List (List Nat × List Nat) := (true, [([], []), ([0], [0]), ([1], [1]), ([2], [2]), ([], []), ([4], [4]), ([3, 5], [3, 5]), ([6], [6]), ([7], [7]), ([3, 5, 0, 1, 2, 3, 4, 5, 6, 7, 8], [3, 5]), ([9, 8, 0, 1, 2, 3, 4, 5, 6, 7, 8], [8, 9])])
def prog12.B12 : List Nat := [0, 1, 3, 7, 0, 16, 63, 127, 255, 511, 1023]
theorem prog12.tab12 : rtab .any (opsOf Try.f17 12) = prog12.T12 := by kernel_rfl
theorem prog12.bits12 : waitsOk prog12.T12.2 prog12.B12 = true := by kernel_rfl
set_option maxHeartbeats 2000000 in
set_option maxRecDepth 100000 in
theorem program_calls {W : World} {ok okl : Nat → Prop} {L : Lay} {D : Dv} (h : DV W ok L D) (bk pg : Int) (l : List Int) (A : Option Addr) (c : Nat) (hc : l.length ≤ c) (hl : isBytes l) (gl : Kd.F (Kd.int .u8) W okl A l.length l) (hno : ∀ k, okl k → k < W.heap.size → ¬ L.S k) :
  Calls Try.prog 17 #[.pointer (some ⟨L.g, 0, none⟩), .agg #[.int .i64 bk, .int .i64 pg], .slice A l.length c] W fun e w' => e = .returned (.int .i64 (D.prog bk pg l).1) ∧ DV w' (newer W ok) L (D.prog bk pg l).2 ∧ Turn W w' L.S := by
 have H00 := aK h; have HPR := aK (rfl : D.prog bk pg l = D.prog bk pg l); obtain ⟨r, hr⟩ : ∃ r, r = D.prog bk pg l := ⟨_, rfl⟩; rw [← hr]; have HRR := aK hr; have hz4 := heap_alloc_new W (.cells #[.int .i64 bk, .int .i64 pg] 37); have hb4 := below_alloc (Below.refl W.heap.size W) (.cells #[.int .i64 bk, .int .i64 pg] 37); have hz5 := heap_alloc_new (W.alloc (.cells #[.int .i64 bk, .int .i64 pg] 37)) (.cells #[.slice A l.length c] 38); have hb5 := below_alloc hb4 (.cells #[.slice A l.length c] 38); have hz4' := blk_alloc hz4 (.cells #[.slice A l.length c] 38); have hsz : (W.alloc (.cells #[.int .i64 bk, .int .i64 pg] 37)).heap.size = W.heap.size + 1 := by simp
 rw [hsz] at hz5; obtain ⟨g5, hg5⟩ : ∃ g, g = W.heap.size + 1 := ⟨_, rfl⟩; obtain ⟨g4, hg4⟩ : ∃ g, g = W.heap.size := ⟨_, rfl⟩; have HLL := aK (And.intro hc (And.intro hl (And.intro gl hno))); clear hc hl gl hno hr hb4 hz4 hsz h; go_enter Try.func17, Try.ntmps17; go_upto_region 1 with fail; rw [← hg5] at hz5 ⊢; generalize ((W.alloc (.cells #[.int .i64 bk, .int .i64 pg] 37)).alloc (.cells #[.slice A l.length c] 38)) = W2 at hz4' hz5 hb5 ⊢; rw [← hg4] at hz4' ⊢; have HG := aK (And.intro hg4 hg5); have HB2 := aK hb5; have HZ4 := aK hz4'; have HZ5 := aK hz5; have H2 := aK (H00.out.below hb5); clear hg4 hg5 hz4' hz5 hb5
 cases hd : D.down with
 | true =>
  have HU := aK (up_calls H2.out); rw [hd, if_pos rfl] at HU; have HR1 : Aside0 (r = (9, D)) := ⟨by rw [HRR.out]; unfold Dv.prog; rw [if_pos hd]⟩; clear hd; go_wp2_with (go_at_call 63; refine HU.out.mono ?_; rintro e w3 ⟨rfl, hb⟩; have HB3 := aK (below_then HB2.out HB2.out.size hb); clear hb); go_ret; rw [HR1.out]; exact ⟨rfl, (H00.out.below HB3.out).newer_ H00.out.lt, Turn.of_below HB3.out _⟩
 | false =>
  have HU := aK (up_calls H2.out); rw [hd, if_neg (by decide)] at HU; go_upto_region 4 with (go_at_call 63; refine HU.out.mono ?_; rintro e w3 ⟨rfl, hb⟩; have HB3 := aK (below_then HB2.out HB2.out.size hb); have HB23 := aK hb; clear hb); have H3 := aK (H2.out.below HB23.out); have HZ4_3 := aK (blk_below HZ4.out HB23.out); have HZ5_3 := aK (blk_below HZ5.out HB23.out); have B0 := aK (below_drew1 (Below.refl w3.heap.size w3)); obtain ⟨pl, hpl⟩ : ∃ pl : Int, pl = if D.here bk pg = true then (D.idx bk pg : Int) else -1 := ⟨_, rfl⟩; have HPL := aK (fun w => geom_Place.calls D.B D.P D.C bk pg pl w (by rw [hpl]; exact place_f H00.out.ok bk pg)); clear HU HZ4 HZ5 H2 HB23; refine start_ (n := 7) (S := fun w' => True) (ds := []) #[false, false, false, false, false, false, false] (by kernel_rfl) rfl rfl trivial (fun hHeld => ?_); refine with_tabW prog4.tab4 prog4.bits4 (fun HT_ HW_ => ?_); generalize w3.drew = wq at B0 hHeld ⊢; refine inv_at [0, 1, 2, 3, 4, 5, 6] (fun a0_ b a w' => a = putSel a0_ b [(0, 16, .pointer (some ⟨L.g, 0, none⟩)), (1, 17, .pointer (some ⟨L.g, 0, none⟩)), (2, 18, .pointer (some ⟨L.g, 0, none⟩)), (3, 19, .agg #[.int .i64 D.B, .int .i64 D.P, .int .i64 D.C]), (4, 20, .agg #[.int .i64 bk, .int .i64 pg]), (5, 21, .int .i64 pl), (6, 8, .int .i64 pl)] ∧ (Below w3.heap.size w3 w')) HT_.out HW_.out (by kernel_rfl) (by kernel_rfl) ?_ ?_ ?_
  ·
   exact ⟨by simp only [putSel, Bool.false_eq_true, if_false], B0.out⟩
  ·
   skip
   clear B0; refine steps_cons ?_ ?_; rintro b a w' ⟨ha, Q_B0⟩ hb_ hon hoff; refine ⟨_, rfl, fun K hK => ?_⟩; have e0 := q_f ha 0 rfl rfl; replace ha := aK ha; have B0 := aK Q_B0; refine q_v (.pointer (some ⟨L.g, 0, none⟩)) (by rfl) rfl ?_ ?_; (· (go_simp; (try simp only [i64_w]); try rfl)); refine hK.out _ _ ⟨q_u ha 0 hb_ rfl rfl rfl, Q_B0⟩; refine steps_cons ?_ ?_; rintro b a w' ⟨ha, Q_B0⟩ hb_ hon hoff; refine ⟨_, rfl, fun K hK => ?_⟩; have e16 := q_n ha hon 16 0 0 rfl; replace ha := aK ha; have B0 := aK Q_B0; refine q_v (.pointer (some ⟨L.g, 0, none⟩)) (by rfl) rfl ?_ ?_; (· (go_simp; (try simp only [i64_w]); try rfl)); refine hK.out _ _ ⟨q_u ha 1 hb_ rfl rfl rfl, Q_B0⟩; refine steps_cons ?_ ?_; rintro b a w' ⟨ha, Q_B0⟩ hb_ hon hoff; refine ⟨_, rfl, fun K hK => ?_⟩; have e17 := q_n ha hon 17 1 1 rfl; replace ha := aK ha; have B0 := aK Q_B0; refine q_v (.pointer (some ⟨L.g, 0, none⟩)) (by rfl) rfl ?_ ?_; (· (go_simp; (try simp only [i64_w]); try rfl)); refine hK.out _ _ ⟨q_u ha 2 hb_ rfl rfl rfl, Q_B0⟩; refine steps_cons ?_ ?_; rintro b a w' ⟨ha, Q_B0⟩ hb_ hon hoff; refine ⟨_, rfl, fun K hK => ?_⟩; have e18 := q_n ha hon 18 2 2 rfl; replace ha := aK ha; have B0 := aK Q_B0; have hh_ := top_cells (H3.out.below B0.out); have c0_ := hh_.1; have c1_ := hh_.2.1; have c2_ := hh_.2.2.1; clear hh_; refine q_v (.agg #[.int .i64 D.B, .int .i64 D.P, .int .i64 D.C]) (by rfl) rfl ?_ ?_; (· (go_simp; (try simp only [i64_w]); try rfl)); refine hK.out _ _ ⟨q_u ha 3 hb_ rfl rfl rfl, Q_B0⟩; refine steps_cons ?_ ?_; rintro b a w' ⟨ha, Q_B0⟩ hb_ hon hoff; refine ⟨_, rfl, fun K hK => ?_⟩; have e4 := q_f ha 4 rfl rfl; replace ha := aK ha; have B0 := aK Q_B0; have c0_ := blk_cell (blk_below HZ4_3.out B0.out) 0; have c1_ := blk_cell (blk_below HZ4_3.out B0.out) 1; refine q_v (.agg #[.int .i64 bk, .int .i64 pg]) (by rfl) rfl ?_ ?_; (· (go_simp; (try simp only [i64_w]); try rfl)); refine hK.out _ _ ⟨q_u ha 4 hb_ rfl rfl rfl, Q_B0⟩; refine steps_cons ?_ ?_; rintro b a w' ⟨ha, Q_B0⟩ hb_ hon hoff; refine ⟨_, rfl, fun K hK => ?_⟩; have e19 := q_n ha hon 19 3 3 rfl; have e20 := q_n ha hon 20 4 4 rfl; replace ha := aK ha; have B0 := aK Q_B0; refine goes_ Try.func69 (by kernel_rfl) rfl #[.agg #[.int .i64 D.B, .int .i64 D.P, .int .i64 D.C], .agg #[.int .i64 bk, .int .i64 pg]] (by rfl) rfl rfl (by (simp only [List.map_toArray, List.map_cons, List.map_nil, Act.eval, Array.getD_eq_getD_getElem?, Option.getD_some, e19, e20]) <;> rfl) ?_; (with_reducible refine (HPL.out _).mono ?_); rintro e w2 ⟨rfl, hb⟩; refine ⟨_, rfl, ?_⟩; refine hK.out _ _ ⟨q_u ha 5 hb_ rfl rfl rfl, below_then B0.out B0.out.size hb⟩; refine steps_cons ?_ ?_; rintro b a w' ⟨ha, Q_B0⟩ hb_ hon hoff; refine ⟨_, rfl, fun K hK => ?_⟩; have e21 := q_n ha hon 21 5 5 rfl; replace ha := aK ha; have B0 := aK Q_B0; refine q_v (.int .i64 pl) (by rfl) rfl ?_ ?_; (· (go_simp; (try simp only [i64_w]); try rfl)); refine hK.out _ _ ⟨q_u ha 6 hb_ rfl rfl rfl, Q_B0⟩; exact steps_nil
  rintro b a w4 hall ⟨ha, Q_B0⟩; clear B0; subst ha; rw [q_a hall]; rotate_left
  ·
   kernel_rfl
  simp only [List.foldl_cons, List.foldl_nil, Act.put, List.setIfInBounds_toArray, List.set_cons_zero, List.set_cons_succ]; have B0 := aK Q_B0; clear Q_B0; clear hall; have HB4 := aK (below_then HB3.out HB3.out.size B0.out); have H4 := aK (H3.out.below B0.out); have HZ4_4 := aK (blk_below HZ4_3.out B0.out); have HZ5_4 := aK (blk_below HZ5_3.out B0.out); clear HPL H3 HZ4_3 HZ5_3 B0 HB2 HB3
  cases hh : D.here bk pg with
  | false =>
   rw [hh, if_neg (by decide)] at hpl; subst hpl; have HR1 : Aside0 (r = (3, D)) := ⟨by rw [HRR.out]; unfold Dv.prog; rw [if_neg (by rw [hd]; decide), if_pos (.inl hh)]⟩; clear hh hd; go_wp2_with fail; go_ret; rw [HR1.out]; exact ⟨rfl, (H00.out.below HB4.out).newer_ H00.out.lt, Turn.of_below HB4.out _⟩
  | true =>
   rw [hh, if_pos rfl] at hpl; have hix := H00.out.ok.idx hh; obtain ⟨i, hi⟩ : ∃ i, i = D.idx bk pg := ⟨_, rfl⟩; rw [← hi] at hpl hix; subst hpl; have HI := aK (And.intro hi hix.2); have HHH := aK hh; obtain ⟨⟨h1, h2⟩, h3, h4⟩ := here_iff.1 hh; obtain ⟨n, rfl⟩ := Int.eq_ofNat_of_zero_le h1; have HN := aK (And.intro h2 (And.intro h3 h4)); have HD0 := aK hd; have tpl : decide ((i : Int) < 0) = false := decide_eq_false (by omega); have y5 := blk_cell HZ5_4.out 0; clear hi hix h1 h2 h3 h4 hd hh; by_cases hlen : l.length = 256
   case neg =>
    have tl : ((l.length : Int) != 256) = true := by simp; omega
    have HR1 : Aside0 (r = (3, D)) := ⟨by rw [HRR.out]; unfold Dv.prog; rw [if_neg (by rw [HD0.out]; decide), if_pos (.inr hlen)]⟩; clear hlen; go_wp2_with fail; go_ret; rw [HR1.out]; exact ⟨rfl, (H00.out.below HB4.out).newer_ H00.out.lt, Turn.of_below HB4.out _⟩
   case pos =>
    have tl : ((l.length : Int) != 256) = false := by rw [hlen]; rfl
    have HLN := aK hlen; clear hlen; go_upto_region 7 with fail; obtain ⟨bm, hbm⟩ : ∃ x, x = D.mark (n : Int) := ⟨_, rfl⟩; have HBM := aK hbm; have HQ := aK (And.intro (eq_true (show (0 : Int) ≤ (n : Int) by omega)) (eq_true (show (n : Int) < (((marks D).length : Nat) : Int) by rw [marks_len]; have := HN.out.1; omega))); have HQ2 := aK (And.intro (eq_true (show (0 : Int) ≤ (n : Int) by omega)) (eq_true (show (n : Int) < ((D.next.length : Nat) : Int) by have := H00.out.ok.nl; have := HN.out.1; omega))); have B0 := aK (below_drew1 (Below.refl w4.heap.size w4)); clear hbm y5 tl tpl; refine start_ (n := 9) (S := fun w' => True) (ds := []) #[false, false, false, false, false, false, false, false, false] (by kernel_rfl) rfl rfl trivial (fun hHeld => ?_); refine with_tabW prog7.tab7 prog7.bits7 (fun HT_ HW_ => ?_); generalize w4.drew = wq at B0 hHeld ⊢; refine inv_at [0, 1, 2, 3, 4, 5, 6, 7, 8] (fun a0_ b a w' => a = putSel a0_ b [(0, 31, .pointer (some ⟨L.g, 0, none⟩)), (1, 32, .pointer (some ⟨L.g, 0, none⟩)), (2, 33, .pointer (some ⟨L.g, 3, none⟩)), (3, 34, .slice (some ⟨L.gm, 0, none⟩) (marks D).length L.cm), (4, 35, .pointer (some ⟨g4, 0, none⟩)), (5, 36, .int .i64 (n : Int)), (6, 37, .pointer (some ⟨L.gm, n, none⟩)), (7, 38, .bool bm), (8, 30, .bool bm)] ∧ (Below w4.heap.size w4 w')) HT_.out HW_.out (by kernel_rfl) (by kernel_rfl) ?_ ?_ ?_
    ·
     exact ⟨by simp only [putSel, Bool.false_eq_true, if_false], B0.out⟩
    ·
     skip
     clear B0; refine steps_cons ?_ ?_; rintro b a w' ⟨ha, Q_B0⟩ hb_ hon hoff; refine ⟨_, rfl, fun K hK => ?_⟩; have e0 := q_f ha 0 rfl rfl; replace ha := aK ha; have B0 := aK Q_B0; refine q_v (.pointer (some ⟨L.g, 0, none⟩)) (by rfl) rfl ?_ ?_; (· (go_simp; (try simp only [i64_w]); try rfl)); refine hK.out _ _ ⟨q_u ha 0 hb_ rfl rfl rfl, Q_B0⟩; refine steps_cons ?_ ?_; rintro b a w' ⟨ha, Q_B0⟩ hb_ hon hoff; refine ⟨_, rfl, fun K hK => ?_⟩; have e31 := q_n ha hon 31 0 0 rfl; replace ha := aK ha; have B0 := aK Q_B0; refine q_v (.pointer (some ⟨L.g, 0, none⟩)) (by rfl) rfl ?_ ?_; (· (go_simp; (try simp only [i64_w]); try rfl)); refine hK.out _ _ ⟨q_u ha 1 hb_ rfl rfl rfl, Q_B0⟩; refine steps_cons ?_ ?_; rintro b a w' ⟨ha, Q_B0⟩ hb_ hon hoff; refine ⟨_, rfl, fun K hK => ?_⟩; have e32 := q_n ha hon 32 1 1 rfl; replace ha := aK ha; have B0 := aK Q_B0; refine q_v (.pointer (some ⟨L.g, 3, none⟩)) (by rfl) rfl ?_ ?_; (· (go_simp; (try simp only [i64_w]); try rfl)); refine hK.out _ _ ⟨q_u ha 2 hb_ rfl rfl rfl, Q_B0⟩; refine steps_cons ?_ ?_; rintro b a w' ⟨ha, Q_B0⟩ hb_ hon hoff; refine ⟨_, rfl, fun K hK => ?_⟩; have e33 := q_n ha hon 33 2 2 rfl; replace ha := aK ha; have B0 := aK Q_B0; have c_ := (top_cells (H4.out.below B0.out)).2.2.2.1; refine q_v (.slice (some ⟨L.gm, 0, none⟩) (marks D).length L.cm) (by rfl) rfl ?_ ?_; (· (go_simp; (try simp only [i64_w]); try rfl)); refine hK.out _ _ ⟨q_u ha 3 hb_ rfl rfl rfl, Q_B0⟩; refine steps_cons ?_ ?_; rintro b a w' ⟨ha, Q_B0⟩ hb_ hon hoff; refine ⟨_, rfl, fun K hK => ?_⟩; have e4 := q_f ha 4 rfl rfl; replace ha := aK ha; have B0 := aK Q_B0; refine q_v (.pointer (some ⟨g4, 0, none⟩)) (by rfl) rfl ?_ ?_; (· (go_simp; (try simp only [i64_w]); try rfl)); refine hK.out _ _ ⟨q_u ha 4 hb_ rfl rfl rfl, Q_B0⟩; refine steps_cons ?_ ?_; rintro b a w' ⟨ha, Q_B0⟩ hb_ hon hoff; refine ⟨_, rfl, fun K hK => ?_⟩; have e35 := q_n ha hon 35 4 4 rfl; replace ha := aK ha; have B0 := aK Q_B0; have c_ := blk_cell (blk_below HZ4_4.out B0.out) 0; refine q_v (.int .i64 (n : Int)) (by rfl) rfl ?_ ?_; (· (go_simp; (try simp only [i64_w]); try rfl)); refine hK.out _ _ ⟨q_u ha 5 hb_ rfl rfl rfl, Q_B0⟩; refine steps_cons ?_ ?_; rintro b a w' ⟨ha, Q_B0⟩ hb_ hon hoff; refine ⟨_, rfl, fun K hK => ?_⟩; have e34 := q_n ha hon 34 3 3 rfl; have e36 := q_n ha hon 36 5 5 rfl; replace ha := aK ha; have B0 := aK Q_B0; have p_ := HQ.out.1; have q_ := HQ.out.2; refine q_v (.pointer (some ⟨L.gm, n, none⟩)) (by rfl) rfl ?_ ?_; (· (go_simp; (try simp only [i64_w]); try rfl)); refine hK.out _ _ ⟨q_u ha 6 hb_ rfl rfl rfl, Q_B0⟩; refine steps_cons ?_ ?_; rintro b a w' ⟨ha, Q_B0⟩ hb_ hon hoff; refine ⟨_, rfl, fun K hK => ?_⟩; have e37 := q_n ha hon 37 6 6 rfl; replace ha := aK ha; have B0 := aK Q_B0; have c_ := (H4.out.below B0.out).mb.cell (marks_at HN.out.1); rw [← HBM.out] at c_; refine q_v (.bool bm) (by rfl) rfl ?_ ?_; (· (go_simp; (try simp only [i64_w]); try rfl)); refine hK.out _ _ ⟨q_u ha 7 hb_ rfl rfl rfl, Q_B0⟩; refine steps_cons ?_ ?_; rintro b a w' ⟨ha, Q_B0⟩ hb_ hon hoff; refine ⟨_, rfl, fun K hK => ?_⟩; have e38 := q_n ha hon 38 7 7 rfl; replace ha := aK ha; have B0 := aK Q_B0; refine q_v (.bool bm) (by rfl) rfl ?_ ?_; (· (go_simp; (try simp only [i64_w]); try rfl)); refine hK.out _ _ ⟨q_u ha 8 hb_ rfl rfl rfl, Q_B0⟩; exact steps_nil
    rintro b a w7 hall ⟨ha, Q_B0⟩; clear B0; subst ha; rw [q_a hall]; rotate_left
    ·
     kernel_rfl
    simp only [List.foldl_cons, List.foldl_nil, Act.put, List.setIfInBounds_toArray, List.set_cons_zero, List.set_cons_succ]; have B0 := aK Q_B0; clear Q_B0; clear hall; have HB7 := aK (below_then HB4.out HB4.out.size B0.out); have H7 := aK (H4.out.below B0.out); have HZ4_7 := aK (blk_below HZ4_4.out B0.out); have HZ5_7 := aK (blk_below HZ5_4.out B0.out); clear B0 H4 HZ4_4 HZ5_4 HB4
    cases bm with
    | true =>
     have HR1 : Aside0 (r = (12, D)) := ⟨by rw [HRR.out]; unfold Dv.prog; rw [if_neg (by rw [HD0.out]; decide), if_neg (by rw [HHH.out, HLN.out]; simp), if_pos HBM.out.symm]⟩; go_wp2_with fail; go_ret; rw [HR1.out]; exact ⟨rfl, (H00.out.below HB7.out).newer_ H00.out.lt, Turn.of_below HB7.out _⟩
    | false =>
     go_upto_region 9 with fail; obtain ⟨nx, hnx⟩ : ∃ x, x = D.next.getD n 0 := ⟨_, rfl⟩; obtain ⟨bq, hbq⟩ : ∃ x, x = (pg != nx) := ⟨_, rfl⟩; have HNX := aK hnx; have HBQ := aK hbq.symm; have HNC : Aside0 ((D.next.map (Value.int .i64))[n]? = some (.int .i64 nx)) := ⟨by rw [hnx]; exact ints_at (by have := H00.out.ok.nl; have := HN.out.1; omega)⟩; have B0 := aK (below_drew1 (Below.refl w7.heap.size w7)); clear hnx hbq; refine start_ (n := 12) (S := fun w' => True) (ds := []) #[false, false, false, false, false, false, false, false, false, false, false, false] (by kernel_rfl) rfl rfl trivial (fun hHeld => ?_); refine with_tabW prog9.tab9 prog9.bits9 (fun HT_ HW_ => ?_); generalize w7.drew = wq at B0 hHeld ⊢; refine inv_at [0, 1, 2, 3, 4, 5, 6, 7, 8, 9, 10, 11] (fun a0_ b a w' => a = putSel a0_ b [(0, 40, .pointer (some ⟨g4, 1, none⟩)), (1, 41, .int .i64 pg), (2, 42, .pointer (some ⟨L.g, 0, none⟩)), (3, 43, .pointer (some ⟨L.g, 0, none⟩)), (4, 44, .pointer (some ⟨L.g, 5, none⟩)), (5, 45, .slice (some ⟨L.gn, 0, none⟩) D.next.length L.cn), (6, 46, .pointer (some ⟨g4, 0, none⟩)), (7, 47, .int .i64 (n : Int)), (8, 48, .pointer (some ⟨L.gn, n, none⟩)), (9, 49, .int .i64 nx), (10, 50, .bool bq), (11, 39, .bool bq)] ∧ (Below w7.heap.size w7 w')) HT_.out HW_.out (by kernel_rfl) (by kernel_rfl) ?_ ?_ ?_
     ·
      exact ⟨by simp only [putSel, Bool.false_eq_true, if_false], B0.out⟩
     ·
      skip
      clear B0; refine steps_cons ?_ ?_; rintro b a w' ⟨ha, Q_B0⟩ hb_ hon hoff; refine ⟨_, rfl, fun K hK => ?_⟩; have e4 := q_f ha 4 rfl rfl; replace ha := aK ha; have B0 := aK Q_B0; refine q_v (.pointer (some ⟨g4, 1, none⟩)) (by rfl) rfl ?_ ?_; (· (go_simp; (try simp only [i64_w]); try rfl)); refine hK.out _ _ ⟨q_u ha 0 hb_ rfl rfl rfl, Q_B0⟩; refine steps_cons ?_ ?_; rintro b a w' ⟨ha, Q_B0⟩ hb_ hon hoff; refine ⟨_, rfl, fun K hK => ?_⟩; have e40 := q_n ha hon 40 0 0 rfl; replace ha := aK ha; have B0 := aK Q_B0; have c_ := blk_cell (blk_below HZ4_7.out B0.out) 1; refine q_v (.int .i64 pg) (by rfl) rfl ?_ ?_; (· (go_simp; (try simp only [i64_w]); try rfl)); refine hK.out _ _ ⟨q_u ha 1 hb_ rfl rfl rfl, Q_B0⟩; refine steps_cons ?_ ?_; rintro b a w' ⟨ha, Q_B0⟩ hb_ hon hoff; refine ⟨_, rfl, fun K hK => ?_⟩; have e0 := q_f ha 0 rfl rfl; replace ha := aK ha; have B0 := aK Q_B0; refine q_v (.pointer (some ⟨L.g, 0, none⟩)) (by rfl) rfl ?_ ?_; (· (go_simp; (try simp only [i64_w]); try rfl)); refine hK.out _ _ ⟨q_u ha 2 hb_ rfl rfl rfl, Q_B0⟩; refine steps_cons ?_ ?_; rintro b a w' ⟨ha, Q_B0⟩ hb_ hon hoff; refine ⟨_, rfl, fun K hK => ?_⟩; have e42 := q_n ha hon 42 2 2 rfl; replace ha := aK ha; have B0 := aK Q_B0; refine q_v (.pointer (some ⟨L.g, 0, none⟩)) (by rfl) rfl ?_ ?_; (· (go_simp; (try simp only [i64_w]); try rfl)); refine hK.out _ _ ⟨q_u ha 3 hb_ rfl rfl rfl, Q_B0⟩; refine steps_cons ?_ ?_; rintro b a w' ⟨ha, Q_B0⟩ hb_ hon hoff; refine ⟨_, rfl, fun K hK => ?_⟩; have e43 := q_n ha hon 43 3 3 rfl; replace ha := aK ha; have B0 := aK Q_B0; refine q_v (.pointer (some ⟨L.g, 5, none⟩)) (by rfl) rfl ?_ ?_; (· (go_simp; (try simp only [i64_w]); try rfl)); refine hK.out _ _ ⟨q_u ha 4 hb_ rfl rfl rfl, Q_B0⟩; refine steps_cons ?_ ?_; rintro b a w' ⟨ha, Q_B0⟩ hb_ hon hoff; refine ⟨_, rfl, fun K hK => ?_⟩; have e44 := q_n ha hon 44 4 4 rfl; replace ha := aK ha; have B0 := aK Q_B0; have c_ := (top_cells (H7.out.below B0.out)).2.2.2.2.2.1; refine q_v (.slice (some ⟨L.gn, 0, none⟩) D.next.length L.cn) (by rfl) rfl ?_ ?_; (· (go_simp; (try simp only [i64_w]); try rfl)); refine hK.out _ _ ⟨q_u ha 5 hb_ rfl rfl rfl, Q_B0⟩; refine steps_cons ?_ ?_; rintro b a w' ⟨ha, Q_B0⟩ hb_ hon hoff; refine ⟨_, rfl, fun K hK => ?_⟩; have e4 := q_f ha 4 rfl rfl; replace ha := aK ha; have B0 := aK Q_B0; refine q_v (.pointer (some ⟨g4, 0, none⟩)) (by rfl) rfl ?_ ?_; (· (go_simp; (try simp only [i64_w]); try rfl)); refine hK.out _ _ ⟨q_u ha 6 hb_ rfl rfl rfl, Q_B0⟩; refine steps_cons ?_ ?_; rintro b a w' ⟨ha, Q_B0⟩ hb_ hon hoff; refine ⟨_, rfl, fun K hK => ?_⟩; have e46 := q_n ha hon 46 6 6 rfl; replace ha := aK ha; have B0 := aK Q_B0; have c_ := blk_cell (blk_below HZ4_7.out B0.out) 0; refine q_v (.int .i64 (n : Int)) (by rfl) rfl ?_ ?_; (· (go_simp; (try simp only [i64_w]); try rfl)); refine hK.out _ _ ⟨q_u ha 7 hb_ rfl rfl rfl, Q_B0⟩; refine steps_cons ?_ ?_; rintro b a w' ⟨ha, Q_B0⟩ hb_ hon hoff; refine ⟨_, rfl, fun K hK => ?_⟩; have e45 := q_n ha hon 45 5 5 rfl; have e47 := q_n ha hon 47 7 7 rfl; replace ha := aK ha; have B0 := aK Q_B0; have p_ := HQ2.out.1; have q_ := HQ2.out.2; refine q_v (.pointer (some ⟨L.gn, n, none⟩)) (by rfl) rfl ?_ ?_; (· (go_simp; (try simp only [i64_w]); try rfl)); refine hK.out _ _ ⟨q_u ha 8 hb_ rfl rfl rfl, Q_B0⟩; refine steps_cons ?_ ?_; rintro b a w' ⟨ha, Q_B0⟩ hb_ hon hoff; refine ⟨_, rfl, fun K hK => ?_⟩; have e48 := q_n ha hon 48 8 8 rfl; replace ha := aK ha; have B0 := aK Q_B0; have c_ := (H7.out.below B0.out).nx.cell HNC.out; refine q_v (.int .i64 nx) (by rfl) rfl ?_ ?_; (· (go_simp; (try simp only [i64_w]); try rfl)); refine hK.out _ _ ⟨q_u ha 9 hb_ rfl rfl rfl, Q_B0⟩; refine steps_cons ?_ ?_; rintro b a w' ⟨ha, Q_B0⟩ hb_ hon hoff; refine ⟨_, rfl, fun K hK => ?_⟩; have e41 := q_n ha hon 41 1 1 rfl; have e49 := q_n ha hon 49 9 9 rfl; replace ha := aK ha; have B0 := aK Q_B0; have q_ := HBQ.out
      refine q_v (.bool bq) (by rfl) rfl ?_ ?_; (· (go_simp; (try simp only [i64_w]); try rfl)); refine hK.out _ _ ⟨q_u ha 10 hb_ rfl rfl rfl, Q_B0⟩; refine steps_cons ?_ ?_; rintro b a w' ⟨ha, Q_B0⟩ hb_ hon hoff; refine ⟨_, rfl, fun K hK => ?_⟩; have e50 := q_n ha hon 50 10 10 rfl; replace ha := aK ha; have B0 := aK Q_B0; refine q_v (.bool bq) (by rfl) rfl ?_ ?_; (· (go_simp; (try simp only [i64_w]); try rfl)); refine hK.out _ _ ⟨q_u ha 11 hb_ rfl rfl rfl, Q_B0⟩; exact steps_nil
     rintro b a w9 hall ⟨ha, Q_B0⟩; clear B0; subst ha; rw [q_a hall]; rotate_left
     ·
      kernel_rfl
     simp only [List.foldl_cons, List.foldl_nil, Act.put, List.setIfInBounds_toArray, List.set_cons_zero, List.set_cons_succ]; have B0 := aK Q_B0; clear Q_B0; clear hall; have HB9 := aK (below_then HB7.out HB7.out.size B0.out); have H9 := aK (H7.out.below B0.out); have HZ4_9 := aK (blk_below HZ4_7.out B0.out); have HZ5_9 := aK (blk_below HZ5_7.out B0.out); clear B0 H7 HZ4_7 HZ5_7 HB7
     cases bq with
     | true =>
      have HR1 : Aside0 (r = (11, D)) := ⟨by rw [HRR.out]; unfold Dv.prog; rw [if_neg (by rw [HD0.out]; decide), if_neg (by rw [HHH.out, HLN.out]; simp), if_neg (by rw [← HBM.out]; decide), if_pos (by rw [Int.toNat_natCast, ← HNX.out]; have := HBQ.out; simp at this; exact fun e => this e.symm)]⟩; go_wp2_with fail; go_ret; rw [HR1.out]; exact ⟨rfl, (H00.out.below HB9.out).newer_ H00.out.lt, Turn.of_below HB9.out _⟩
     | false =>
      obtain rfl : pg = nx := by have := HBQ.out; simpa using this
      have HR1 : Aside0 (r = (ended D.fault.1, D.progD (n : Int) pg l)) := ⟨by rw [HRR.out]; unfold Dv.prog; rw [if_neg (by rw [HD0.out]; decide), if_neg (by rw [HHH.out, HLN.out]; simp), if_neg (by rw [← HBM.out]; decide), if_neg (by rw [Int.toNat_natCast, ← HNX.out]; simp)]⟩; have HBG := aK (begin_calls H9.out); go_upto_region 12 with (go_at_call 64; refine HBG.out.mono ?_; rintro e w10 ⟨A3, c3, rfl, hc3, hF3, hD3, hT3⟩; have HE3 := aK (And.intro hc3 (And.intro hF3 (And.intro hD3 hT3))); clear hc3 hF3 hD3 hT3); obtain ⟨m, hm⟩ : ∃ m, m = D.fault.2 := ⟨_, rfl⟩; rw [← hm] at HE3 ⊢; have HM := aK hm; have hz10 := heap_alloc_new w10 (.cells #[.slice A3 m.length c3] 38); have hb10 := below_alloc (Below.refl w10.heap.size w10) (.cells #[.slice A3 m.length c3] 38); have hn4 : ¬ L.S g4 := fun hS => by have := H00.out.lt g4 hS; have := HG.out.1; omega
      have hn5 : ¬ L.S g5 := fun hS => by have := H00.out.lt g5 hS; have := HG.out.2; omega
      have hn10 : ¬ L.S w10.heap.size := fun hS => by have := H00.out.lt _ hS; have := HB9.out.size; have := HE3.out.2.2.2.size; omega
      have H11 := aK (HE3.out.2.2.1.below hb10); have T11 := aK (((Turn.of_below HB9.out L.S).trans HE3.out.2.2.2 (fun k hk => .inl hk)).below hb10); have F11 := aK (Kd.F_below HE3.out.2.1 hb10); have Z4_11 := aK (blk_below (blk_turn HZ4_9.out HE3.out.2.2.2 hn4) hb10); have Z5_11 := aK (blk_below (blk_turn HZ5_9.out HE3.out.2.2.2 hn5) hb10); have HC3 := aK HE3.out.1; generalize w10.alloc (.cells #[.slice A3 m.length c3] 38) = W11 at hz10 hb10 H11 T11 F11 Z4_11 Z5_11 ⊢; generalize w10.heap.size = g10 at hz10 hn10 ⊢; have Z10_11 := aK hz10; have HNS := aK (And.intro hn4 (And.intro hn5 hn10)); have HNXR := aK (show 0 ≤ pg + 1 ∧ pg + 1 ≤ D.P by have := HN.out; omega); have HWP : Aside0 (IntKind.i64.wrap (pg + 1) = pg + 1) := ⟨by have := HN.out; have := H00.out.ok.p2; rw [i64_w]; unfold wrap64; omega⟩; have B0 := aK (below_drew1 (Below.refl W11.heap.size W11)); clear hz10 hb10 hn4 hn5 hn10 HBG hm H9 HZ4_9 HZ5_9 HE3; refine start_ (n := 11) (S := fun w' => True) (ds := []) #[false, false, false, false, false, false, false, false, false, false, false] (by kernel_rfl) rfl rfl trivial (fun hHeld => ?_); refine with_tabW prog12.tab12 prog12.bits12 (fun HT_ HW_ => ?_); generalize W11.drew = wq at B0 hHeld ⊢; refine inv_at [0, 1, 2, 3, 4, 5, 6, 7, 8, 9, 10] (fun a0_ b a w' => a = putSel a0_ b [(0, 56, .pointer (some ⟨L.g, 0, none⟩)), (1, 57, .pointer (some ⟨L.g, 0, none⟩)), (2, 58, .pointer (some ⟨L.g, 5, none⟩)), (3, 59, .slice (some ⟨L.gn, 0, none⟩) D.next.length L.cn), (4, 60, .pointer (some ⟨g4, 0, none⟩)), (5, 61, .int .i64 (n : Int)), (6, 62, .pointer (some ⟨L.gn, n, none⟩)), (7, 63, .int .i64 pg), (8, 64, .int .i64 (pg + 1)), (9, 65, .pointer (some ⟨L.gn, n, none⟩))] ∧ (b 10 = false → Below W11.heap.size W11 w') ∧ (b 10 = true → DV w' ok L { D.bump with next := D.next.set n (pg + 1) } ∧ Turn W11 w' L.S)) HT_.out HW_.out (by kernel_rfl) (by kernel_rfl) ?_ ?_ ?_
      ·
       exact ⟨by simp only [putSel, Bool.false_eq_true, if_false], fun _ => B0.out, fun h_ => absurd h_ (by decide)⟩
      ·
       skip
       clear B0; refine steps_cons ?_ ?_; rintro b a w' ⟨ha, Q_B0, Q_FIN⟩ hb_ hon hoff; refine ⟨_, rfl, fun K hK => ?_⟩; have e0 := q_f ha 0 rfl rfl; replace ha := aK ha; have B0 := aK (Q_B0 (hoff 10 (by kernel_rfl))); refine q_v (.pointer (some ⟨L.g, 0, none⟩)) (by rfl) rfl ?_ ?_; (· (go_simp; (try simp only [i64_w]); try rfl)); refine hK.out _ _ ⟨q_u ha 0 hb_ rfl rfl rfl, Q_B0, fun h0_ => q_h hoff 10 h0_⟩; refine steps_cons ?_ ?_; rintro b a w' ⟨ha, Q_B0, Q_FIN⟩ hb_ hon hoff; refine ⟨_, rfl, fun K hK => ?_⟩; have e56 := q_n ha hon 56 0 0 rfl; replace ha := aK ha; have B0 := aK (Q_B0 (hoff 10 (by kernel_rfl))); refine q_v (.pointer (some ⟨L.g, 0, none⟩)) (by rfl) rfl ?_ ?_; (· (go_simp; (try simp only [i64_w]); try rfl)); refine hK.out _ _ ⟨q_u ha 1 hb_ rfl rfl rfl, Q_B0, fun h0_ => q_h hoff 10 h0_⟩; refine steps_cons ?_ ?_; rintro b a w' ⟨ha, Q_B0, Q_FIN⟩ hb_ hon hoff; refine ⟨_, rfl, fun K hK => ?_⟩; have e57 := q_n ha hon 57 1 1 rfl; replace ha := aK ha; have B0 := aK (Q_B0 (hoff 10 (by kernel_rfl))); refine q_v (.pointer (some ⟨L.g, 5, none⟩)) (by rfl) rfl ?_ ?_; (· (go_simp; (try simp only [i64_w]); try rfl)); refine hK.out _ _ ⟨q_u ha 2 hb_ rfl rfl rfl, Q_B0, fun h0_ => q_h hoff 10 h0_⟩; refine steps_cons ?_ ?_; rintro b a w' ⟨ha, Q_B0, Q_FIN⟩ hb_ hon hoff; refine ⟨_, rfl, fun K hK => ?_⟩; have e58 := q_n ha hon 58 2 2 rfl; replace ha := aK ha; have B0 := aK (Q_B0 (hoff 10 (by kernel_rfl))); have c_ := (top_cells (H11.out.below B0.out)).2.2.2.2.2.1; refine q_v (.slice (some ⟨L.gn, 0, none⟩) D.next.length L.cn) (by rfl) rfl ?_ ?_; (· (go_simp; (try simp only [i64_w]); try rfl)); refine hK.out _ _ ⟨q_u ha 3 hb_ rfl rfl rfl, Q_B0, fun h0_ => q_h hoff 10 h0_⟩; refine steps_cons ?_ ?_; rintro b a w' ⟨ha, Q_B0, Q_FIN⟩ hb_ hon hoff; refine ⟨_, rfl, fun K hK => ?_⟩; have e4 := q_f ha 4 rfl rfl; replace ha := aK ha; have B0 := aK (Q_B0 (hoff 10 (by kernel_rfl))); refine q_v (.pointer (some ⟨g4, 0, none⟩)) (by rfl) rfl ?_ ?_; (· (go_simp; (try simp only [i64_w]); try rfl)); refine hK.out _ _ ⟨q_u ha 4 hb_ rfl rfl rfl, Q_B0, fun h0_ => q_h hoff 10 h0_⟩; refine steps_cons ?_ ?_; rintro b a w' ⟨ha, Q_B0, Q_FIN⟩ hb_ hon hoff; refine ⟨_, rfl, fun K hK => ?_⟩; have e60 := q_n ha hon 60 4 4 rfl; replace ha := aK ha; have B0 := aK (Q_B0 (hoff 10 (by kernel_rfl))); have c_ := blk_cell (blk_below Z4_11.out B0.out) 0; refine q_v (.int .i64 (n : Int)) (by rfl) rfl ?_ ?_; (· (go_simp; (try simp only [i64_w]); try rfl)); refine hK.out _ _ ⟨q_u ha 5 hb_ rfl rfl rfl, Q_B0, fun h0_ => q_h hoff 10 h0_⟩; refine steps_cons ?_ ?_; rintro b a w' ⟨ha, Q_B0, Q_FIN⟩ hb_ hon hoff; refine ⟨_, rfl, fun K hK => ?_⟩; have e59 := q_n ha hon 59 3 3 rfl; have e61 := q_n ha hon 61 5 5 rfl; replace ha := aK ha; have B0 := aK (Q_B0 (hoff 10 (by kernel_rfl))); have p_ := HQ2.out.1; have q_ := HQ2.out.2; refine q_v (.pointer (some ⟨L.gn, n, none⟩)) (by rfl) rfl ?_ ?_; (· (go_simp; (try simp only [i64_w]); try rfl)); refine hK.out _ _ ⟨q_u ha 6 hb_ rfl rfl rfl, Q_B0, fun h0_ => q_h hoff 10 h0_⟩; refine steps_cons ?_ ?_; rintro b a w' ⟨ha, Q_B0, Q_FIN⟩ hb_ hon hoff; refine ⟨_, rfl, fun K hK => ?_⟩; have e62 := q_n ha hon 62 6 6 rfl; replace ha := aK ha; have B0 := aK (Q_B0 (hoff 10 (by kernel_rfl))); have c_ := (H11.out.below B0.out).nx.cell HNC.out; refine q_v (.int .i64 pg) (by rfl) rfl ?_ ?_; (· (go_simp; (try simp only [i64_w]); try rfl)); refine hK.out _ _ ⟨q_u ha 7 hb_ rfl rfl rfl, Q_B0, fun h0_ => q_h hoff 10 h0_⟩; refine steps_cons ?_ ?_; rintro b a w' ⟨ha, Q_B0, Q_FIN⟩ hb_ hon hoff; refine ⟨_, rfl, fun K hK => ?_⟩; have e63 := q_n ha hon 63 7 7 rfl; replace ha := aK ha; have B0 := aK (Q_B0 (hoff 10 (by kernel_rfl))); have q_ := HWP.out; refine q_v (.int .i64 (pg + 1)) (by rfl) rfl ?_ ?_; (· (go_simp; (try simp only [i64_w]); try rfl)); refine hK.out _ _ ⟨q_u ha 8 hb_ rfl rfl rfl, Q_B0, fun h0_ => q_h hoff 10 h0_⟩; refine steps_cons ?_ ?_
       rintro b a w' ⟨ha, Q_B0, Q_FIN⟩ hb_ hon hoff; refine ⟨_, rfl, fun K hK => ?_⟩; have e59 := q_n ha hon 59 3 3 rfl; have e61 := q_n ha hon 61 5 5 rfl; replace ha := aK ha; have B0 := aK (Q_B0 (hoff 10 (by kernel_rfl))); have p_ := HQ2.out.1; have q_ := HQ2.out.2; refine q_v (.pointer (some ⟨L.gn, n, none⟩)) (by rfl) rfl ?_ ?_; (· (go_simp; (try simp only [i64_w]); try rfl)); refine hK.out _ _ ⟨q_u ha 9 hb_ rfl rfl rfl, Q_B0, fun h0_ => q_h hoff 10 h0_⟩; refine steps_cons ?_ ?_; rintro b a w' ⟨ha, Q_B0, Q_FIN⟩ hb_ hon hoff; refine ⟨_, rfl, fun K hK => ?_⟩; have e65 := q_n ha hon 65 9 9 rfl; have e64 := q_n ha hon 64 8 8 rfl; replace ha := aK ha; have B0 := aK (Q_B0 hb_); have c_ := (H11.out.below B0.out).nx.cell HNC.out; have fr_ := (H11.out.below B0.out).nx.frozen n; refine skip_ (w1 := ?_) (by rfl) rfl ?_ ?_; rotate_left
       ·
        go_simp
        rfl
       refine hK.out _ _ ⟨(by rw [ha.out]; exact putSel_none (v := undef) rfl), fun h0_ => q_x h0_ (up_self b 10), fun _ => ⟨(H11.out.below B0.out).set_next n (pg + 1) HNXR.out, (Turn.of_below B0.out L.S).setCell (p := ⟨L.gn, n, none⟩) (.inl (.inr (.inr (.inl rfl)))) _⟩⟩; exact steps_nil
      rintro b a w12 hall ⟨ha, Q_B0, Q_FIN⟩; clear B0; subst ha; rw [q_a hall]; rotate_left
      ·
       kernel_rfl
      simp only [List.foldl_cons, List.foldl_nil, Act.put, List.setIfInBounds_toArray, List.set_cons_zero, List.set_cons_succ]; clear Q_B0; have FIN := aK (Q_FIN (hall 10 (by kernel_rfl))); clear Q_FIN; clear hall; have T12 := aK (T11.out.trans FIN.out.2 (fun k hk => .inl hk)); have Z5_12 := aK (blk_turn Z5_11.out FIN.out.2 HNS.out.2.1); have Z10_12 := aK (blk_turn Z10_11.out FIN.out.2 HNS.out.2.2); have hnn := newer_no (W9 := w9) H00.out HB9.out.size; have F12 := aK (F_turn F11.out FIN.out.2 (fun k hk _ => hnn k hk)); have GL12 := aK (Kd.F_now (F_turn HLL.out.2.2.1 T12.out HLL.out.2.2.2)); have hpo := page_ok H00.out.ok HI.out.2; have hmo := fault_mask H00.out.ok; rw [← HM.out] at hmo; have H12 := aK FIN.out.1; have HCH := aK (change_calls FIN.out.1 i HI.out.2 70 _ #[.pointer (some ⟨g5, 0, none⟩), .pointer (some ⟨g10, 0, none⟩)] Try.func70 (by kernel_rfl) rfl (progRow (D.pages.getD i []) l m) (progRow_ok hpo.1 hpo.2)
       (fun W' hW A' c' hc' hC' => prog1_calls (blk_below Z5_12.out hW) (blk_below Z10_12.out hW) ⟨HLL.out.2.1, HLL.out.1⟩ ⟨hmo.1, HC3.out⟩ hpo hc' (Kd.C_below GL12.out hW) (Kd.C_below (Kd.F_now F12.out) hW) hC' ok))
      clear FIN H11 T11 F11 Z4_11 Z5_11 Z10_11 hnn hpo hmo; go_upto_region 14 with (go_at_call 65; refine HCH.out.mono ?_; rintro e w13 ⟨rfl, hD13, hT13⟩; have H13 := aK hD13; have T13 := aK (T12.out.trans hT13 (fun k hk => .inl hk)); clear hD13 hT13); have HEN := aK (end_calls H13.out HD0.out D.fault.1 (fault_kind D)); go_wp2_with (go_at_call 68; refine HEN.out.mono ?_; rintro e w14 ⟨rfl, hD14, hT14⟩; have H14 := aK hD14; have T14 := aK (T13.out.trans hT14 (fun k hk => .inl hk)); clear hD14 hT14); go_ret; rw [HR1.out]; have hE : D.progD (n : Int) pg l = { D.bump with next := D.next.set n (pg + 1), pages := D.pages.set i (progRow (D.pages.getD i []) l m), down := D.fault.1 == 2 } := by unfold Dv.progD; rw [← HI.out.1, ← HM.out]; rfl
      refine ⟨rfl, ?_, T14.out⟩
      show DV w14 (newer W ok) L (D.progD (n : Int) pg l)
      rw [hE]; exact H14.out.newer2 H00.out (newer_le T12.out.size)
end Go.Proofs.Ytnchdmidaigheaa.ND
namespace Go.Proofs.Ytnchdmidaigheaa.ND
set_option linter.unusedVariables false
set_option linter.unusedSimpArgs false
open Go.RowKit Go.Proofs.Ytnchdmidaigheaa.Hp Go.Proofs.YtnchdmidaigheaaW.PrintWords Go.Proofs.YtnchdmidaigheaaW.PrintLast Go.Proofs.YtnchdmidaigheaaW.PrintMore
def read4.T4 : Bool × List (List Nat × List Nat) := (true, [([], []), ([0], [0]), ([1], [1]), ([2], [2]), ([], []), ([3, 4], [3, 4]), ([5, 5, 0, 1, 2, 3, 4, 5], [5])])
def read4.B4 : List Nat := [0, 1, 3, 7, 0, 31, 63]
theorem read4.tab4 : rtab .any (opsOf Try.f21 4) = read4.T4 := by kernel_rfl
theorem read4.bits4 : waitsOk read4.T4.2 read4.B4 = true := by kernel_rfl
def ReadsTo (W w' : World) (e : Ending) (r : List Int × Int) : Prop := ∃ A c, e = .returned (.tuple #[.slice A r.1.length c, .int .i64 r.2]) ∧ r.1.length ≤ c ∧ Kd.F (Kd.int .u8) w' (fun k => W.heap.size ≤ k) A r.1.length r.1 ∧ Below W.heap.size W w'
set_option maxHeartbeats 2000000 in
set_option maxRecDepth 100000 in
theorem read_calls {W : World} {ok : Nat → Prop} {L : Lay} {D : Dv} (h : DV W ok L D) (bk pg : Int) :
  Calls Try.prog 21 #[.pointer (some ⟨L.g, 0, none⟩), .agg #[.int .i64 bk, .int .i64 pg]] W fun e w' => ReadsTo W w' e (D.read bk pg) := by
 have H00 := aK h; obtain ⟨r, hr⟩ : ∃ r, r = D.read bk pg := ⟨_, rfl⟩; rw [← hr]; have HRR := aK hr; have hz4 := heap_alloc_new W (.cells #[.int .i64 bk, .int .i64 pg] 37); have hb4 := below_alloc (Below.refl W.heap.size W) (.cells #[.int .i64 bk, .int .i64 pg] 37); obtain ⟨g4, hg4⟩ : ∃ g, g = W.heap.size := ⟨_, rfl⟩; clear hr h; go_enter Try.func21, Try.ntmps21; go_upto_region 1 with fail; generalize (W.alloc (.cells #[.int .i64 bk, .int .i64 pg] 37)) = W2 at hz4 hb4 ⊢; rw [← hg4] at hz4 ⊢; have HG := aK hg4; have HB2 := aK hb4; have HZ4 := aK hz4; have H2 := aK (H00.out.below hb4); clear hg4 hz4 hb4
 cases hd : D.down with
 | true =>
  have HU := aK (up_calls H2.out); rw [hd, if_pos rfl] at HU; have HR1 : Aside0 (r = ([], 9)) := ⟨by rw [HRR.out]; unfold Dv.read; rw [if_pos hd]⟩; clear hd; go_wp2_with (go_at_call 63; refine HU.out.mono ?_; rintro e w3 ⟨rfl, hb⟩; have HB3 := aK (below_then HB2.out HB2.out.size hb); clear hb); go_ret2; rw [HR1.out]; exact ⟨none, 0, rfl, Nat.le_refl _, Kd.F_nil _ _ _, HB3.out⟩
 | false =>
  have HU := aK (up_calls H2.out); rw [hd, if_neg (by decide)] at HU; go_upto_region 4 with (go_at_call 63; refine HU.out.mono ?_; rintro e w3 ⟨rfl, hb⟩; have HB3 := aK (below_then HB2.out HB2.out.size hb); have HB23 := aK hb; clear hb); have H3 := aK (H2.out.below HB23.out); have HZ4_3 := aK (blk_below HZ4.out HB23.out); have B0 := aK (below_drew1 (Below.refl w3.heap.size w3)); obtain ⟨pl, hpl⟩ : ∃ pl : Int, pl = if D.here bk pg = true then (D.idx bk pg : Int) else -1 := ⟨_, rfl⟩; have HPL := aK (fun w => geom_Place.calls D.B D.P D.C bk pg pl w (by rw [hpl]; exact place_f H00.out.ok bk pg)); clear HU HZ4 H2 HB23; refine start_ (n := 7) (S := fun w' => True) (ds := []) #[false, false, false, false, false, false, false] (by kernel_rfl) rfl rfl trivial (fun hHeld => ?_); refine with_tabW read4.tab4 read4.bits4 (fun HT_ HW_ => ?_); generalize w3.drew = wq at B0 hHeld ⊢; refine inv_at [0, 1, 2, 3, 4, 5, 6] (fun a0_ b a w' => a = putSel a0_ b [(0, 14, .pointer (some ⟨L.g, 0, none⟩)), (1, 15, .pointer (some ⟨L.g, 0, none⟩)), (2, 16, .pointer (some ⟨L.g, 0, none⟩)), (3, 17, .agg #[.int .i64 D.B, .int .i64 D.P, .int .i64 D.C]), (4, 18, .agg #[.int .i64 bk, .int .i64 pg]), (5, 19, .int .i64 pl), (6, 7, .int .i64 pl)] ∧ (Below w3.heap.size w3 w')) HT_.out HW_.out (by kernel_rfl) (by kernel_rfl) ?_ ?_ ?_
  ·
   exact ⟨by simp only [putSel, Bool.false_eq_true, if_false], B0.out⟩
  ·
   skip
   clear B0; refine steps_cons ?_ ?_; rintro b a w' ⟨ha, Q_B0⟩ hb_ hon hoff; refine ⟨_, rfl, fun K hK => ?_⟩; have e0 := q_f ha 0 rfl rfl; replace ha := aK ha; have B0 := aK Q_B0; refine q_v (.pointer (some ⟨L.g, 0, none⟩)) (by rfl) rfl ?_ ?_; (· (go_simp; (try simp only [i64_w]); try rfl)); refine hK.out _ _ ⟨q_u ha 0 hb_ rfl rfl rfl, Q_B0⟩; refine steps_cons ?_ ?_; rintro b a w' ⟨ha, Q_B0⟩ hb_ hon hoff; refine ⟨_, rfl, fun K hK => ?_⟩; have e14 := q_n ha hon 14 0 0 rfl; replace ha := aK ha; have B0 := aK Q_B0; refine q_v (.pointer (some ⟨L.g, 0, none⟩)) (by rfl) rfl ?_ ?_; (· (go_simp; (try simp only [i64_w]); try rfl)); refine hK.out _ _ ⟨q_u ha 1 hb_ rfl rfl rfl, Q_B0⟩; refine steps_cons ?_ ?_; rintro b a w' ⟨ha, Q_B0⟩ hb_ hon hoff; refine ⟨_, rfl, fun K hK => ?_⟩; have e15 := q_n ha hon 15 1 1 rfl; replace ha := aK ha; have B0 := aK Q_B0; refine q_v (.pointer (some ⟨L.g, 0, none⟩)) (by rfl) rfl ?_ ?_; (· (go_simp; (try simp only [i64_w]); try rfl)); refine hK.out _ _ ⟨q_u ha 2 hb_ rfl rfl rfl, Q_B0⟩; refine steps_cons ?_ ?_; rintro b a w' ⟨ha, Q_B0⟩ hb_ hon hoff; refine ⟨_, rfl, fun K hK => ?_⟩; have e16 := q_n ha hon 16 2 2 rfl; replace ha := aK ha; have B0 := aK Q_B0; have hh_ := top_cells (H3.out.below B0.out); have c0_ := hh_.1; have c1_ := hh_.2.1; have c2_ := hh_.2.2.1; clear hh_; refine q_v (.agg #[.int .i64 D.B, .int .i64 D.P, .int .i64 D.C]) (by rfl) rfl ?_ ?_; (· (go_simp; (try simp only [i64_w]); try rfl)); refine hK.out _ _ ⟨q_u ha 3 hb_ rfl rfl rfl, Q_B0⟩; refine steps_cons ?_ ?_; rintro b a w' ⟨ha, Q_B0⟩ hb_ hon hoff; refine ⟨_, rfl, fun K hK => ?_⟩; have e3 := q_f ha 3 rfl rfl; replace ha := aK ha; have B0 := aK Q_B0; have c0_ := blk_cell (blk_below HZ4_3.out B0.out) 0; have c1_ := blk_cell (blk_below HZ4_3.out B0.out) 1; refine q_v (.agg #[.int .i64 bk, .int .i64 pg]) (by rfl) rfl ?_ ?_; (· (go_simp; (try simp only [i64_w]); try rfl)); refine hK.out _ _ ⟨q_u ha 4 hb_ rfl rfl rfl, Q_B0⟩; refine steps_cons ?_ ?_; rintro b a w' ⟨ha, Q_B0⟩ hb_ hon hoff; refine ⟨_, rfl, fun K hK => ?_⟩; have e17 := q_n ha hon 17 3 3 rfl; have e18 := q_n ha hon 18 4 4 rfl; replace ha := aK ha; have B0 := aK Q_B0; refine goes_ Try.func69 (by kernel_rfl) rfl #[.agg #[.int .i64 D.B, .int .i64 D.P, .int .i64 D.C], .agg #[.int .i64 bk, .int .i64 pg]] (by rfl) rfl rfl (by (simp only [List.map_toArray, List.map_cons, List.map_nil, Act.eval, Array.getD_eq_getD_getElem?, Option.getD_some, e17, e18]) <;> rfl) ?_; (with_reducible refine (HPL.out _).mono ?_); rintro e w2 ⟨rfl, hb⟩; refine ⟨_, rfl, ?_⟩; refine hK.out _ _ ⟨q_u ha 5 hb_ rfl rfl rfl, below_then B0.out B0.out.size hb⟩; refine steps_cons ?_ ?_; rintro b a w' ⟨ha, Q_B0⟩ hb_ hon hoff; refine ⟨_, rfl, fun K hK => ?_⟩; have e19 := q_n ha hon 19 5 5 rfl; replace ha := aK ha; have B0 := aK Q_B0; refine q_v (.int .i64 pl) (by rfl) rfl ?_ ?_; (· (go_simp; (try simp only [i64_w]); try rfl)); refine hK.out _ _ ⟨q_u ha 6 hb_ rfl rfl rfl, Q_B0⟩; exact steps_nil
  rintro b a w4 hall ⟨ha, Q_B0⟩; clear B0; subst ha; rw [q_a hall]; rotate_left
  ·
   kernel_rfl
  simp only [List.foldl_cons, List.foldl_nil, Act.put, List.setIfInBounds_toArray, List.set_cons_zero, List.set_cons_succ]; have B0 := aK Q_B0; clear Q_B0; clear hall; have HB4 := aK (below_then HB3.out HB3.out.size B0.out); have H4 := aK (H3.out.below B0.out); clear HPL H3 HZ4_3 B0 HB2 HB3
  cases hh : D.here bk pg with
  | false =>
   rw [hh, if_neg (by decide)] at hpl; subst hpl; have HR1 : Aside0 (r = ([], 3)) := ⟨by rw [HRR.out]; unfold Dv.read; rw [if_neg (by rw [hd]; decide), if_pos hh]⟩; clear hh hd; go_wp2_with fail; go_ret2; rw [HR1.out]; exact ⟨none, 0, rfl, Nat.le_refl _, Kd.F_nil _ _ _, HB4.out⟩
  | true =>
   rw [hh, if_pos rfl] at hpl; have hix := H00.out.ok.idx hh; obtain ⟨i, hi⟩ : ∃ i, i = D.idx bk pg := ⟨_, rfl⟩; rw [← hi] at hpl hix; subst hpl; have HI := aK (And.intro hi hix.2); have tpl : decide ((i : Int) < 0) = false := decide_eq_false (by omega); have HR1 : Aside0 (r = (D.pages.getD i [], 0)) := ⟨by rw [HRR.out]; unfold Dv.read; rw [if_neg (by rw [hd]; decide), if_neg (by rw [hh]; decide), hi]⟩; have hpo := page_ok H00.out.ok hix.2; have HPO := aK hpo; obtain ⟨vs, hcv, hpg⟩ := H4.out.pg; have hil : i < vs.length := by rw [hpg.1]; exact hix.2
   obtain ⟨Ai, ci, hv, hci, hFi⟩ := hpg.2 i vs[i] (D.pages.getD i []) (List.getElem?_eq_getElem hil) (by rw [List.getD_eq_getElem?_getD, List.getElem?_eq_getElem hix.2]; rfl); have HV : Aside0 (vs[i]? = some (.slice Ai 256 ci)) := ⟨by rw [List.getElem?_eq_getElem hil, hv]⟩; have HC := aK hcv; have HFI := aK (And.intro hci hFi); have HP := aK (And.intro (eq_true (show (0 : Int) ≤ (i : Int) by omega)) (eq_true (show (i : Int) < ((D.pages.length : Nat) : Int) by have := hix.2; omega))); clear hi hix hd hh hpo hcv hpg hil hv hci hFi; go_upto_region 8 with (at_make; refine Kd.R_make (Kd.int .u8) (w0 := w4) w4.heap.size 5 rfl rfl 38 _ _ rfl 256 rfl rfl Try.underlying38 (.int .u8 0) 1 (by kernel_rfl) rfl (by decide) (by decide) 0 (ok := fun k => w4.heap.size ≤ k) (okp := fun _ => False) rfl (fun k hk => hk.elim) (Nat.le_refl _) (by decide) (by decide) (Below.refl _ _) (Nat.le_refl _) ?_; intro v1 w7 hR7 hb7 hg7 hat7; have HR7 := aK (And.intro hR7 hb7); clear hR7 hb7 hg7 hat7); have H7 := aK (H4.out.below HR7.out.2); have c4 := (top_cells H7.out).2.2.2.2.1; have cv := (HC.out.below HR7.out.2).cell HV.out; have p1 := HP.out.1; have q1 := HP.out.2; go_upto_region 9 with ((with_reducible show Go.wpList _ _ _ ({ dst := _, op := .call { callee := .builtin .copy, args := _, argTypes := _ }, type := _, pos := _, after := _, guard := _ } :: _) _ _); refine Kd.R_copy (0 : Int) (w0 := w4) w4.heap.size rfl _ _ 38 38 5 rfl Try.underlying38 (by kernel_rfl) v1 (List.replicate 256 0) (D.pages.getD i []) Ai 256 ci (fun k => w4.heap.size ≤ k) rfl rfl HR7.out.1 (Kd.C_below (Kd.F_now HFI.out.2) HR7.out.2) HR7.out.2 HR7.out.2.size ?_; intro w8 hR8 hb8 hg8; have HR8 := aK (And.intro hR8 hb8); clear hR8 hb8 hg8 p1 q1 c4 cv); go_wp2_with fail; go_ret2; have hl := HPO.out.2; have hR := HR8.out.1; rw [List.length_replicate, show min 256 256 = 256 from rfl, List.take_of_length_le (by omega), List.drop_of_length_le (by simp), List.append_nil] at hR; obtain ⟨A, c, rfl, hc, _⟩ := Kd.R_reads hR; rw [HR1.out]; exact ⟨A, c, rfl, hc, Kd.F_mono (Kd.R_F hR) (fun k hk => Nat.le_trans HB4.out.size hk), below_then HB4.out HB4.out.size HR8.out.2⟩
end Go.Proofs.Ytnchdmidaigheaa.ND
namespace Go.Proofs.Ytnchdmidaigheaa.ND
set_option linter.unusedVariables false
set_option linter.unusedSimpArgs false
open Go.RowKit Go.Proofs.Ytnchdmidaigheaa.Hp Go.Proofs.YtnchdmidaigheaaW.PrintWords Go.Proofs.YtnchdmidaigheaaW.PrintLast Go.Proofs.YtnchdmidaigheaaW.PrintMore
theorem results_c {P : Program} {fn : Func} {p : Tmp} {ty : TypeId} (h : fn.results = #[.cell p ty]) (tmps : Array Value) (w : World) (g : Nat) (t : TypeId) (cs : Array Value) (fr : Nat × Nat) (d : TypeDesc)
  (hp : tmps.getD p undef = .pointer (some ⟨g, 0, none⟩)) (hg : w.heap[g]? = some (.cells cs t fr))
  (hu : P.underlying ty = some d) (hd : (match d with | .struct _ | .array _ _ => true | _ => false) = true) (hi : (P.info? ty).map (·.size) = some cs.size) :
  (results fn tmps).run P w = .ok (.agg cs) w := by
 have hp' : tmps[p]?.getD undef = .pointer (some ⟨g, 0, none⟩) := by simpa using hp
 simp [results, h, hp', asAddr, run_loadVar_row w g t ty cs fr d hg hu hd hi]
set_option maxHeartbeats 1000000 in
set_option maxRecDepth 100000 in
theorem sides_calls {W : World} {ok : Nat → Prop} {L : Lay} {D : Dv} (h : DV W ok L D) :
  Calls Try.prog 23 #[.pointer (some ⟨L.g, 0, none⟩)] W fun e w' => e = .returned (.agg #[.int .i64 D.B, .int .i64 D.P, .int .i64 D.C]) ∧ Below W.heap.size W w' := by
 have hz1 := heap_alloc_new W (.cells #[.int .i64 0, .int .i64 0, .int .i64 0] 23); have hb1 := below_alloc (Below.refl W.heap.size W) (.cells #[.int .i64 0, .int .i64 0, .int .i64 0] 23); have H1 := aK (h.below hb1); obtain ⟨g, hg⟩ : ∃ g, g = W.heap.size := ⟨_, rfl⟩; clear h; go_enter Try.func23, Try.ntmps23; go_upto_region 1 with fail; generalize W.alloc (.cells #[.int .i64 0, .int .i64 0, .int .i64 0] 23) = W2 at hz1 hb1 H1 ⊢; rw [← hg] at hz1 ⊢; have h1 := blk_put hz1 0 (.int .i64 D.B) (cs' := #[.int .i64 D.B, .int .i64 0, .int .i64 0]) rfl; have h2 := blk_put h1 1 (.int .i64 D.P) (cs' := #[.int .i64 D.B, .int .i64 D.P, .int .i64 0]) rfl; have h3 := blk_put h2 2 (.int .i64 D.C) (cs' := #[.int .i64 D.B, .int .i64 D.P, .int .i64 D.C]) rfl; have HST := aK h3; have HB := aK (((hb1.setCell (p := ⟨g, 0, none⟩) (Nat.le_of_eq hg.symm) (.int .i64 D.B)).setCell (p := ⟨g, 1, none⟩) (Nat.le_of_eq hg.symm) (.int .i64 D.P)).setCell (p := ⟨g, 2, none⟩) (Nat.le_of_eq hg.symm) (.int .i64 D.C)); have hh := top_cells H1.out; have c0 := hh.1; have c1 := hh.2.1; have c2 := hh.2.2.1; have d0 := blk_cell hz1 0; have d1 := blk_cell hz1 1; have d2 := blk_cell hz1 2; have f0 := blk_frozen hz1 0; have f1 := blk_frozen hz1 1; have f2 := blk_frozen hz1 2; clear hh h1 h2 h3 hb1 hz1 hg; go_wp2_with fail; (try simp only [Exit.inBlock, Exit.then]); refine bodyPost_ret (results_c rfl _ _ g 23 _ (0, 0) _ rfl HST.out Try.underlying23 rfl (by kernel_rfl)) rfl ?_; exact ⟨rfl, HB.out⟩
theorem app_any {W : World} (base ty T e : TypeId) (hT : Try.prog.underlying T = some (.slice e)) {z : Value} {sz bytes : Nat} (hinf : (Try.prog.info? e).map (fun i => (i.zero, i.size, i.bytes)) = some (some z, sz, bytes)) (hz : z.cells.size = sz) (hs : 0 < sz) (hb0 : 0 < bytes) (hb1 : bytes ≤ 1000)
  (v : Value) (n : Nat) (xs : List Value) (ho : W.ownsRow base e sz v n xs) (ad : Addr) (m c : Nat) (ys : List Value) (hl : ys.length = m * sz) (hc : ∀ (j : Nat) (u : Value), ys[j]? = some u → W.cell? (ad.add j) = some u) (h1 : ∀ u ∈ ys, u.oneCell' = true) (hn : n + m ≤ 100000) (hb : base ≤ W.heap.size) :
  ∃ v' w', (Builtin.append_ #[T, T] ty #[v, .slice (some ad) m c]).run Try.prog W = .ok v' w' ∧ w'.ownsRow base e sz v' (n + m) (xs ++ ys) ∧ W.grownBy w' v.ownBlock ∧ (v'.ownBlock = v.ownBlock ∨ v'.ownBlock = some W.heap.size) := by
 obtain ⟨i0, hi, hzz⟩ := Option.map_eq_some_iff.1 hinf; simp only [Prod.mk.injEq] at hzz; have hmul : (n + m) * bytes ≤ 100000 * 1000 := Nat.mul_le_mul hn hb1; obtain ⟨v', w', h1, h2, h3, _, h5⟩ := run_append_own_at (P := Try.prog) W base T ty e i0 _ sz bytes hT hi hzz.1 hzz.2.1 hzz.2.2 hz hs v n xs ho ad m c ys hl hc h1 (by unfold maxLen; omega) (by omega) hb; exact ⟨v', w', h1, h2, h3, h5⟩
end Go.Proofs.Ytnchdmidaigheaa.ND
namespace Go.Proofs.Ytnchdmidaigheaa.ND
set_option linter.unusedVariables false
set_option linter.unusedSimpArgs false
open Go.RowKit Go.Proofs.Ytnchdmidaigheaa.Hp Go.Proofs.YtnchdmidaigheaaW.PrintWords Go.Proofs.YtnchdmidaigheaaW.PrintLast Go.Proofs.YtnchdmidaigheaaW.PrintMore
def wipedTo (l : List (List Int)) (i0 : Nat) (m : List Int) (k : Nat) : List (List Int) := l.mapIdx fun i x => if i0 ≤ i ∧ i < i0 + k then wipeRow x m else x
theorem wipedTo_zero (l : List (List Int)) (i0 : Nat) (m : List Int) : wipedTo l i0 m 0 = l := by
 unfold wipedTo; apply List.ext_getElem?; intro j; rw [List.getElem?_mapIdx]
 cases l[j]? with
 | none => rfl
 | some x => show some (ite _ _ _) = some x; rw [if_neg (by omega)]
theorem wipedTo_len (l : List (List Int)) (i0 : Nat) (m : List Int) (k : Nat) : (wipedTo l i0 m k).length = l.length := List.length_mapIdx
theorem wipedTo_at (l : List (List Int)) (i0 : Nat) (m : List Int) (k : Nat) : (wipedTo l i0 m k).getD (i0 + k) [] = l.getD (i0 + k) [] := by
 unfold wipedTo; rw [List.getD_eq_getElem?_getD, List.getElem?_mapIdx, List.getD_eq_getElem?_getD]
 cases l[i0 + k]? with
 | none => rfl
 | some x => show ite _ _ _ = x; rw [if_neg (by omega)]
theorem wipedTo_succ (l : List (List Int)) (i0 : Nat) (m : List Int) (k : Nat) (h : i0 + k < l.length) : (wipedTo l i0 m k).set (i0 + k) (wipeRow (l.getD (i0 + k) []) m) = wipedTo l i0 m (k + 1) := by
 apply List.ext_getElem?; intro j; rw [List.getElem?_set, wipedTo_len]; unfold wipedTo; rw [List.getElem?_mapIdx, List.getElem?_mapIdx]; by_cases hj : i0 + k = j
 ·
  rw [if_pos hj, if_pos h, List.getD_eq_getElem?_getD, hj]; rw [hj] at h; rw [List.getElem?_eq_getElem h]
  show some _ = some (ite _ _ _)
  rw [if_pos (by omega)]; rfl
 ·
  rw [if_neg hj]
  cases l[j]? with
  | none => rfl
  | some x =>
   show some (ite _ _ _) = some (ite _ _ _)
   by_cases h1 : i0 ≤ j ∧ j < i0 + k
   ·
    rw [if_pos h1, if_pos (by omega)]
   ·
    rw [if_neg h1, if_neg (by omega)]
theorem wipedTo_all {D : Dv} (n i0 k : Nat) (m : List Int) (h0 : (i0 : Int) = (n : Int) * D.P) (hk : (k : Int) = D.P) : wipedTo D.pages i0 m k = wiped D (n : Int) m := by
 unfold wipedTo wiped; apply List.ext_getElem?; intro j; rw [List.getElem?_mapIdx, List.getElem?_mapIdx]; have e : ((n : Int) + 1) * D.P = (i0 : Int) + (k : Int) := by rw [Int.add_mul, Int.one_mul, ← h0, hk]
 cases D.pages[j]? with
 | none => rfl
 | some x =>
  show some (ite _ _ _) = some (ite _ _ _)
  rw [e, ← h0]; by_cases h1 : i0 ≤ j ∧ j < i0 + k
  ·
   rw [if_pos h1, if_pos (by omega)]
  ·
   rw [if_neg h1, if_neg (by omega)]
def erase12.T12 : Bool × List (List Nat × List Nat) := (true, [([], []), ([0], [0]), ([1], [1]), ([2], [2]), ([], []), ([], []), ([5], [5]), ([6], [6]), ([7], [7]), ([8], [8]), ([3, 4, 0, 1, 2, 3, 4, 5, 6, 7, 8, 9], [3, 4]), ([10, 9, 0, 1, 2, 3, 4, 5, 6, 7, 8, 9], [9, 10])])
def erase12.B12 : List Nat := [0, 1, 3, 7, 0, 0, 32, 96, 224, 480, 1023, 2047]
theorem erase12.tab12 : rtab .any (opsOf Try.f16 12) = erase12.T12 := by kernel_rfl
theorem erase12.bits12 : waitsOk erase12.T12.2 erase12.B12 = true := by kernel_rfl
set_option maxHeartbeats 2000000 in
set_option maxRecDepth 100000 in
theorem erase_calls {W : World} {ok : Nat → Prop} {L : Lay} {D : Dv} (h : DV W ok L D) (bk : Int) :
  Calls Try.prog 16 #[.pointer (some ⟨L.g, 0, none⟩), .int .i64 bk] W fun e w' => e = .returned (.int .i64 (D.erase bk).1) ∧ DV w' (newer W ok) L (D.erase bk).2 ∧ Turn W w' L.S := by
 have H00 := aK h; obtain ⟨r, hr⟩ : ∃ r, r = D.erase bk := ⟨_, rfl⟩; rw [← hr]; have HRR := aK hr; have HU := aK (up_calls h); clear hr h
 cases hd : D.down with
 | true =>
  rw [hd, if_pos rfl] at HU; have HR1 : Aside0 (r = (9, D)) := ⟨by rw [HRR.out]; unfold Dv.erase; rw [if_pos hd]⟩; clear hd; go_enter Try.func16, Try.ntmps16; go_wp2_with (go_at_call 63; refine HU.out.mono ?_; rintro e w3 ⟨rfl, hb⟩; have HB3 := aK hb; clear hb); go_ret; rw [HR1.out]; exact ⟨rfl, (H00.out.below HB3.out).newer_ H00.out.lt, Turn.of_below HB3.out _⟩
 | false =>
  rw [hd, if_neg (by decide)] at HU; have HD0 := aK hd; clear hd; go_enter Try.func16, Try.ntmps16; go_upto_region 4 with (go_at_call 63; refine HU.out.mono ?_; rintro e w3 ⟨rfl, hb⟩; have HB3 := aK hb; clear hb); have HT := aK (there_calls (H00.out.below HB3.out) bk)
  cases hh : D.there bk with
  | false =>
   rw [hh] at HT; have HR1 : Aside0 (r = (3, D)) := ⟨by rw [HRR.out]; unfold Dv.erase; rw [if_neg (by rw [HD0.out]; decide), if_pos hh]⟩; clear hh; go_wp2_with (go_at_call 62; refine HT.out.mono ?_; rintro e w5 ⟨rfl, hb⟩; have HB5 := aK (below_then HB3.out HB3.out.size hb); clear hb); go_ret; rw [HR1.out]; exact ⟨rfl, (H00.out.below HB5.out).newer_ H00.out.lt, Turn.of_below HB5.out _⟩
  | true =>
   rw [hh] at HT; obtain ⟨h1, h2⟩ := there_iff.1 hh; obtain ⟨n, rfl⟩ := Int.eq_ofNat_of_zero_le h1; have HHH := aK hh; have HN := aK h2; obtain ⟨bm, hbm⟩ : ∃ x, x = D.mark (n : Int) := ⟨_, rfl⟩; have HBM := aK hbm; clear hh h1 h2 hbm; go_upto_region 6 with (go_at_call 62; refine HT.out.mono ?_; rintro e w5 ⟨rfl, hb⟩; have HB5 := aK (below_then HB3.out HB3.out.size hb); clear hb); have H5 := aK (H00.out.below HB5.out); have c3 := (top_cells H5.out).2.2.2.1; have ce := H5.out.mb.cell (marks_at HN.out); rw [← HBM.out] at ce; have p1 := eq_true (show (0 : Int) ≤ (n : Int) by omega); have q1 := eq_true (show (n : Int) < (((marks D).length : Nat) : Int) by rw [marks_len]; have := HN.out; omega); clear HT
   cases bm with
   | true =>
    have HR1 : Aside0 (r = (12, D)) := ⟨by rw [HRR.out]; unfold Dv.erase; rw [if_neg (by rw [HD0.out]; decide), if_neg (by rw [HHH.out]; decide), if_pos HBM.out.symm]⟩; go_wp2_with fail; go_ret; rw [HR1.out]; exact ⟨rfl, (H00.out.below HB5.out).newer_ H00.out.lt, Turn.of_below HB5.out _⟩
   | false =>
    have HR1 : Aside0 (r = (ended D.fault.1, D.eraseD (n : Int))) := ⟨by rw [HRR.out]; unfold Dv.erase; rw [if_neg (by rw [HD0.out]; decide), if_neg (by rw [HHH.out]; decide), if_neg (by rw [← HBM.out]; decide)]⟩; go_upto_region 8 with fail; have HBG := aK (begin_calls H5.out); obtain ⟨kd, hkd⟩ : ∃ x, x = D.fault.1 := ⟨_, rfl⟩; obtain ⟨m, hm⟩ : ∃ m, m = D.fault.2 := ⟨_, rfl⟩; rw [← hkd, ← hm] at HBG; have HKD := aK hkd; have HM := aK hm; clear hkd hm c3 ce q1; go_upto_region 9 with (go_at_call 64; refine HBG.out.mono ?_; rintro e w10 ⟨A3, c3, rfl, hc3, hF3, hD3, hT3⟩; have HE3 := aK (And.intro hc3 (And.intro hF3 (And.intro hD3 hT3))); clear hc3 hF3 hD3 hT3); have hz10 := heap_alloc_new w10 (.cells #[.slice A3 m.length c3] 38); have hb10 := below_alloc (Below.refl w10.heap.size w10) (.cells #[.slice A3 m.length c3] 38); have hn10 : ¬ L.S w10.heap.size := fun hS => by have := H00.out.lt _ hS; have := HB5.out.size; have := HE3.out.2.2.2.size; omega
    have H11 : Aside0 (DV _ ok L { D with ops := wrap64 (D.ops + 1) }) := ⟨HE3.out.2.2.1.below hb10⟩; have T11 := aK (((Turn.of_below HB5.out L.S).trans HE3.out.2.2.2 (fun k hk => .inl hk)).below hb10); have F11 := aK (Kd.F_mono (Kd.F_below HE3.out.2.1 hb10) (newer_le HB5.out.size)); have HC3 := aK HE3.out.1; generalize w10.alloc (.cells #[.slice A3 m.length c3] 38) = W11 at hz10 hb10 H11 T11 F11 ⊢; generalize w10.heap.size = g10 at hz10 hn10 ⊢; have Z11 := aK hz10; have HN10 := aK hn10; clear hz10 hb10 hn10 HBG HE3 H5; obtain ⟨wv, hwv⟩ : ∃ x, x = D.wear.getD n 0 := ⟨_, rfl⟩; have HWV := aK hwv; have H12 := aK (H11.out.set_wear n (wrap64 (wv + 1)) (wrap_range _)); have t12 := (Turn.refl W11 L.S).setCell (p := ⟨L.gw, n, none⟩) (.inl (.inr (.inr (.inr rfl)))) (.int .i64 (wrap64 (wv + 1))); have T12 := aK (T11.out.trans t12 (fun k hk => .inl hk)); have F12 := aK (F_turn F11.out t12 (fun k hk _ => newer_no H00.out (Nat.le_refl _) k hk)); have Z12 := aK (blk_turn Z11.out t12 HN10.out); have c6 := (top_cells H11.out).2.2.2.2.2.2.1; have ce := H11.out.we.cell (ints_at (l := D.wear) (n := n) (by have := H00.out.ok.wl; have := HN.out; omega)); rw [← hwv] at ce; clear hwv; have fe := H11.out.we.frozen n; have q1 := eq_true (show (n : Int) < ((D.wear.length : Nat) : Int) by have := H00.out.ok.wl; have := HN.out; omega); go_upto_region 10 with fail; generalize W11.setCell ⟨L.gw, n, none⟩ (.int .i64 (wrap64 (wv + 1))) = W12 at H12 T12 F12 Z12 ⊢; clear c6 ce fe q1 t12 H11 T11 F11 Z11; obtain ⟨wr', hwr⟩ : ∃ x, x = D.wear.set n (wrap64 (wv + 1)) := ⟨_, rfl⟩; have H12' : Aside0 (DV W12 ok L { D with ops := wrap64 (D.ops + 1), wear := wr' }) := ⟨by rw [hwr]; exact H12.out⟩; have HWR := aK hwr; have H13 := aK (H12'.out.set_next n 0 ⟨Int.le_refl _, by have := H00.out.ok.p1; show 0 ≤ D.P; omega⟩); have t13 := (Turn.refl W12 L.S).setCell (p := ⟨L.gn, n, none⟩) (.inl (.inr (.inr (.inl rfl)))) (.int .i64 0); have T13 := aK (T12.out.trans t13 (fun k hk => .inl hk)); have F13 := aK (F_turn F12.out t13 (fun k hk _ => newer_no H00.out (Nat.le_refl _) k hk)); have Z13 := aK (blk_turn Z12.out t13 HN10.out); have c5 := (top_cells H12'.out).2.2.2.2.2.1; have ce := H12'.out.nx.cell (ints_at (l := D.next) (n := n) (by have := H00.out.ok.nl; have := HN.out; omega)); have fe := H12'.out.nx.frozen n; have q1 := eq_true (show (n : Int) < ((D.next.length : Nat) : Int) by have := H00.out.ok.nl; have := HN.out; omega); clear hwr H12; go_upto_region 11 with fail; generalize W12.setCell ⟨L.gn, n, none⟩ (.int .i64 0) = W13 at H13 T13 F13 Z13 ⊢; clear c5 ce fe q1 t13 H12' T12 F12 Z12; obtain ⟨Pn, hPn⟩ := Int.eq_ofNat_of_zero_le (show 0 ≤ D.P by have := H00.out.ok.p1; omega); have hmb := mul_lt_of (a := (n : Int)) (b := D.B) (p := 0) (P := D.P) (by omega) HN.out (Int.le_refl _) (by have := H00.out.ok.p1; omega); obtain ⟨i0, hi0⟩ := Int.eq_ofNat_of_zero_le (show 0 ≤ (n : Int) * D.P by omega); have hmb2 := mul_lt_of (a := (n : Int)) (b := D.B) (p := D.P - 1) (P := D.P) (by omega) HN.out (by have := H00.out.ok.p1; omega) (by omega); have HIX : Aside0 ((i0 : Int) = (n : Int) * D.P ∧ (Pn : Int) = D.P ∧ i0 + Pn ≤ D.pages.length ∧ Pn ≤ 32) := ⟨hi0.symm, hPn.symm, by have := H00.out.ok.pl; omega, by have := H00.out.ok.p2; omega⟩; have HWM : IntKind.i64.wrap ((n : Int) * D.P) = (i0 : Int) := by have := H00.out.ok.size; have := H00.out.ok.pl; have := HIX.out.2.2.1; rw [hi0, i64_w]; unfold wrap64; omega
    have HWM2 : wrap64 ((n : Int) * D.P) = (i0 : Int) := by rw [← i64_w]; exact HWM
    replace HWM := aK HWM; replace HWM2 := aK HWM2; clear hmb hmb2 hi0 hPn; by_cases hk0 : kd = 0
    case pos =>
     have tk : (kd != 0) = false := by rw [hk0]; rfl
     have HK0 := aK hk0; clear hk0; have H14 : Aside0 (DV W13 ok L { D with ops := wrap64 (D.ops + 1), wear := wr', next := D.next.set n 0 }) := H13; obtain ⟨nx', hnx⟩ : ∃ x, x = D.next.set n 0 := ⟨_, rfl⟩; rw [← hnx] at H14; have HNX : Aside0 (nx' = D.next.set n (if D.fault.1 = 0 then 0 else D.P)) := ⟨by rw [if_pos (by rw [← HKD.out]; exact HK0.out)]; exact hnx⟩; have T14 := T13; have F14 := F13; have Z14 := Z13; clear hnx H13 T13 F13 Z13; go_upto_region 13 with fail; clear tk; have c1 := (top_cells H14.out).2.1; go_wp2_with fail; clear c1
     go_loopg [65] (Pn + 1) (fun kq v65 w' => ∃ k : Nat, v65 = .int .i64 (k : Int) ∧ Aside0 (k ≤ Pn ∧ kq + k = Pn + 1) ∧ Aside0 (DV w' (newer W ok) L { D with ops := wrap64 (D.ops + 1), wear := wr', next := nx', pages := wipedTo D.pages i0 m k }) ∧ Aside0 (Turn W13 w' L.S))
     case atStart => exact ⟨0, rfl, ⟨Nat.zero_le _, rfl⟩, ⟨by rw [wipedTo_zero]; exact H14.out.newer_ H00.out.lt⟩, ⟨Turn.refl _ _⟩⟩
     case round =>
      obtain ⟨k, rfl, HI, HD, HT⟩ := hrel; clear p1; by_cases hk : (k : Int) < D.P
      case neg =>
       have t1 : decide ((k : Int) < D.P) = false := decide_eq_false hk; have hkP : k = Pn := by have := HI.out.1; have := HIX.out.2.1; omega
       have HKP := aK hkP; have HEN := aK (end_calls HD.out HD0.out kd (by rw [HKD.out]; exact fault_kind D)); clear hk hkP; go_wp2_with (go_at_call 68; refine HEN.out.mono ?_; rintro e w18 ⟨rfl, hD18, hT18⟩; have H18 := aK hD18; have T18 := aK ((T14.out.trans HT.out (fun k hk => .inl hk)).trans hT18 (fun k hk => .inl hk)); clear hD18 hT18); go_ret; rw [HR1.out]; have hE : D.eraseD (n : Int) = { D with ops := wrap64 (D.ops + 1), wear := wr', next := nx', pages := wipedTo D.pages i0 m k, down := kd == 2 } := by
        unfold Dv.eraseD; rw [HKP.out, wipedTo_all n i0 Pn m HIX.out.1 HIX.out.2.1, HWR.out, HWV.out, HNX.out, HM.out, HKD.out]; rfl
       refine ⟨by rw [HKD.out]; rfl, ?_, T18.out⟩
       show DV w18 (newer W ok) L (D.eraseD (n : Int))
       rw [hE]; exact H18.out
      case pos =>
       have t1 : decide ((k : Int) < D.P) = true := decide_eq_true hk; have HKB : Aside0 (i0 + k < D.pages.length) := ⟨by have := HIX.out; omega⟩; have HK2 : Aside0 (k < Pn) := ⟨by have := HIX.out; omega⟩; have hpo := page_ok H00.out.ok HKB.out; have hmo := fault_mask H00.out.ok; rw [← HM.out] at hmo; have hF := F_turn F14.out HT.out (fun k hk _ => newer_no H00.out (Nat.le_refl _) k hk); have hZ := blk_turn Z14.out HT.out HN10.out; have HCH := aK (change_calls HD.out (i0 + k) (by show i0 + k < (wipedTo D.pages i0 m k).length; rw [wipedTo_len]; exact HKB.out) 66 _ #[.pointer (some ⟨g10, 0, none⟩)] Try.func66 (by kernel_rfl) rfl (wipeRow (D.pages.getD (i0 + k) []) m) (wipeRow_ok hpo.1 hmo.1 hpo.2)
        (fun W' hW A' c' hc' hC' => erase1_calls (blk_below hZ hW) ⟨hmo.1, HC3.out⟩ hpo hc' (Kd.C_below (Kd.F_now hF) hW) (by have h' : (wipedTo D.pages i0 m k).getD (i0 + k) [] = D.pages.getD (i0 + k) [] := wipedTo_at _ _ _ _; rw [← h']; exact hC') (newer W ok)))
       have c1 := (top_cells HD.out).2.1; have hw1 := HWM.out; have hw2 := HWM2.out; rw [Int.natCast_add] at HCH; obtain ⟨hw3, hw4⟩ := wrap_id (x := (i0 : Int) + (k : Int)) (by omega) (by have := H00.out.ok.size; have := H00.out.ok.pl; have := HKB.out; omega); obtain ⟨hw5, hw6⟩ := wrap_id (x := (k : Int) + 1) (by omega) (by have := HIX.out.2.2.2; have := HK2.out; omega); clear hk hpo hmo hF hZ; go_wp2_with (go_at_call 65; refine HCH.out.mono ?_; rintro e w16 ⟨rfl, hD16, hT16⟩; have H16 := aK hD16; have T16 := aK (HT.out.trans hT16 (fun k hk => .inl hk)); clear hD16 hT16); go_roundg (Pn - k)
       case measure => have := HI.out; have := HK2.out; omega
       case rel =>
        refine ⟨k + 1, by first | rfl | simp, ⟨by have := HK2.out; omega, by have := HI.out; have := HK2.out; omega⟩, ⟨?_⟩, T16⟩; have h16 := H16.out.newer2 H00.out (fun k hk => by
         rcases hk with hk | hk
         ·
          exact hk
         ·
          exact .inr (Nat.le_trans (Nat.le_trans T14.out.size HT.out.size) hk))
        rw [← wipedTo_succ _ _ _ _ HKB.out]; exact h16
    case neg =>
     have tk : (kd != 0) = true := by simpa using hk0
     have H14 := aK (H13.out.set_next n D.P ⟨by have := H00.out.ok.p1; show 0 ≤ D.P; omega, Int.le_refl _⟩); have B0 := aK (below_drew1 (Below.refl W13.heap.size W13)); have HQ2 := aK (And.intro (eq_true (show (0 : Int) ≤ (n : Int) by omega)) (eq_true (show (n : Int) < ((D.next.length : Nat) : Int) by have := H00.out.ok.nl; have := HN.out; omega))); have HNC : Aside0 (((D.next.set n 0).map (Value.int .i64))[n]? = some (.int .i64 ((D.next.set n 0).getD n 0))) := ⟨ints_at (by rw [List.length_set]; have := H00.out.ok.nl; have := HN.out; omega)⟩; have HPR := aK (show 0 ≤ D.P ∧ D.P ≤ D.P by have := H00.out.ok.p1; omega); have HK0 := aK hk0; clear H14 hk0; go_upto_region 12 with fail; clear tk; refine start_ (n := 12) (S := fun w' => True) (ds := []) #[false, false, false, false, false, false, false, false, false, false, false, false] (by kernel_rfl) rfl rfl trivial (fun hHeld => ?_); refine with_tabW erase12.tab12 erase12.bits12 (fun HT_ HW_ => ?_); generalize W13.drew = wq at B0 hHeld ⊢; refine inv_at [0, 1, 2, 3, 4, 5, 6, 7, 8, 9, 10, 11] (fun a0_ b a w' => a = putSel a0_ b [(0, 49, .pointer (some ⟨L.g, 0, none⟩)), (1, 50, .pointer (some ⟨L.g, 0, none⟩)), (2, 51, .pointer (some ⟨L.g, 5, none⟩)), (3, 52, .slice (some ⟨L.gn, 0, none⟩) D.next.length L.cn), (4, 53, .int .i64 (n : Int)), (5, 54, .pointer (some ⟨L.g, 0, none⟩)), (6, 55, .pointer (some ⟨L.g, 0, none⟩)), (7, 56, .pointer (some ⟨L.g, 0, none⟩)), (8, 57, .pointer (some ⟨L.g, 1, none⟩)), (9, 58, .int .i64 D.P), (10, 59, .pointer (some ⟨L.gn, n, none⟩))] ∧ (b 11 = false → Below W13.heap.size W13 w') ∧ (b 11 = true → DV w' ok L { D with ops := wrap64 (D.ops + 1), wear := wr', next := (D.next.set n 0).set n D.P } ∧ Turn W13 w' L.S)) HT_.out HW_.out (by kernel_rfl) (by kernel_rfl) ?_ ?_ ?_
     ·
      exact ⟨by simp only [putSel, Bool.false_eq_true, if_false], fun _ => B0.out, fun h_ => absurd h_ (by decide)⟩
     ·
      skip
      clear B0; refine steps_cons ?_ ?_; rintro b a w' ⟨ha, Q_B0, Q_FIN⟩ hb_ hon hoff; refine ⟨_, rfl, fun K hK => ?_⟩; have e0 := q_f ha 0 rfl rfl; replace ha := aK ha; have B0 := aK (Q_B0 (hoff 11 (by kernel_rfl))); refine q_v (.pointer (some ⟨L.g, 0, none⟩)) (by rfl) rfl ?_ ?_; (· (go_simp; (try simp only [i64_w]); try rfl)); refine hK.out _ _ ⟨q_u ha 0 hb_ rfl rfl rfl, Q_B0, fun h0_ => q_h hoff 11 h0_⟩; refine steps_cons ?_ ?_; rintro b a w' ⟨ha, Q_B0, Q_FIN⟩ hb_ hon hoff; refine ⟨_, rfl, fun K hK => ?_⟩; have e49 := q_n ha hon 49 0 0 rfl; replace ha := aK ha; have B0 := aK (Q_B0 (hoff 11 (by kernel_rfl))); refine q_v (.pointer (some ⟨L.g, 0, none⟩)) (by rfl) rfl ?_ ?_; (· (go_simp; (try simp only [i64_w]); try rfl)); refine hK.out _ _ ⟨q_u ha 1 hb_ rfl rfl rfl, Q_B0, fun h0_ => q_h hoff 11 h0_⟩; refine steps_cons ?_ ?_; rintro b a w' ⟨ha, Q_B0, Q_FIN⟩ hb_ hon hoff; refine ⟨_, rfl, fun K hK => ?_⟩; have e50 := q_n ha hon 50 1 1 rfl; replace ha := aK ha; have B0 := aK (Q_B0 (hoff 11 (by kernel_rfl))); refine q_v (.pointer (some ⟨L.g, 5, none⟩)) (by rfl) rfl ?_ ?_; (· (go_simp; (try simp only [i64_w]); try rfl)); refine hK.out _ _ ⟨q_u ha 2 hb_ rfl rfl rfl, Q_B0, fun h0_ => q_h hoff 11 h0_⟩; refine steps_cons ?_ ?_; rintro b a w' ⟨ha, Q_B0, Q_FIN⟩ hb_ hon hoff; refine ⟨_, rfl, fun K hK => ?_⟩; have e51 := q_n ha hon 51 2 2 rfl; replace ha := aK ha; have B0 := aK (Q_B0 (hoff 11 (by kernel_rfl))); have c_ := (top_cells (H13.out.below B0.out)).2.2.2.2.2.1; refine q_v (.slice (some ⟨L.gn, 0, none⟩) D.next.length L.cn) (by rfl) rfl ?_ ?_; (· (go_simp; (try simp only [i64_w]); try rfl)); refine hK.out _ _ ⟨q_u ha 3 hb_ rfl rfl rfl, Q_B0, fun h0_ => q_h hoff 11 h0_⟩; refine steps_cons ?_ ?_; rintro b a w' ⟨ha, Q_B0, Q_FIN⟩ hb_ hon hoff; refine ⟨_, rfl, fun K hK => ?_⟩; have e1 := q_f ha 1 rfl rfl; replace ha := aK ha; have B0 := aK (Q_B0 (hoff 11 (by kernel_rfl))); refine q_v (.int .i64 (n : Int)) (by rfl) rfl ?_ ?_; (· (go_simp; (try simp only [i64_w]); try rfl)); refine hK.out _ _ ⟨q_u ha 4 hb_ rfl rfl rfl, Q_B0, fun h0_ => q_h hoff 11 h0_⟩; refine steps_cons ?_ ?_; rintro b a w' ⟨ha, Q_B0, Q_FIN⟩ hb_ hon hoff; refine ⟨_, rfl, fun K hK => ?_⟩; have e0 := q_f ha 0 rfl rfl; replace ha := aK ha; have B0 := aK (Q_B0 (hoff 11 (by kernel_rfl))); refine q_v (.pointer (some ⟨L.g, 0, none⟩)) (by rfl) rfl ?_ ?_; (· (go_simp; (try simp only [i64_w]); try rfl)); refine hK.out _ _ ⟨q_u ha 5 hb_ rfl rfl rfl, Q_B0, fun h0_ => q_h hoff 11 h0_⟩; refine steps_cons ?_ ?_; rintro b a w' ⟨ha, Q_B0, Q_FIN⟩ hb_ hon hoff; refine ⟨_, rfl, fun K hK => ?_⟩; have e54 := q_n ha hon 54 5 5 rfl; replace ha := aK ha; have B0 := aK (Q_B0 (hoff 11 (by kernel_rfl))); refine q_v (.pointer (some ⟨L.g, 0, none⟩)) (by rfl) rfl ?_ ?_; (· (go_simp; (try simp only [i64_w]); try rfl)); refine hK.out _ _ ⟨q_u ha 6 hb_ rfl rfl rfl, Q_B0, fun h0_ => q_h hoff 11 h0_⟩; refine steps_cons ?_ ?_; rintro b a w' ⟨ha, Q_B0, Q_FIN⟩ hb_ hon hoff; refine ⟨_, rfl, fun K hK => ?_⟩; have e55 := q_n ha hon 55 6 6 rfl; replace ha := aK ha; have B0 := aK (Q_B0 (hoff 11 (by kernel_rfl))); refine q_v (.pointer (some ⟨L.g, 0, none⟩)) (by rfl) rfl ?_ ?_; (· (go_simp; (try simp only [i64_w]); try rfl)); refine hK.out _ _ ⟨q_u ha 7 hb_ rfl rfl rfl, Q_B0, fun h0_ => q_h hoff 11 h0_⟩; refine steps_cons ?_ ?_; rintro b a w' ⟨ha, Q_B0, Q_FIN⟩ hb_ hon hoff; refine ⟨_, rfl, fun K hK => ?_⟩; have e56 := q_n ha hon 56 7 7 rfl; replace ha := aK ha; have B0 := aK (Q_B0 (hoff 11 (by kernel_rfl))); refine q_v (.pointer (some ⟨L.g, 1, none⟩)) (by rfl) rfl ?_ ?_; (· (go_simp; (try simp only [i64_w]); try rfl)); refine hK.out _ _ ⟨q_u ha 8 hb_ rfl rfl rfl, Q_B0, fun h0_ => q_h hoff 11 h0_⟩; refine steps_cons ?_ ?_; rintro b a w' ⟨ha, Q_B0, Q_FIN⟩ hb_ hon hoff; refine ⟨_, rfl, fun K hK => ?_⟩; have e57 := q_n ha hon 57 8 8 rfl; replace ha := aK ha; have B0 := aK (Q_B0 (hoff 11 (by kernel_rfl)))
      have c_ := (top_cells (H13.out.below B0.out)).2.1; refine q_v (.int .i64 D.P) (by rfl) rfl ?_ ?_; (· (go_simp; (try simp only [i64_w]); try rfl)); refine hK.out _ _ ⟨q_u ha 9 hb_ rfl rfl rfl, Q_B0, fun h0_ => q_h hoff 11 h0_⟩; refine steps_cons ?_ ?_; rintro b a w' ⟨ha, Q_B0, Q_FIN⟩ hb_ hon hoff; refine ⟨_, rfl, fun K hK => ?_⟩; have e52 := q_n ha hon 52 3 3 rfl; have e53 := q_n ha hon 53 4 4 rfl; replace ha := aK ha; have B0 := aK (Q_B0 (hoff 11 (by kernel_rfl))); have p_ := HQ2.out.1; have q_ := HQ2.out.2; refine q_v (.pointer (some ⟨L.gn, n, none⟩)) (by rfl) rfl ?_ ?_; (· (go_simp; (try simp only [i64_w]); try rfl)); refine hK.out _ _ ⟨q_u ha 10 hb_ rfl rfl rfl, Q_B0, fun h0_ => q_h hoff 11 h0_⟩; refine steps_cons ?_ ?_; rintro b a w' ⟨ha, Q_B0, Q_FIN⟩ hb_ hon hoff; refine ⟨_, rfl, fun K hK => ?_⟩; have e59 := q_n ha hon 59 10 10 rfl; have e58 := q_n ha hon 58 9 9 rfl; replace ha := aK ha; have B0 := aK (Q_B0 hb_); have c_ := (H13.out.below B0.out).nx.cell HNC.out; have fr_ := (H13.out.below B0.out).nx.frozen n; refine skip_ (w1 := ?_) (by rfl) rfl ?_ ?_; rotate_left
      ·
       go_simp
       rfl
      refine hK.out _ _ ⟨(by rw [ha.out]; exact putSel_none (v := undef) rfl), fun h0_ => q_x h0_ (up_self b 11), fun _ => ⟨(H13.out.below B0.out).set_next n D.P HPR.out, (Turn.of_below B0.out L.S).setCell (p := ⟨L.gn, n, none⟩) (.inl (.inr (.inr (.inl rfl)))) _⟩⟩; exact steps_nil
     rintro b a W14 hall ⟨ha, Q_B0, Q_FIN⟩; clear B0; subst ha; rw [q_a hall]; rotate_left
     ·
      kernel_rfl
     simp only [List.foldl_cons, List.foldl_nil, Act.put, List.setIfInBounds_toArray, List.set_cons_zero, List.set_cons_succ]; clear Q_B0; have FIN := aK (Q_FIN (hall 11 (by kernel_rfl))); clear Q_FIN; clear hall; obtain ⟨nx', hnx⟩ : ∃ x, x = D.next.set n D.P := ⟨_, rfl⟩; have H14 : Aside0 (DV W14 ok L { D with ops := wrap64 (D.ops + 1), wear := wr', next := nx' }) := ⟨by rw [hnx]; have := FIN.out.1; simp only [List.set_set] at this; exact this⟩; have HNX : Aside0 (nx' = D.next.set n (if D.fault.1 = 0 then 0 else D.P)) := ⟨by rw [if_neg (by rw [← HKD.out]; exact HK0.out)]; exact hnx⟩; have T14 := aK (T13.out.trans FIN.out.2 (fun k hk => .inl hk)); have F14 := aK (F_turn F13.out FIN.out.2 (fun k hk _ => newer_no H00.out (Nat.le_refl _) k hk)); have Z14 := aK (blk_turn Z13.out FIN.out.2 HN10.out); clear hnx H13 T13 F13 Z13 FIN; go_upto_region 13 with fail; have c1 := (top_cells H14.out).2.1; go_wp2_with fail; clear c1
     go_loopg [65] (Pn + 1) (fun kq v65 w' => ∃ k : Nat, v65 = .int .i64 (k : Int) ∧ Aside0 (k ≤ Pn ∧ kq + k = Pn + 1) ∧ Aside0 (DV w' (newer W ok) L { D with ops := wrap64 (D.ops + 1), wear := wr', next := nx', pages := wipedTo D.pages i0 m k }) ∧ Aside0 (Turn W14 w' L.S))
     case atStart => exact ⟨0, rfl, ⟨Nat.zero_le _, rfl⟩, ⟨by rw [wipedTo_zero]; exact H14.out.newer_ H00.out.lt⟩, ⟨Turn.refl _ _⟩⟩
     case round =>
      obtain ⟨k, rfl, HI, HD, HT⟩ := hrel; clear p1; by_cases hk : (k : Int) < D.P
      case neg =>
       have t1 : decide ((k : Int) < D.P) = false := decide_eq_false hk; have hkP : k = Pn := by have := HI.out.1; have := HIX.out.2.1; omega
       have HKP := aK hkP; have HEN := aK (end_calls HD.out HD0.out kd (by rw [HKD.out]; exact fault_kind D)); clear hk hkP; go_wp2_with (go_at_call 68; refine HEN.out.mono ?_; rintro e w18 ⟨rfl, hD18, hT18⟩; have H18 := aK hD18; have T18 := aK ((T14.out.trans HT.out (fun k hk => .inl hk)).trans hT18 (fun k hk => .inl hk)); clear hD18 hT18); go_ret; rw [HR1.out]; have hE : D.eraseD (n : Int) = { D with ops := wrap64 (D.ops + 1), wear := wr', next := nx', pages := wipedTo D.pages i0 m k, down := kd == 2 } := by
        unfold Dv.eraseD; rw [HKP.out, wipedTo_all n i0 Pn m HIX.out.1 HIX.out.2.1, HWR.out, HWV.out, HNX.out, HM.out, HKD.out]; rfl
       refine ⟨by rw [HKD.out]; rfl, ?_, T18.out⟩
       show DV w18 (newer W ok) L (D.eraseD (n : Int))
       rw [hE]; exact H18.out
      case pos =>
       have t1 : decide ((k : Int) < D.P) = true := decide_eq_true hk; have HKB : Aside0 (i0 + k < D.pages.length) := ⟨by have := HIX.out; omega⟩; have HK2 : Aside0 (k < Pn) := ⟨by have := HIX.out; omega⟩; have hpo := page_ok H00.out.ok HKB.out; have hmo := fault_mask H00.out.ok; rw [← HM.out] at hmo; have hF := F_turn F14.out HT.out (fun k hk _ => newer_no H00.out (Nat.le_refl _) k hk); have hZ := blk_turn Z14.out HT.out HN10.out; have HCH := aK (change_calls HD.out (i0 + k) (by show i0 + k < (wipedTo D.pages i0 m k).length; rw [wipedTo_len]; exact HKB.out) 66 _ #[.pointer (some ⟨g10, 0, none⟩)] Try.func66 (by kernel_rfl) rfl (wipeRow (D.pages.getD (i0 + k) []) m) (wipeRow_ok hpo.1 hmo.1 hpo.2)
        (fun W' hW A' c' hc' hC' => erase1_calls (blk_below hZ hW) ⟨hmo.1, HC3.out⟩ hpo hc' (Kd.C_below (Kd.F_now hF) hW) (by have h' : (wipedTo D.pages i0 m k).getD (i0 + k) [] = D.pages.getD (i0 + k) [] := wipedTo_at _ _ _ _; rw [← h']; exact hC') (newer W ok)))
       have c1 := (top_cells HD.out).2.1; have hw1 := HWM.out; have hw2 := HWM2.out; rw [Int.natCast_add] at HCH; obtain ⟨hw3, hw4⟩ := wrap_id (x := (i0 : Int) + (k : Int)) (by omega) (by have := H00.out.ok.size; have := H00.out.ok.pl; have := HKB.out; omega); obtain ⟨hw5, hw6⟩ := wrap_id (x := (k : Int) + 1) (by omega) (by have := HIX.out.2.2.2; have := HK2.out; omega); clear hk hpo hmo hF hZ; go_wp2_with (go_at_call 65; refine HCH.out.mono ?_; rintro e w16 ⟨rfl, hD16, hT16⟩; have H16 := aK hD16; have T16 := aK (HT.out.trans hT16 (fun k hk => .inl hk)); clear hD16 hT16); go_roundg (Pn - k)
       case measure => have := HI.out; have := HK2.out; omega
       case rel =>
        refine ⟨k + 1, by first | rfl | simp, ⟨by have := HK2.out; omega, by have := HI.out; have := HK2.out; omega⟩, ⟨?_⟩, T16⟩; have h16 := H16.out.newer2 H00.out (fun k hk => by
         rcases hk with hk | hk
         ·
          exact hk
         ·
          exact .inr (Nat.le_trans (Nat.le_trans T14.out.size HT.out.size) hk))
        rw [← wipedTo_succ _ _ _ _ HKB.out]; exact h16
end Go.Proofs.Ytnchdmidaigheaa.ND
namespace Go.Proofs.Ytnchdmidaigheaa.ND
set_option linter.unusedVariables false
set_option linter.unusedSimpArgs false
open Go.RowKit Go.Proofs.Ytnchdmidaigheaa.Hp Go.Proofs.YtnchdmidaigheaaW.PrintWords Go.Proofs.YtnchdmidaigheaaW.PrintLast Go.Proofs.YtnchdmidaigheaaW.PrintMore
section
variable {P : Program} {ops : Array Oper} {rest : List Oper} {Q : Exit → Act → World → Prop}
theorem app_wp {o : Oper} {a : Act} {w w' : World} (hgd : o.guard = none) (s x : Operand) (t : TypeId)
  (ho : o.op = .call { callee := .builtin .append, args := #[s, x], argTypes := #[t, t] }) {v xv v' : Value} (hs : a.eval s = v) (hx : a.eval x = xv)
  (hr : (Builtin.append_ #[t, t] o.type #[v, xv]).run P w = .ok v' w') (h : wpList P ops Q rest (a.put o.dst v') w') : wpList P ops Q (o :: rest) a w := by
 refine wpList_plain hgd fun K hK => ?_; unfold Oper.wp execOp; simp only [ho, resolve, invoke, builtin, Sem.run_bind, Sem.run_pure, Result.andThen_ok, List.map_toArray, List.map_cons, List.map_nil, hs, hx, hr]; exact hK _ _ h
end
theorem bytes_copy {W : World} {A : Option Addr} {c : Nat} {l : List Int} (gl : Kd.C (Kd.int .u8) W A l.length l) (hl : l.length ≤ 1000) :
  ∃ v' w', (Builtin.append_ #[38, 38] 38 #[.slice none 0 0, .slice A l.length c]).run Try.prog W = .ok v' w' ∧ w'.ownsRow W.heap.size 5 1 v' l.length (nums .u8 l) ∧ Below W.heap.size W w' := by
 rcases Nat.eq_zero_or_pos l.length with h0 | h0
 ·
  obtain rfl := List.eq_nil_of_length_eq_zero h0; obtain ⟨i0, hi, hzz⟩ := Option.map_eq_some_iff.1 (show (Try.prog.info? 5).map (fun i => (i.zero, i.size, i.bytes)) = some (some (.int .u8 0), 1, 1) by kernel_rfl); simp only [Prod.mk.injEq] at hzz; have hsrc : Src Try.prog i0.size 38 (.slice A 0 c) 0 [] W := by
   cases A with
   | none => exact Src.ofNil W Try.underlying38 c
   | some ad => exact Src.ofSlice W Try.underlying38 ad 0 c [] (by simp) (by simp) (by simp)
  exact ⟨_, W, run_append_nothing W 38 38 38 5 i0 Try.underlying38 hi _ 0 0 (Nat.le_refl _) _ hsrc, World.ownsRow_nil _ _ _ _, Below.refl _ _⟩
 ·
  obtain ⟨ad, rfl, hcc⟩ := gl.2.2 h0; obtain ⟨v', w', h1, h2, h3, _⟩ := app_any W.heap.size 38 38 5 Try.underlying38 (z := .int .u8 0) (sz := 1) (bytes := 1) (by kernel_rfl) rfl (by decide) (by decide) (by decide) (.slice none 0 0) 0 [] (World.ownsRow_nil _ _ _ _) ad l.length c (nums .u8 l) (by simp [nums]) (fun j u hu => by
   unfold nums at hu; rw [List.getElem?_map] at hu; obtain ⟨x, hx, rfl⟩ := Option.map_eq_some_iff.1 hu; obtain ⟨cs, hcl, hK, hc⟩ := hcc j x hx; have hk : cs = [.int .u8 x] := hK; subst hk; have := hc 0 _ rfl; have h' : W.cell? (ad.add (j * 1 + 0)) = some (.int .u8 x) := this
   rwa [Nat.mul_one, Nat.add_zero] at h') (fun u hu => by
   unfold nums at hu; obtain ⟨x, _, rfl⟩ := List.mem_map.1 hu; rfl) (by omega) (Nat.le_refl _)
  rw [Nat.zero_add, List.nil_append] at h2; exact ⟨v', w', h1, h2, ⟨h3.os, h3.tape, h3.output, h3.size, fun k hk => h3.block k hk (by simp [Value.ownBlock])⟩⟩
theorem own_F {W : World} {base : Nat} {v : Value} {l : List Int} (h : W.ownsRow base 5 1 v l.length (nums .u8 l)) : ∃ A c, v = .slice A l.length c ∧ l.length ≤ c ∧ Kd.F (Kd.int .u8) W (fun k => base ≤ k) A l.length l := by
 have hR : Kd.R (Kd.int .u8) 5 W base (fun k => base ≤ k) v l := Kd.R_of_own (ok := fun k => base ≤ k) h (fun k hk => own_base h k hk); obtain ⟨A, c, rfl, hc, _⟩ := Kd.R_reads hR; exact ⟨A, c, rfl, hc, Kd.R_F hR⟩
abbrev Fp := Flt × Option Addr × Nat
def encF (p : Fp) : List Value := [.int .i64 p.1.f0, .int .i64 p.1.f1, .slice p.2.1 p.1.f2.length p.2.2]
theorem encFs_at : ∀ (ps : List Fp) (i : Nat) (p : Fp), ps[i]? = some p → ∀ j, j < 3 → (ps.flatMap encF)[i * 3 + j]? = (encF p)[j]?
 | [], i, p, h, j, hj => by simp at h
 | q :: r, 0, p, h, j, hj => by
  obtain rfl : q = p := by simpa using h
  rw [List.flatMap_cons, List.getElem?_append_left (by show _ < 3; omega)]
  congr 1
  omega
 | q :: r, i + 1, p, h, j, hj => by
  rw [List.flatMap_cons, List.getElem?_append_right (by show 3 ≤ _; omega)]; have := encFs_at r i p (by simpa using h) j hj; rw [← this]
  congr 1
  show (i + 1) * 3 + j - 3 = i * 3 + j
  omega
def FRow (W : World) (ok : Nat → Prop) (ps : List Fp) : Prop := ∀ p ∈ ps, p.1.f2.length ≤ p.2.2 ∧ Kd.F (Kd.int .u8) W ok p.2.1 p.1.f2.length p.1.f2
theorem FRow.step {W W' : World} {ok : Nat → Prop} {ps : List Fp} (h : FRow W ok ps) (hm : ∀ k, ok k → k < W.heap.size → W'.heap[k]? = W.heap[k]?) : FRow W' ok ps := fun p hp => ⟨(h p hp).1, Kd.F_step (h p hp).2 hm⟩
theorem FRow.snoc {W : World} {ok : Nat → Prop} {ps : List Fp} (h : FRow W ok ps) {p : Fp} (h1 : p.1.f2.length ≤ p.2.2) (h2 : Kd.F (Kd.int .u8) W ok p.2.1 p.1.f2.length p.1.f2) : FRow W ok (ps ++ [p]) := fun q hq => by
 rcases List.mem_append.1 hq with hq | hq
 ·
  exact h q hq
 ·
  rw [List.mem_singleton.1 hq]; exact ⟨h1, h2⟩
abbrev okw (W5 : World) (v : Value) (k : Nat) : Prop := W5.heap.size ≤ k ∧ some k ≠ v.ownBlock
theorem fault_app {W6 W : World} {vf : Value} {n : Nat} {ps : List Fp} (ho : W.ownsRow W6.heap.size 65 3 vf n (ps.flatMap encF)) (hg : FRow W (okw W6 vf) ps) {p : Fp} (h1 : p.1.f2.length ≤ p.2.2) (h2 : Kd.F (Kd.int .u8) W (okw W6 vf) p.2.1 p.1.f2.length p.1.f2) {gx : Nat} (hx : W.heap[gx]? = some (.cells #[.int .i64 p.1.f0, .int .i64 p.1.f1, .slice p.2.1 p.1.f2.length p.2.2] 65 (0, 0))) (hn : n + 1 ≤ 100000) (hs : W6.heap.size ≤ W.heap.size) :
  ∃ v' w', (Builtin.append_ #[25, 25] 25 #[vf, .slice (some ⟨gx, 0, none⟩) 1 1]).run Try.prog W = .ok v' w' ∧ w'.ownsRow W6.heap.size 65 3 v' (n + 1) ((ps ++ [p]).flatMap encF) ∧ FRow w' (okw W6 v') (ps ++ [p]) ∧ W.grownBy w' vf.ownBlock := by
 obtain ⟨v', w', e1, e2, e3, e4⟩ := app_any W6.heap.size 25 25 65 Try.underlying25 (z := .agg #[.int .i64 0, .int .i64 0, .slice none 0 0]) (sz := 3) (bytes := 40) (by kernel_rfl) rfl (by decide) (by decide) (by decide) vf n _ ho ⟨gx, 0, none⟩ 1 1 (encF p) rfl (fun j u hu => by rw [add_plain, blk_cell hx, ← hu]; show (encF p).toArray[j]? = _; rw [List.getElem?_toArray]) (fun u hu => by
  unfold encF at hu; simp only [List.mem_cons, List.not_mem_nil, or_false] at hu
  rcases hu with rfl | rfl | rfl <;> rfl) hn hs
 refine ⟨v', w', e1, by rw [List.flatMap_append]; simpa using e2, ?_, e3⟩; have hat : v'.ownBlock = vf.ownBlock ∨ ∃ b, v'.ownBlock = some b ∧ W.heap.size ≤ b := by
  rcases e4 with e4 | e4
  ·
   exact .inl e4
  ·
   exact .inr ⟨_, e4, Nat.le_refl _⟩
 intro q hq; have := (hg.snoc h1 h2) q hq; exact ⟨this.1, Kd.F_after (ok := fun k => W6.heap.size ≤ k) this.2 e3 hat⟩
theorem own_moved {w w1 : World} {base : Nat} {e : TypeId} {size n : Nat} {v : Value} {xs : List Value} (h : w.ownsRow base e size v n xs) (hm : ∀ k, v.ownBlock = some k → k < w.heap.size → w1.heap[k]? = w.heap[k]?) : w1.ownsRow base e size v n xs := own_move h (fun k hk => hm k hk (own_lt h k hk))
theorem faults_F {W : World} {base : Nat} {v : Value} {ps : List Fp} {ok : Nat → Prop} (ho : W.ownsRow base 65 3 v ps.length (ps.flatMap encF)) (hg : FRow W ok ps) (hok : ∀ k, v.ownBlock = some k → ok k) (hn : ps.length ≤ 1000) :
  ∃ A c, v = .slice A ps.length c ∧ ps.length ≤ c ∧ Kd.F k65 W ok A ps.length (ps.map (·.1)) := by
 obtain ⟨A, c, rfl⟩ := own_slice ho; refine ⟨A, c, rfl, own_le ho, fun W' hW => ?_⟩; have ho' := own_moved ho (fun k hk hlt => hW k (hok k hk) hlt); refine ⟨by rw [List.length_map], by omega, fun h0 => ?_⟩; obtain ⟨g, cap, hv, _, _⟩ := ho'.form h0; injection hv with hv _ _; subst hv; refine ⟨_, rfl, fun i x hx => ?_⟩; rw [List.getElem?_map] at hx; obtain ⟨p, hp, rfl⟩ := Option.map_eq_some_iff.1 hx; have hgp := hg p (List.mem_of_getElem? hp); refine ⟨encF p, rfl, k65_mk W' p.1 hgp.1 (hgp.2 W' hW), fun k u hu => ?_⟩; have hk : k < 3 := (List.getElem?_eq_some_iff.1 hu).1; have e := encFs_at ps i p hp k hk; exact ho'.cells (g := g) rfl _ u (by rw [show (k65.sz : Nat) = 3 from rfl, e]; exact hu)
end Go.Proofs.Ytnchdmidaigheaa.ND
