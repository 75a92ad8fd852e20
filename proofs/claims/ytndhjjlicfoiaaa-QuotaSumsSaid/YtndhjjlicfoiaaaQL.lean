/- The law QuotaSums: the walk by hand. -/
import Derived.Test.YtndhjjlicfoiaaaAW
import Derived.Test.YtndhjjlicfoiaaaPQ
namespace Go.Proofs.Ytndhjjlicfoiaaa.QS
set_option linter.unusedVariables false
set_option linter.unusedSimpArgs false
open Go.RowKit Go.Proofs.Ytndhjjlicfoiaaa.SS Go.Proofs.Ytndhjjlicfoiaaa.QU Go.Proofs.Ytndhjjlicfoiaaa.PQ Go.Proofs.Ytndhjjlicfoiaaa.Hp Go.Proofs.YtndhjjlicfoiaaaW.PrintWords Go.Proofs.YtndhjjlicfoiaaaW.PrintLast Go.Proofs.YtndhjjlicfoiaaaW.PrintMore
-- tabs
def sums3.T7 : Bool × List (List Nat × List Nat) := (true, [([], []), ([0], [0]), ([1], [1]), ([], []), ([], []), ([3, 4], [3, 4]), ([2, 5], [2, 5])])
def sums3.B7 : List Nat := [0, 1, 3, 0, 0, 24, 63]
theorem sums3.tab7 : rtab .any (opsOf Try.f3 7) = sums3.T7 := by kernel_rfl
theorem sums3.bits7 : waitsOk sums3.T7.2 sums3.B7 = true := by kernel_rfl
-- tabs end
theorem rsum_calls (l : List S38) (hl : lightL l) (A : Option Addr) (cp : Nat) (hcp : l.length ≤ cp) (p : Int) (W : World) (hC : Kd.C k38 W A l.length l) :
    Calls Try.prog 9 #[.slice A l.length cp, .int .i64 p] W fun e w' => e = .returned (.int .i64 (sumP p l)) ∧ Below W.heap.size W w' := by
  obtain ⟨K, hK⟩ := ev_sumF l hl p
  refine (wagtailref28_Sum.calls K A cp l p _ W hC hcp (hK K (Nat.le_refl _))).mono ?_
  rintro e w' ⟨rfl, ⟨n, rfl⟩⟩
  exact ⟨rfl, pw_below_drewN (Below.refl _ _) n⟩
theorem light_calls (l : List S38) (A : Option Addr) (cp : Nat) (hcp : l.length ≤ cp) (W : World) (hC : Kd.C k38 W A l.length l) :
    Calls Try.prog 6 #[.slice A l.length cp] W fun e w' => e = .returned (.bool (lightB l)) ∧ Below W.heap.size W w' := by
  obtain ⟨K, hK⟩ := ev_lightF l
  refine (wagtaillaw28_light.calls K A cp l _ W hC hcp (hK K (Nat.le_refl _))).mono ?_
  rintro e w' ⟨rfl, ⟨n, rfl⟩⟩
  exact ⟨rfl, pw_below_drewN (Below.refl _ _) n⟩
set_option maxHeartbeats 4000000 in
set_option maxRecDepth 100000 in
theorem sums_calls (l : List S38) (hx : ∀ x ∈ l, -9223372036854775808 ≤ x.f3) (b : Int) (A : Option Addr) (cp : Nat) (hcp : l.length ≤ cp) (w : World) (hC : Kd.C k38 w A l.length l) :
    Calls Try.prog 3 #[.slice A l.length cp, .int .i64 b] w fun e w' => e = .returned (.bool true) ∧ Below w.heap.size w w' := by
  have HLI := Aside0.mk (fun W hW => light_calls l A cp hcp W (Kd.C_below hC hW))
  have HR := Aside0.mk (And.intro hcp hC)
  have B0 := Aside0.mk (Below.refl w.heap.size w)
  have HX := Aside0.mk hx
  clear hx hcp hC
  cases hlb : lightB l with
  | false =>
    rw [hlb] at HLI
    clear hlb
    go_enter Try.func3, Try.ntmps3
    go_wp2_with (first | (go_at_call 6; refine (HLI.out _ B0.out).mono ?_; rintro e w2 ⟨rfl, hb⟩; replace B0 := Aside0.mk (below_then B0.out B0.out.size hb); clear hb) | (go_at_call 7; refine (awake_calls _).mono ?_; rintro e w2 ⟨rfl, hb⟩; replace B0 := Aside0.mk (below_then B0.out B0.out.size hb); clear hb))
    go_ret
    exact ⟨rfl, B0.out⟩
  | true =>
    have hl : lightL l := by
      unfold lightB at hlb
      simp only [Bool.and_eq_true, decide_eq_true_eq, List.all_eq_true] at hlb
      exact ⟨by omega, fun x h => ⟨HX.out x h, hlb.2 x h⟩⟩
    rw [hlb] at HLI
    have HUS := Aside0.mk (fun W hW => used_calls l hl A cp HR.out.1 W (Kd.C_below HR.out.2 hW))
    have HSP := Aside0.mk (fun p W hW => rsum_calls l hl A cp HR.out.1 p W (Kd.C_below HR.out.2 hW))
    have HSM : Aside0 (∀ W, Below w.heap.size w W → Calls Try.prog 10 #[.slice A l.length cp] W fun e w' => e = .returned (.int .i64 (useAll l)) ∧ Below W.heap.size W w') := ⟨fun W hW => quota_Sum.calls A cp l _ W (Kd.C_below HR.out.2 hW) HR.out.1 (by unfold quota_Sum.f; rw [light_pos hl]; rfl)⟩
    have HLE : Aside0 (∀ W, Below w.heap.size w W → Calls Try.prog 11 #[.slice A l.length cp, .int .i64 b] W fun e w' => e = .returned (.int .i64 (leftE l b)) ∧ Below W.heap.size W w') := ⟨fun W hW => quota_Left.calls A cp l b _ W (Kd.C_below HR.out.2 hW) HR.out.1 (left_val l hl b)⟩
    have HAW := Aside0.mk (fun W => awake_calls W)
    have HU : Aside0 (∀ p : Nat, p < 3 → sumP (p : Int) l = useOf l (p : Int)) := ⟨fun p hp => sumP_of l p (by omega)⟩
    have HSA := Aside0.mk (sumP_all l)
    clear hlb hl HX
    go_enter Try.func3, Try.ntmps3
    go_upto_region 4 with (first | (go_at_call 6; refine (HLI.out _ B0.out).mono ?_; rintro e w2 ⟨rfl, hb⟩; replace B0 := Aside0.mk (below_then B0.out B0.out.size hb); clear hb) | (go_at_call 8; refine (HUS.out _ B0.out).mono ?_; rintro e w2 ⟨rfl, hb⟩; replace B0 := Aside0.mk (below_then B0.out B0.out.size hb); clear hb))
    have hz := heap_alloc_new w2 (.cells #[.int .i64 (useOf l 0), .int .i64 (useOf l 1), .int .i64 (useOf l 2)] 25)
    have hb := below_alloc B0.out (.cells #[.int .i64 (useOf l 0), .int .i64 (useOf l 1), .int .i64 (useOf l 2)] 25)
    generalize w2.alloc (.cells #[.int .i64 (useOf l 0), .int .i64 (useOf l 1), .int .i64 (useOf l 2)] 25) = W1 at hz hb ⊢
    generalize w2.heap.size = b5 at hz ⊢
    replace hz := Aside0.mk hz
    replace hb := Aside0.mk hb
    clear B0
    go_wp2_with fail
    go_loopg [6] 4 (fun kq v6 w' => ∃ p : Nat, v6 = .int .i64 (p : Int) ∧ Aside0 (p ≤ 3 ∧ kq + p = 4) ∧ Aside0 (w'.heap[b5]? = some (.cells #[.int .i64 (useOf l 0), .int .i64 (useOf l 1), .int .i64 (useOf l 2)] 25 (0, 0))) ∧ Aside0 (Below w.heap.size w w'))
    case atStart => exact ⟨0, rfl, ⟨by omega, rfl⟩, hz, hb⟩
    case round =>
      clear hz hb
      obtain ⟨p, rfl, HP, HZ, B0⟩ := hrel
      by_cases hp : p < 3
      case pos =>
        have t1 : decide ((p : Int) < 3) = true := decide_eq_true (by omega)
        obtain ⟨up, hup⟩ : ∃ up, up = useOf l (p : Int) := ⟨_, rfl⟩
        have HX : Aside0 (#[Value.int .i64 (useOf l 0), Value.int .i64 (useOf l 1), Value.int .i64 (useOf l 2)][p]? = some (.int .i64 up)) := ⟨by
          have hp3 : p = 0 ∨ p = 1 ∨ p = 2 := by omega
          rw [hup]
          rcases hp3 with rfl | rfl | rfl <;> rfl⟩
        have HSUM : Aside0 (∀ W, Below w.heap.size w W → Calls Try.prog 9 #[.slice A l.length cp, .int .i64 (p : Int)] W fun e w' => e = .returned (.int .i64 up) ∧ Below W.heap.size W w') := ⟨fun W hW => by have := HSP.out p W hW; rwa [HU.out p hp, ← hup] at this⟩
        have HP0 := Aside0.mk (eq_true (show (0 : Int) ≤ (p : Int) by omega))
        have HP3 := Aside0.mk (eq_true (show (p : Int) < 3 by omega))
        have HPP := Aside0.mk hp
        clear hup hp
        go_upto_region 7 with fail
        replace HZ := Aside0.mk (blk_drew HZ.out)
        replace B0 := Aside0.mk (below_drew B0.out)
        -- region 7
        refine start_ (n := 7) (S := fun w' => True) (ds := []) #[false, false, false, false, false, false, false] (by kernel_rfl) rfl rfl trivial (fun hHeld => ?_)
        refine with_tabW sums3.tab7 sums3.bits7 (fun HT_ HW_ => ?_)
        generalize wr.drew = wq at B0 HZ hHeld ⊢
        refine inv_at [0, 1, 2, 3, 4, 5, 6] (fun a0_ b a w' => a = putSel a0_ b [(0, 19, .int .i64 (p : Int)), (1, 20, .pointer (some ⟨b5, p, none⟩)), (2, 21, .int .i64 up), (3, 22, .slice A l.length cp), (4, 23, .int .i64 (p : Int)), (5, 24, .int .i64 up), (6, 25, .bool false)] ∧ (Below w.heap.size w w') ∧ (w'.heap[b5]? = some (.cells #[.int .i64 (useOf l 0), .int .i64 (useOf l 1), .int .i64 (useOf l 2)] 25 (0, 0)))) HT_.out HW_.out (by kernel_rfl) (by kernel_rfl) ?_ ?_ ?_
        · exact ⟨by simp only [putSel, Bool.false_eq_true, if_false], B0.out, HZ.out⟩
        · skip
          clear B0 HZ
          refine steps_cons ?_ ?_
          · rintro b a w' ⟨ha, Q_B0, Q_HZ⟩ hb_ hon hoff
            refine ⟨_, rfl, fun K hK => ?_⟩
            have e6 : a.tmps[6]? = some (.int .i64 (p : Int)) := by rw [ha]; exact (putSel_off rfl).trans rfl
            replace ha := Aside0.mk ha
            have B0 := Aside0.mk Q_B0
            have HZ := Aside0.mk Q_HZ
            refine value_ (w1 := w') (v := .int .i64 (p : Int)) (by rfl) rfl ?_ ?_
            · go_simp
              (try simp only [i64_w])
              try rfl
            refine hK.out _ _ ⟨(by rw [ha.out]; exact putSel_upk 0 hb_ rfl rfl rfl), Q_B0, Q_HZ⟩
          refine steps_cons ?_ ?_
          · rintro b a w' ⟨ha, Q_B0, Q_HZ⟩ hb_ hon hoff
            refine ⟨_, rfl, fun K hK => ?_⟩
            have e5 : a.tmps[5]? = some (.pointer (some ⟨b5, 0, none⟩)) := by rw [ha]; exact (putSel_off rfl).trans rfl
            have e19 : a.tmps[19]? = some (.int .i64 (p : Int)) := by rw [ha]; exact putSel_on (e := (0, 19, .int .i64 (p : Int))) 0 rfl rfl (hon 0 (by kernel_rfl)) rfl
            replace ha := Aside0.mk ha
            have B0 := Aside0.mk Q_B0
            have HZ := Aside0.mk Q_HZ
            have p_ := HP0.out
            have q_ := HP3.out
            refine value_ (w1 := w') (v := .pointer (some ⟨b5, p, none⟩)) (by rfl) rfl ?_ ?_
            · go_simp
              (try simp only [i64_w])
              try rfl
            refine hK.out _ _ ⟨(by rw [ha.out]; exact putSel_upk 1 hb_ rfl rfl rfl), Q_B0, Q_HZ⟩
          refine steps_cons ?_ ?_
          · rintro b a w' ⟨ha, Q_B0, Q_HZ⟩ hb_ hon hoff
            refine ⟨_, rfl, fun K hK => ?_⟩
            have e20 : a.tmps[20]? = some (.pointer (some ⟨b5, p, none⟩)) := by rw [ha]; exact putSel_on (e := (1, 20, .pointer (some ⟨b5, p, none⟩))) 1 rfl rfl (hon 1 (by kernel_rfl)) rfl
            replace ha := Aside0.mk ha
            have B0 := Aside0.mk Q_B0
            have HZ := Aside0.mk Q_HZ
            have c_ := (blk_cell HZ.out p).trans HX.out
            refine value_ (w1 := w') (v := .int .i64 up) (by rfl) rfl ?_ ?_
            · go_simp
              (try simp only [i64_w])
              try rfl
            refine hK.out _ _ ⟨(by rw [ha.out]; exact putSel_upk 2 hb_ rfl rfl rfl), Q_B0, Q_HZ⟩
          refine steps_cons ?_ ?_
          · rintro b a w' ⟨ha, Q_B0, Q_HZ⟩ hb_ hon hoff
            refine ⟨_, rfl, fun K hK => ?_⟩
            have e0 : a.tmps[0]? = some (.slice A l.length cp) := by rw [ha]; exact (putSel_off rfl).trans rfl
            replace ha := Aside0.mk ha
            have B0 := Aside0.mk Q_B0
            have HZ := Aside0.mk Q_HZ
            refine value_ (w1 := w') (v := .slice A l.length cp) (by rfl) rfl ?_ ?_
            · go_simp
              (try simp only [i64_w])
              try rfl
            refine hK.out _ _ ⟨(by rw [ha.out]; exact putSel_upk 3 hb_ rfl rfl rfl), Q_B0, Q_HZ⟩
          refine steps_cons ?_ ?_
          · rintro b a w' ⟨ha, Q_B0, Q_HZ⟩ hb_ hon hoff
            refine ⟨_, rfl, fun K hK => ?_⟩
            have e6 : a.tmps[6]? = some (.int .i64 (p : Int)) := by rw [ha]; exact (putSel_off rfl).trans rfl
            replace ha := Aside0.mk ha
            have B0 := Aside0.mk Q_B0
            have HZ := Aside0.mk Q_HZ
            refine value_ (w1 := w') (v := .int .i64 (p : Int)) (by rfl) rfl ?_ ?_
            · go_simp
              (try simp only [i64_w])
              try rfl
            refine hK.out _ _ ⟨(by rw [ha.out]; exact putSel_upk 4 hb_ rfl rfl rfl), Q_B0, Q_HZ⟩
          refine steps_cons ?_ ?_
          · rintro b a w' ⟨ha, Q_B0, Q_HZ⟩ hb_ hon hoff
            refine ⟨_, rfl, fun K hK => ?_⟩
            have e22 : a.tmps[22]? = some (.slice A l.length cp) := by rw [ha]; exact putSel_on (e := (3, 22, .slice A l.length cp)) 3 rfl rfl (hon 3 (by kernel_rfl)) rfl
            have e23 : a.tmps[23]? = some (.int .i64 (p : Int)) := by rw [ha]; exact putSel_on (e := (4, 23, .int .i64 (p : Int))) 4 rfl rfl (hon 4 (by kernel_rfl)) rfl
            replace ha := Aside0.mk ha
            have B0 := Aside0.mk Q_B0
            have HZ := Aside0.mk Q_HZ
            refine goes_ Try.func9 (by kernel_rfl) rfl #[.slice A l.length cp, .int .i64 (p : Int)] (by rfl) rfl rfl (by first | (simp only [List.map_toArray, List.map_cons, List.map_nil, Act.eval, Array.getD_eq_getD_getElem?, Option.getD_some, e22, e23]; done) | (simp only [List.map_toArray, List.map_cons, List.map_nil, Act.eval, Array.getD_eq_getD_getElem?, Option.getD_some, e22, e23]; rfl)) ?_
            with_reducible refine (HSUM.out _ B0.out).mono ?_
            rintro e w2 ⟨rfl, hb⟩
            refine ⟨_, rfl, ?_⟩
            refine hK.out _ _ ⟨(by rw [ha.out]; exact putSel_upk 5 hb_ rfl rfl rfl), below_then B0.out B0.out.size hb, blk_below HZ.out hb⟩
          refine steps_cons ?_ ?_
          · rintro b a w' ⟨ha, Q_B0, Q_HZ⟩ hb_ hon hoff
            refine ⟨_, rfl, fun K hK => ?_⟩
            have e21 : a.tmps[21]? = some (.int .i64 up) := by rw [ha]; exact putSel_on (e := (2, 21, .int .i64 up)) 2 rfl rfl (hon 2 (by kernel_rfl)) rfl
            have e24 : a.tmps[24]? = some (.int .i64 up) := by rw [ha]; exact putSel_on (e := (5, 24, .int .i64 up)) 5 rfl rfl (hon 5 (by kernel_rfl)) rfl
            replace ha := Aside0.mk ha
            have B0 := Aside0.mk Q_B0
            have HZ := Aside0.mk Q_HZ
            refine value_ (w1 := w') (v := .bool false) (by rfl) rfl ?_ ?_
            · go_simp
              (try simp only [i64_w])
              try rfl
            refine hK.out _ _ ⟨(by rw [ha.out]; exact putSel_upk 6 hb_ rfl rfl rfl), Q_B0, Q_HZ⟩
          exact steps_nil
        rintro b a wl hall ⟨ha, Q_B0, Q_HZ⟩
        clear B0 HZ
        have hb0_ := hall 0 (by kernel_rfl)
        have hb1_ := hall 1 (by kernel_rfl)
        have hb2_ := hall 2 (by kernel_rfl)
        have hb3_ := hall 3 (by kernel_rfl)
        have hb4_ := hall 4 (by kernel_rfl)
        have hb5_ := hall 5 (by kernel_rfl)
        have hb6_ := hall 6 (by kernel_rfl)
        subst ha
        simp only [putSel, hb0_, hb1_, hb2_, hb3_, hb4_, hb5_, hb6_, if_true, Act.put, List.setIfInBounds_toArray, List.set_cons_zero, List.set_cons_succ]
        have B0 := Aside0.mk Q_B0
        clear Q_B0
        have HZ := Aside0.mk Q_HZ
        clear Q_HZ
        clear hall hb0_ hb1_ hb2_ hb3_ hb4_ hb5_ hb6_
        -- region 7 end
        go_wp2_with fail
        go_roundg (3 - p)
        case measure => have := HP.out; have := HPP.out; omega
        case rel => exact ⟨p + 1, by first | rfl | (simp; unfold wrap64; have := HPP.out; omega), ⟨by have := HPP.out; omega, by have := HP.out; have := HPP.out; omega⟩, HZ, B0⟩
      case neg =>
        have hp3 : p = 3 := by have := HP.out; omega
        subst hp3
        clear hp
        have HSM1 : Aside0 (∀ W, Below w.heap.size w W → Calls Try.prog 9 #[.slice A l.length cp, .int .i64 (-1)] W fun e w' => e = .returned (.int .i64 (useAll l)) ∧ Below W.heap.size W w') := ⟨fun W hW => by have := HSP.out (-1) W hW; rwa [HSA.out] at this⟩
        have t2 : ∀ x : Int, (x == x) = true := fun x => beq_self_eq_true x
        by_cases hbu : b > useAll l
        case pos =>
          have t1 : decide (b > useAll l) = true := decide_eq_true hbu
          have hle : leftE l b = wrap64 (b - useAll l) := if_neg (by omega)
          rw [hle] at HLE
          clear hle hbu
          go_wp2_with (first | (go_at_call 9; (with_reducible refine (HSM1.out _ B0.out).mono ?_); rintro e w2 ⟨rfl, hb⟩; replace B0 := Aside0.mk (below_then B0.out B0.out.size hb); clear hb) | (go_at_call 7; (with_reducible refine (HAW.out _).mono ?_); rintro e w2 ⟨rfl, hb⟩; replace B0 := Aside0.mk (below_then B0.out B0.out.size hb); clear hb) | (go_at_call 10; (with_reducible refine (HSM.out _ B0.out).mono ?_); rintro e w2 ⟨rfl, hb⟩; replace B0 := Aside0.mk (below_then B0.out B0.out.size hb); clear hb) | (go_at_call 11; (with_reducible refine (HLE.out _ B0.out).mono ?_); rintro e w2 ⟨rfl, hb⟩; replace B0 := Aside0.mk (below_then B0.out B0.out.size hb); clear hb))
          go_ret
          exact ⟨by first | rfl | (simp; done) | (simp [t2]), B0.out⟩
        case neg =>
          have t1 : decide (b > useAll l) = false := decide_eq_false hbu
          have hle : leftE l b = 0 := if_pos (by omega)
          rw [hle] at HLE
          clear hle hbu
          go_wp2_with (first | (go_at_call 9; (with_reducible refine (HSM1.out _ B0.out).mono ?_); rintro e w2 ⟨rfl, hb⟩; replace B0 := Aside0.mk (below_then B0.out B0.out.size hb); clear hb) | (go_at_call 7; (with_reducible refine (HAW.out _).mono ?_); rintro e w2 ⟨rfl, hb⟩; replace B0 := Aside0.mk (below_then B0.out B0.out.size hb); clear hb) | (go_at_call 10; (with_reducible refine (HSM.out _ B0.out).mono ?_); rintro e w2 ⟨rfl, hb⟩; replace B0 := Aside0.mk (below_then B0.out B0.out.size hb); clear hb) | (go_at_call 11; (with_reducible refine (HLE.out _ B0.out).mono ?_); rintro e w2 ⟨rfl, hb⟩; replace B0 := Aside0.mk (below_then B0.out B0.out.size hb); clear hb))
          go_ret
          exact ⟨by first | rfl | (simp; done) | (simp [t2]), B0.out⟩
end Go.Proofs.Ytndhjjlicfoiaaa.QS
