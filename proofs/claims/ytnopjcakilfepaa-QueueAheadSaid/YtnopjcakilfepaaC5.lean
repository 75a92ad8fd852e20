import Derived.Test.YtnopjcakilfepaaC4
import Derived.Test.YtnopjcakilfepaaHp3
import Derived.Test.YtnopjcakilfepaaHp3
namespace Go.Proofs.Ytnopjcakilfepaa.QS
set_option linter.unusedVariables false
set_option linter.unusedSimpArgs false
open Go.RowKit Go.Proofs.Ytnopjcakilfepaa.SS Go.Proofs.Ytnopjcakilfepaa.Hp Go.Proofs.YtnopjcakilfepaaW.PrintWords Go.Proofs.YtnopjcakilfepaaW.PrintLast Go.Proofs.YtnopjcakilfepaaW.PrintMore
def rorder.T7 : Bool × List (List Nat × List Nat) := (true, [([], []), ([], []), ([1], [1]), ([0, 2], [0, 2]), ([3], [3]), ([4], [4]), ([4], [4]), ([5, 6, 4], [4, 5, 6]), ([7, 4], [4, 7]), ([4], [4]), ([4], [4]), ([9, 10, 4], [4, 9, 10]), ([11, 4], [4, 11]), ([8, 12, 4, 4], [4, 8, 12]), ([13, 4], [4, 13]), ([4, 14], [4, 14])])
def rorder.B7 : List Nat := [0, 0, 2, 7, 15, 31, 31, 127, 255, 31, 31, 1567, 3615, 8191, 16383, 32767]
theorem rorder.tab7 : rtab .any (opsOf Try.f14 7) = rorder.T7 := by kernel_rfl
theorem rorder.bits7 : waitsOk rorder.T7.2 rorder.B7 = true := by kernel_rfl
theorem heap_rec : Kd.Heap k29 := Kd.heap_iso _ (Kd.heap_pair (Kd.heap_int _) (Kd.heap_pair (Kd.heap_int _) (Kd.heap_pair (Kd.heap_int _) (Kd.heap_pair (Kd.heap_int _) (Kd.heap_pair (Kd.heap_int _) (Kd.heap_pair Kd.heap_bool (Kd.heap_pair (Kd.heap_int _) (Kd.heap_slice _ (Kd.heap_int _)))))))))
def At (W : World) (ad : Addr) (x : R0) (A : Option Addr) (c : Nat) : Prop :=
  W.cell? ad = some (.int .u64 x.f0) ∧ W.cell? ⟨ad.block, ad.off + 1, none⟩ = some (.int .u64 x.f1) ∧ W.cell? ⟨ad.block, ad.off + 2, none⟩ = some (.int .i64 x.f2) ∧ W.cell? ⟨ad.block, ad.off + 3, none⟩ = some (.int .i64 x.f3) ∧
  W.cell? ⟨ad.block, ad.off + 4, none⟩ = some (.int .u64 x.f4) ∧ W.cell? ⟨ad.block, ad.off + 5, none⟩ = some (.bool x.f5) ∧ W.cell? ⟨ad.block, ad.off + 6, none⟩ = some (.int .i64 x.f6) ∧ W.cell? ⟨ad.block, ad.off + 7, none⟩ = some (.slice A x.f7.length c)
theorem At.below {W W' : World} {ad : Addr} {x : R0} {A : Option Addr} {c : Nat} (h : At W ad x A c) (hb : Below W.heap.size W W') : At W' ad x A c :=
  ⟨pw_cell_below hb h.1, pw_cell_below hb h.2.1, pw_cell_below hb h.2.2.1, pw_cell_below hb h.2.2.2.1, pw_cell_below hb h.2.2.2.2.1, pw_cell_below hb h.2.2.2.2.2.1, pw_cell_below hb h.2.2.2.2.2.2.1, pw_cell_below hb h.2.2.2.2.2.2.2⟩
def Pg (W : World) (x : R0) (A : Option Addr) (c : Nat) : Prop := x.f7.length ≤ c ∧ Kd.C (Kd.int .i64) W A x.f7.length x.f7
theorem Pg.below {W W' : World} {x : R0} {A : Option Addr} {c : Nat} (h : Pg W x A c) (hb : Below W.heap.size W W') : Pg W' x A c := ⟨h.1, Kd.C_below h.2 hb⟩
theorem at_nat {W : World} {A : Option Addr} {l : List R0} (h : Kd.C k29 W A l.length l) (i : Nat) (hi : i < l.length) : ∃ ad Ax cx, A = some ad ∧ At W (ad.add (i * 8)) l[i] Ax cx ∧ Pg W l[i] Ax cx := by
  obtain ⟨ad, Ap, cpp, rfl, hx0, hx1, hx2, hx3, hx4, hx5, hx6, hx7, hlp, hCp⟩ := at_T29 h (i : Int) (by omega) (by omega)
  have hrd : rd_T29 l (i : Int) = l[i] := by
    unfold rd_T29
    rw [Int.toNat_natCast, List.getD_eq_getElem?_getD, List.getElem?_eq_getElem hi]
    rfl
  rw [hrd] at hx0 hx1 hx2 hx3 hx4 hx5 hx6 hx7 hlp hCp
  rw [Int.toNat_natCast] at hx0 hx1 hx2 hx3 hx4 hx5 hx6 hx7
  exact ⟨ad, Ap, cpp, rfl, ⟨hx0, hx1, hx2, hx3, hx4, hx5, hx6, hx7⟩, ⟨hlp, hCp⟩⟩
theorem less_calls (x y : R0) (Ax : Option Addr) (cx : Nat) (Ay : Option Addr) (cy : Nat) (W : World) (hx : Pg W x Ax cx) (hy : Pg W y Ay cy) :
    Calls Try.prog 21 #[.agg #[.int .u64 x.f0, .int .u64 x.f1, .int .i64 x.f2, .int .i64 x.f3, .int .u64 x.f4, .bool x.f5, .int .i64 x.f6, .slice Ax x.f7.length cx], .agg #[.int .u64 y.f0, .int .u64 y.f1, .int .i64 y.f2, .int .i64 y.f3, .int .u64 y.f4, .bool y.f5, .int .i64 y.f6, .slice Ay y.f7.length cy]] W fun e w' => e = .returned (.bool (ltS x y)) ∧ Below W.heap.size W w' :=
  wagtailref30_Less.calls x.f0 x.f1 x.f2 x.f3 x.f4 x.f5 x.f6 Ax cx x.f7 y.f0 y.f1 y.f2 y.f3 y.f4 y.f5 y.f6 Ay cy y.f7 _ W hx.2 hx.1 hy.2 hy.1 (by
    unfold wagtailref30_Less.f ltS
    by_cases h : x.f2 = y.f2
    · first | rw [if_pos h] | (rw [if_neg (by simpa using h)])
      congr 2
      apply propext
      omega
    · first | rw [if_neg h] | (rw [if_pos (by simpa using h)])
      congr 2
      apply propext
      omega)
theorem ahead_calls (x y : R0) (Ax : Option Addr) (cx : Nat) (Ay : Option Addr) (cy : Nat) (W : World) (hx : Pg W x Ax cx) (hy : Pg W y Ay cy) :
    Calls Try.prog 18 #[.agg #[.int .u64 x.f0, .int .u64 x.f1, .int .i64 x.f2, .int .i64 x.f3, .int .u64 x.f4, .bool x.f5, .int .i64 x.f6, .slice Ax x.f7.length cx], .agg #[.int .u64 y.f0, .int .u64 y.f1, .int .i64 y.f2, .int .i64 y.f3, .int .u64 y.f4, .bool y.f5, .int .i64 y.f6, .slice Ay y.f7.length cy]] W fun e w' => e = .returned (.bool (ltS x y)) ∧ Below W.heap.size W w' :=
  queue_Ahead.calls x.f0 x.f1 x.f2 x.f3 x.f4 x.f5 x.f6 Ax cx x.f7 y.f0 y.f1 y.f2 y.f3 y.f4 y.f5 y.f6 Ay cy y.f7 _ W hx.2 hx.1 hy.2 hy.1 (by
    unfold queue_Ahead.f ltS
    by_cases h : x.f2 > y.f2
    · rw [if_pos h]
      congr 1
      exact (decide_eq_true (.inl h)).symm
    · rw [if_neg h]
      by_cases h2 : x.f2 = y.f2
      · rw [if_pos h2]
        congr 2
        apply propext
        omega
      · rw [if_neg h2]
        congr 1
        exact (decide_eq_false (by omega)).symm)
theorem put_at {lt : R0 → R0 → Bool} (x : R0) : ∀ (o : List R0) (k : Nat), k ≤ o.length → (∀ j (h : j < o.length), j < k → lt x o[j] = false) → (∀ h : k < o.length, lt x o[k] = true) → put lt x o = o.take k ++ x :: o.drop k
  | [], k, hk, h1, h2 => by
    obtain rfl : k = 0 := by simpa using hk
    rfl
  | y :: r, 0, hk, h1, h2 => by
    have := h2 (by simp)
    simp only [List.getElem_cons_zero] at this
    simp [put, this]
  | y :: r, k + 1, hk, h1, h2 => by
    have h0 := h1 0 (by simp) (by omega)
    simp only [List.getElem_cons_zero] at h0
    have ih := put_at (lt := lt) x r k (by simpa using hk) (fun j h hj => by have := h1 (j + 1) (by simpa using h) (by omega); simpa using this) (fun h => by have := h2 (by simpa using h); simpa using this)
    simp [put, h0, ih]
def Rdl (W : World) (v : Value) (l : List R0) : Prop := ∃ A c, v = .slice A l.length c ∧ l.length ≤ c ∧ Kd.C k29 W A l.length l
theorem Rdl.below {W W' : World} {v : Value} {l : List R0} (h : Rdl W v l) (hb : Below W.heap.size W W') : Rdl W' v l := by
  obtain ⟨A, c, h1, h2, h3⟩ := h
  exact ⟨A, c, h1, h2, Kd.C_below h3 hb⟩
theorem waits_snoc (l : List R0) (i : Nat) (hi : i < l.length) : waits (l.take (i + 1)) = waits (l.take i) ++ (if l[i].f5 = true then [] else [l[i]]) := by
  unfold waits
  rw [List.take_add_one, List.getElem?_eq_getElem hi, List.filter_append]
  by_cases h : l[i].f5 = true
  · rw [if_pos h]; simp [h]
  · rw [if_neg h]; simp [h]
set_option maxHeartbeats 8000000 in
set_option maxRecDepth 100000 in
theorem rorder_calls (l : List R0) (hl : l.length ≤ 1000) (A : Option Addr) (cp : Nat) (hcp : l.length ≤ cp) (w : World) (hC : Kd.C k29 w A l.length l) :
    Calls Try.prog 14 #[.slice A l.length cp] w fun e w' => ∃ v, e = .returned v ∧ Rdl w' v (orderOf l) ∧ Below w.heap.size w w' := by
  have HR := Aside0.mk hC
  have HN := Aside0.mk hl
  clear hC hl hcp
  go_enter Try.func14, Try.ntmps14
  go_wp2_with fail
  go_loopg [3, 4] (l.length + 1) (fun kq v3 v4 w' => ∃ i : Nat, v4 = .int .i64 (i : Int) ∧ Aside0 (i ≤ l.length ∧ kq + i = l.length + 1) ∧ Aside0 (Rdl w' v3 (orderOf (l.take i))) ∧ Aside0 (Below w.heap.size w w'))
  case atStart => exact ⟨0, rfl, ⟨Nat.zero_le _, rfl⟩, ⟨none, 0, rfl, Nat.le_refl _, Kd.C_nil _ _⟩, ⟨Below.refl _ _⟩⟩
  case round =>
    obtain ⟨i, rfl, HI, HO, BB⟩ := hrel
    by_cases hi : i < l.length
    case neg =>
      have hie : i = l.length := by have := HI.out; omega
      subst hie
      have t1 : decide ((l.length : Int) < (l.length : Int)) = false := decide_eq_false (by omega)
      have ho := HO.out
      rw [List.take_length] at ho
      replace ho := Aside0.mk ho
      clear HO hi
      go_wp2_with fail
      go_ret
      exact ⟨_, rfl, ho.out, BB.out⟩
    case pos =>
      have t1 : decide ((i : Int) < (l.length : Int)) = true := decide_eq_true (by omega)
      have t2 : decide (i < l.length) = true := decide_eq_true hi
      obtain ⟨ad, Ax, cx, rfl, hAt, hPg⟩ := at_nat (Kd.C_below HR.out BB.out) i hi
      have hws := waits_snoc l i hi
      obtain ⟨x, hxe⟩ : ∃ x, x = l[i] := ⟨_, rfl⟩
      rw [← hxe] at hAt hPg hws
      have HX := Aside0.mk hAt
      have HPX := Aside0.mk hPg
      have HWS := Aside0.mk hws
      have HP1 := Aside0.mk (eq_true (show (0 : Int) ≤ (i : Int) by omega))
      have HQ1 := Aside0.mk (eq_true (show (i : Int) < (l.length : Int) by omega))
      have HI2 := Aside0.mk hi
      have HWI : IntKind.i64.wrap ((i : Int) + 1) = ((i + 1 : Nat) : Int) := by rw [i64_w]; unfold wrap64; have := HN.out; omega
      have p1 := HP1.out
      have q1 := HQ1.out
      clear hPg hws hxe hi
      obtain ⟨x0, x1, x2, x3, x4, x5, x6, x7⟩ := hAt
      cases hpl : x.f5 with
      | true =>
        rw [hpl] at x5
        have hfl : orderOf (l.take (i + 1)) = orderOf (l.take i) := by unfold orderOf; rw [HWS.out, if_pos hpl, List.append_nil]
        replace hfl := Aside0.mk hfl
        clear hpl
        go_wp2_with fail
        go_roundg (l.length - i)
        case measure => have := HI.out; have := HI2.out; omega
        case rel => exact ⟨i + 1, by first | rfl | (rw [← i64_w, HWI]) | (simp; unfold wrap64; have := HI2.out; have := HN.out; omega), ⟨by have := HI2.out; omega, by have := HI.out; have := HI2.out; omega⟩, ⟨by rw [hfl.out]; exact HO.out⟩, BB⟩
      | false =>
        rw [hpl] at x5
        have hfl : orderOf (l.take (i + 1)) = put ltS x (orderOf (l.take i)) := by unfold orderOf; rw [HWS.out, if_neg (by rw [hpl]; decide), ssort_snoc]
        replace hfl := Aside0.mk hfl
        obtain ⟨Ao, co, hv3, hco, hCo⟩ := HO.out
        obtain ⟨o, hoe⟩ : ∃ o, o = orderOf (l.take i) := ⟨_, rfl⟩
        have hol : o.length ≤ 1000 := by have h1 := order_len (l.take i); have h2 := HN.out; rw [List.length_take] at h1; rw [hoe]; omega
        rw [← hoe] at hv3 hco hCo hfl
        subst hv3
        have HCO := Aside0.mk (And.intro hco (And.intro hCo hol))
        have HE := Aside0.mk hoe
        clear hoe hol hco hCo HO hpl
        obtain ⟨wo, hwo⟩ : ∃ wo : World, wo = wr := ⟨_, rfl⟩
        rw [← hwo] at HX HPX HCO BB
        have hbw : Below wo.heap.size wo wr := by rw [hwo]; exact Below.refl _ _
        go_upto_region 6 with fail
        clear x0 x1 x2 x3 x4 x5 x6 x7 p1 q1 t1 t2
        replace hbw := Aside0.mk hbw
        go_wp2_with fail
        go_loopg [5] (o.length + 1) (fun kq v5 w' => ∃ k : Nat, v5 = .int .i64 (k : Int) ∧ Aside0 (k ≤ o.length ∧ kq + k = o.length + 1) ∧ Aside0 (∀ j (h : j < o.length), j < k → ltS x o[j] = false) ∧ Aside0 (Below wo.heap.size wo w'))
        case atStart => exact ⟨0, rfl, ⟨Nat.zero_le _, rfl⟩, ⟨fun j h hj => absurd hj (by omega)⟩, hbw⟩
        case round =>
          clear hbw hwo
          obtain ⟨k, rfl, HK, HB4, B0⟩ := hrel
          by_cases hk : k < o.length
          case neg =>
            have hke : k = o.length := by have := HK.out; omega
            have HPT := Aside0.mk (put_at (lt := ltS) x o k HK.out.1 HB4.out (fun h => absurd h hk))
            have t1 : decide ((k : Int) < (o.length : Int)) = false := decide_eq_false (by omega)
            have t2 : decide (k < o.length) = false := decide_eq_false (by omega)
            clear hk hke
            go_upto_region 7 with fail
            replace B0 := Aside0.mk (below_drew B0.out)
            refine start_ (n := 16) (S := fun w' => True) (ds := []) #[false, false, false, false, false, false, false, false, false, false, false, false, false, false, false, false] (by kernel_rfl) rfl rfl trivial (fun hHeld => ?_)
            refine with_tabW rorder.tab7 rorder.bits7 (fun HT_ HW_ => ?_)
            generalize wr.drew = wq at B0 hHeld ⊢
            refine inv_at [0, 1, 2, 3, 4, 5, 6, 7, 8, 9, 10, 11, 12, 13, 14, 15] (fun a0_ b a w' => a = putSel a0_ b [(0, 18, .int .i64 (k : Int)), (1, 19, .slice Ao o.length co), (2, 20, .int .i64 (o.length : Int)), (3, 21, .bool false), (4, 22, .bool false), (5, 23, undef), (6, 24, undef), (7, 25, undef), (8, 26, undef), (9, 27, undef), (10, 28, undef), (11, 29, undef), (12, 30, undef), (13, 31, undef), (14, 32, undef), (15, 33, .bool false)] ∧ (Below wo.heap.size wo w')) HT_.out HW_.out (by kernel_rfl) (by kernel_rfl) ?_ ?_ ?_
            · exact ⟨by simp only [putSel, Bool.false_eq_true, if_false], B0.out⟩
            · skip
              clear B0
              refine steps_cons ?_ ?_
              · rintro b a w' ⟨ha, Q_B0⟩ hb_ hon hoff
                refine ⟨_, rfl, fun K hK => ?_⟩
                have e5 : a.tmps[5]? = some (.int .i64 (k : Int)) := by rw [ha]; exact (putSel_off rfl).trans rfl
                replace ha := Aside0.mk ha
                have B0 := Aside0.mk Q_B0
                refine value_ (w1 := w') (v := .int .i64 (k : Int)) (by rfl) rfl ?_ ?_
                · go_simp
                  (try simp only [i64_w])
                  try rfl
                refine hK.out _ _ ⟨(by rw [ha.out]; exact putSel_upk 0 hb_ rfl rfl rfl), Q_B0⟩
              refine steps_cons ?_ ?_
              · rintro b a w' ⟨ha, Q_B0⟩ hb_ hon hoff
                refine ⟨_, rfl, fun K hK => ?_⟩
                have e3 : a.tmps[3]? = some (.slice Ao o.length co) := by rw [ha]; exact (putSel_off rfl).trans rfl
                replace ha := Aside0.mk ha
                have B0 := Aside0.mk Q_B0
                refine value_ (w1 := w') (v := .slice Ao o.length co) (by rfl) rfl ?_ ?_
                · go_simp
                  (try simp only [i64_w])
                  try rfl
                refine hK.out _ _ ⟨(by rw [ha.out]; exact putSel_upk 1 hb_ rfl rfl rfl), Q_B0⟩
              refine steps_cons ?_ ?_
              · rintro b a w' ⟨ha, Q_B0⟩ hb_ hon hoff
                refine ⟨_, rfl, fun K hK => ?_⟩
                have e19 : a.tmps[19]? = some (.slice Ao o.length co) := by rw [ha]; exact putSel_on (e := (1, 19, .slice Ao o.length co)) 1 rfl rfl (hon 1 (by kernel_rfl)) rfl
                replace ha := Aside0.mk ha
                have B0 := Aside0.mk Q_B0
                refine value_ (w1 := w') (v := .int .i64 (o.length : Int)) (by rfl) rfl ?_ ?_
                · go_simp
                  (try simp only [i64_w])
                  try rfl
                refine hK.out _ _ ⟨(by rw [ha.out]; exact putSel_upk 2 hb_ rfl rfl rfl), Q_B0⟩
              refine steps_cons ?_ ?_
              · rintro b a w' ⟨ha, Q_B0⟩ hb_ hon hoff
                refine ⟨_, rfl, fun K hK => ?_⟩
                have e18 : a.tmps[18]? = some (.int .i64 (k : Int)) := by rw [ha]; exact putSel_on (e := (0, 18, .int .i64 (k : Int))) 0 rfl rfl (hon 0 (by kernel_rfl)) rfl
                have e20 : a.tmps[20]? = some (.int .i64 (o.length : Int)) := by rw [ha]; exact putSel_on (e := (2, 20, .int .i64 (o.length : Int))) 2 rfl rfl (hon 2 (by kernel_rfl)) rfl
                replace ha := Aside0.mk ha
                have B0 := Aside0.mk Q_B0
                refine value_ (w1 := w') (v := .bool false) (by rfl) rfl ?_ ?_
                · go_simp
                  (try simp only [i64_w])
                  try rfl
                refine hK.out _ _ ⟨(by rw [ha.out]; exact putSel_upk 3 hb_ rfl rfl rfl), Q_B0⟩
              refine steps_cons ?_ ?_
              · rintro b a w' ⟨ha, Q_B0⟩ hb_ hon hoff
                refine ⟨_, rfl, fun K hK => ?_⟩
                have e21 : a.tmps[21]? = some (.bool false) := by rw [ha]; exact putSel_on (e := (3, 21, .bool false)) 3 rfl rfl (hon 3 (by kernel_rfl)) rfl
                replace ha := Aside0.mk ha
                have B0 := Aside0.mk Q_B0
                refine value_ (w1 := w') (v := .bool false) (by rfl) rfl ?_ ?_
                · go_simp
                  (try simp only [i64_w])
                  try rfl
                refine hK.out _ _ ⟨(by rw [ha.out]; exact putSel_upk 4 hb_ rfl rfl rfl), Q_B0⟩
              refine steps_cons ?_ ?_
              · rintro b a w' ⟨ha, Q_B0⟩ hb_ hon hoff
                refine ⟨_, rfl, fun K hK => ?_⟩
                have e22 : a.tmps[22]? = some (.bool false) := by rw [ha]; exact putSel_on (e := (4, 22, .bool false)) 4 rfl rfl (hon 4 (by kernel_rfl)) rfl
                replace ha := Aside0.mk ha
                have B0 := Aside0.mk Q_B0
                refine off_ (wanted_off rfl rfl rfl (e22.trans (by first | rfl | (simp [*]; done)))) ?_
                refine hK.out _ _ ⟨(by rw [ha.out]; exact putSel_upk 5 hb_ rfl rfl rfl), Q_B0⟩
              refine steps_cons ?_ ?_
              · rintro b a w' ⟨ha, Q_B0⟩ hb_ hon hoff
                refine ⟨_, rfl, fun K hK => ?_⟩
                have e22 : a.tmps[22]? = some (.bool false) := by rw [ha]; exact putSel_on (e := (4, 22, .bool false)) 4 rfl rfl (hon 4 (by kernel_rfl)) rfl
                replace ha := Aside0.mk ha
                have B0 := Aside0.mk Q_B0
                refine off_ (wanted_off rfl rfl rfl (e22.trans (by first | rfl | (simp [*]; done)))) ?_
                refine hK.out _ _ ⟨(by rw [ha.out]; exact putSel_upk 6 hb_ rfl rfl rfl), Q_B0⟩
              refine steps_cons ?_ ?_
              · rintro b a w' ⟨ha, Q_B0⟩ hb_ hon hoff
                refine ⟨_, rfl, fun K hK => ?_⟩
                have e22 : a.tmps[22]? = some (.bool false) := by rw [ha]; exact putSel_on (e := (4, 22, .bool false)) 4 rfl rfl (hon 4 (by kernel_rfl)) rfl
                replace ha := Aside0.mk ha
                have B0 := Aside0.mk Q_B0
                refine off_ (wanted_off rfl rfl rfl (e22.trans (by first | rfl | (simp [*]; done)))) ?_
                refine hK.out _ _ ⟨(by rw [ha.out]; exact putSel_upk 7 hb_ rfl rfl rfl), Q_B0⟩
              refine steps_cons ?_ ?_
              · rintro b a w' ⟨ha, Q_B0⟩ hb_ hon hoff
                refine ⟨_, rfl, fun K hK => ?_⟩
                have e22 : a.tmps[22]? = some (.bool false) := by rw [ha]; exact putSel_on (e := (4, 22, .bool false)) 4 rfl rfl (hon 4 (by kernel_rfl)) rfl
                replace ha := Aside0.mk ha
                have B0 := Aside0.mk Q_B0
                refine off_ (wanted_off rfl rfl rfl (e22.trans (by first | rfl | (simp [*]; done)))) ?_
                refine hK.out _ _ ⟨(by rw [ha.out]; exact putSel_upk 8 hb_ rfl rfl rfl), Q_B0⟩
              refine steps_cons ?_ ?_
              · rintro b a w' ⟨ha, Q_B0⟩ hb_ hon hoff
                refine ⟨_, rfl, fun K hK => ?_⟩
                have e22 : a.tmps[22]? = some (.bool false) := by rw [ha]; exact putSel_on (e := (4, 22, .bool false)) 4 rfl rfl (hon 4 (by kernel_rfl)) rfl
                replace ha := Aside0.mk ha
                have B0 := Aside0.mk Q_B0
                refine off_ (wanted_off rfl rfl rfl (e22.trans (by first | rfl | (simp [*]; done)))) ?_
                refine hK.out _ _ ⟨(by rw [ha.out]; exact putSel_upk 9 hb_ rfl rfl rfl), Q_B0⟩
              refine steps_cons ?_ ?_
              · rintro b a w' ⟨ha, Q_B0⟩ hb_ hon hoff
                refine ⟨_, rfl, fun K hK => ?_⟩
                have e22 : a.tmps[22]? = some (.bool false) := by rw [ha]; exact putSel_on (e := (4, 22, .bool false)) 4 rfl rfl (hon 4 (by kernel_rfl)) rfl
                replace ha := Aside0.mk ha
                have B0 := Aside0.mk Q_B0
                refine off_ (wanted_off rfl rfl rfl (e22.trans (by first | rfl | (simp [*]; done)))) ?_
                refine hK.out _ _ ⟨(by rw [ha.out]; exact putSel_upk 10 hb_ rfl rfl rfl), Q_B0⟩
              refine steps_cons ?_ ?_
              · rintro b a w' ⟨ha, Q_B0⟩ hb_ hon hoff
                refine ⟨_, rfl, fun K hK => ?_⟩
                have e22 : a.tmps[22]? = some (.bool false) := by rw [ha]; exact putSel_on (e := (4, 22, .bool false)) 4 rfl rfl (hon 4 (by kernel_rfl)) rfl
                replace ha := Aside0.mk ha
                have B0 := Aside0.mk Q_B0
                refine off_ (wanted_off rfl rfl rfl (e22.trans (by first | rfl | (simp [*]; done)))) ?_
                refine hK.out _ _ ⟨(by rw [ha.out]; exact putSel_upk 11 hb_ rfl rfl rfl), Q_B0⟩
              refine steps_cons ?_ ?_
              · rintro b a w' ⟨ha, Q_B0⟩ hb_ hon hoff
                refine ⟨_, rfl, fun K hK => ?_⟩
                have e22 : a.tmps[22]? = some (.bool false) := by rw [ha]; exact putSel_on (e := (4, 22, .bool false)) 4 rfl rfl (hon 4 (by kernel_rfl)) rfl
                replace ha := Aside0.mk ha
                have B0 := Aside0.mk Q_B0
                refine off_ (wanted_off rfl rfl rfl (e22.trans (by first | rfl | (simp [*]; done)))) ?_
                refine hK.out _ _ ⟨(by rw [ha.out]; exact putSel_upk 12 hb_ rfl rfl rfl), Q_B0⟩
              refine steps_cons ?_ ?_
              · rintro b a w' ⟨ha, Q_B0⟩ hb_ hon hoff
                refine ⟨_, rfl, fun K hK => ?_⟩
                have e22 : a.tmps[22]? = some (.bool false) := by rw [ha]; exact putSel_on (e := (4, 22, .bool false)) 4 rfl rfl (hon 4 (by kernel_rfl)) rfl
                replace ha := Aside0.mk ha
                have B0 := Aside0.mk Q_B0
                refine off_ (wanted_off rfl rfl rfl (e22.trans (by first | rfl | (simp [*]; done)))) ?_
                refine hK.out _ _ ⟨(by rw [ha.out]; exact putSel_upk 13 hb_ rfl rfl rfl), Q_B0⟩
              refine steps_cons ?_ ?_
              · rintro b a w' ⟨ha, Q_B0⟩ hb_ hon hoff
                refine ⟨_, rfl, fun K hK => ?_⟩
                have e22 : a.tmps[22]? = some (.bool false) := by rw [ha]; exact putSel_on (e := (4, 22, .bool false)) 4 rfl rfl (hon 4 (by kernel_rfl)) rfl
                replace ha := Aside0.mk ha
                have B0 := Aside0.mk Q_B0
                refine off_ (wanted_off rfl rfl rfl (e22.trans (by first | rfl | (simp [*]; done)))) ?_
                refine hK.out _ _ ⟨(by rw [ha.out]; exact putSel_upk 14 hb_ rfl rfl rfl), Q_B0⟩
              refine steps_cons ?_ ?_
              · rintro b a w' ⟨ha, Q_B0⟩ hb_ hon hoff
                refine ⟨_, rfl, fun K hK => ?_⟩
                have e22 : a.tmps[22]? = some (.bool false) := by rw [ha]; exact putSel_on (e := (4, 22, .bool false)) 4 rfl rfl (hon 4 (by kernel_rfl)) rfl
                have e32 : a.tmps[32]? = some (undef) := by rw [ha]; exact putSel_on (e := (14, 32, undef)) 14 rfl rfl (hon 14 (by kernel_rfl)) rfl
                replace ha := Aside0.mk ha
                have B0 := Aside0.mk Q_B0
                refine value_ (w1 := w') (v := .bool false) (by rfl) rfl ?_ ?_
                · go_simp
                  (try simp only [i64_w])
                  try rfl
                refine hK.out _ _ ⟨(by rw [ha.out]; exact putSel_upk 15 hb_ rfl rfl rfl), Q_B0⟩
              exact steps_nil
            rintro b a wl hall ⟨ha, Q_B0⟩
            clear B0
            have hb0_ := hall 0 (by kernel_rfl)
            have hb1_ := hall 1 (by kernel_rfl)
            have hb2_ := hall 2 (by kernel_rfl)
            have hb3_ := hall 3 (by kernel_rfl)
            have hb4_ := hall 4 (by kernel_rfl)
            have hb5_ := hall 5 (by kernel_rfl)
            have hb6_ := hall 6 (by kernel_rfl)
            have hb7_ := hall 7 (by kernel_rfl)
            have hb8_ := hall 8 (by kernel_rfl)
            have hb9_ := hall 9 (by kernel_rfl)
            have hb10_ := hall 10 (by kernel_rfl)
            have hb11_ := hall 11 (by kernel_rfl)
            have hb12_ := hall 12 (by kernel_rfl)
            have hb13_ := hall 13 (by kernel_rfl)
            have hb14_ := hall 14 (by kernel_rfl)
            have hb15_ := hall 15 (by kernel_rfl)
            subst ha
            simp only [putSel, hb0_, hb1_, hb2_, hb3_, hb4_, hb5_, hb6_, hb7_, hb8_, hb9_, hb10_, hb11_, hb12_, hb13_, hb14_, hb15_, if_true, Act.put, List.setIfInBounds_toArray, List.set_cons_zero, List.set_cons_succ]
            have B0 := Aside0.mk Q_B0
            clear Q_B0
            clear hall hb0_ hb1_ hb2_ hb3_ hb4_ hb5_ hb6_ hb7_ hb8_ hb9_ hb10_ hb11_ hb12_ hb13_ hb14_ hb15_
            have hkl : k ≤ o.length := HK.out.1
            have hW0 : Below wo.heap.size wo wl := B0.out
            have hF0 : Kd.F k29 wl (fun j => j < wl.heap.size) Ao o.length o := Kd.F_mono (Kd.F_bound (F_all heap_rec (Kd.C_below HCO.out.2.1 hW0))) (fun _ h => h.2)
            have hF1 := Kd.F_take hF0 hkl
            have hF2 := Kd.F_cut hF0 hkl HCO.out.1
            have ht1 : (o.take k).length = k := by rw [List.length_take]; omega
            have ht2 : (o.drop k).length = o.length - k := by rw [List.length_drop]
            rw [ht1] at hF1
            rw [ht2] at hF2
            have hFx : Kd.F (Kd.int .i64) wl (fun j => j < wl.heap.size) Ax x.f7.length x.f7 := Kd.F_mono (Kd.F_bound (F_all (Kd.heap_int _) (Kd.C_below HPX.out.2 hW0))) (fun _ h => h.2)
            have hFKx := k29_mkF wl (fun j => j < wl.heap.size) x HPX.out.1 hFx
            obtain ⟨i0, hi0, hz⟩ := Option.map_eq_some_iff.1 inf_rec
            simp only [Prod.mk.injEq] at hz
            have hc1 := cut_to (P := Try.prog) 22 29 .i64 Try.underlying22 hi0 Ao o.length co (k : Int) (by omega) (by omega) HCO.out.1
            have hc2 := cut_from (P := Try.prog) 22 29 .i64 Try.underlying22 hi0 8 hz.2.1 Ao o.length co (k : Int) (by omega) (by omega)
            simp only [Int.toNat_natCast] at hc1 hc2
            obtain ⟨A2, hA2⟩ : ∃ A2 : Option Addr, A2 = (if co = k then Ao else (Ao : Option Addr).map (·.add (k * 8))) := ⟨_, rfl⟩
            rw [← hA2] at hc2
            replace hF2 : Kd.F k29 wl (fun j => j < wl.heap.size) A2 (o.length - k) (o.drop k) := by rw [hA2]; exact hF2
            clear hA2
            have HW := Aside0.mk (Below.refl wl.heap.size wl)
            have HNR : Aside0 (Kd.N k29 29 (wl.alloc (.cells #[] 29)) wl.heap.size (fun _ => True) (.slice (some ⟨wl.heap.size, 0, none⟩) 0 0) []) := ⟨Kd.R_N ⟨fun _ _ => trivial, [], World.ownsRow_made wl #[] 0 (Nat.le_refl _) (Nat.zero_le _) rfl, Reps.none _ _⟩⟩
            have HF1 := Aside0.mk hF1
            have HF2 := Aside0.mk hF2
            have HFK := Aside0.mk hFKx
            have HAX := Aside0.mk (HX.out.below hW0)
            have HKL := Aside0.mk (And.intro hkl (And.intro ht1 ht2))
            have HNE : Aside0 (∀ (v : Value), (∀ k, v.ownBlock = some k → wl.heap.size ≤ k) → ∀ j, j < wl.heap.size → True ∧ some j ≠ v.ownBlock) := ⟨fun v hv j hj => ⟨trivial, fun h => by have := hv j h.symm; omega⟩⟩
            clear hF0 hF1 hF2 hFx hFKx hi0 hz ht1 ht2 hkl hW0
            go_upto_region 10 with (at_builtin; refine Kd.N_append_rows k29 wl.heap.size rfl _ _ 22 29 _ 80 rfl Try.underlying22 inf_rec rfl (by decide) (by decide) (.slice (some ⟨wl.heap.size, 0, none⟩) 0 0) [] (o.take k) Ao k co (fun _ => True) (fun j => j < wl.heap.size) rfl rfl HNR.out (Kd.F_alloc HF1.out _) (HNE.out _ (fun k hk => Nat.le_of_eq (Option.some.inj hk))) (fun _ _ => trivial) (below_alloc HW.out _) (by simp) (by have := HCO.out.2.2; have := HKL.out.1; simp only [List.length_nil]; omega) ?_; intro v1 w1 hn1 hb1 _ _; replace hn1 := Aside0.mk hn1; replace hb1 := Aside0.mk hb1)
            obtain ⟨x0, x1, x2, x3, x4, x5, x6, x7⟩ := HAX.out.below hb1.out
            have p1 := HP1.out
            have q1 := HQ1.out
            have HFK1 := Aside0.mk (Kd.FK_below HFK.out hb1.out)
            go_upto_region 11 with (at_builtin; refine Kd.N_append k29 wl.heap.size rfl _ _ 22 29 _ 80 rfl Try.underlying22 inf_rec rfl (by decide) (by decide) v1 _ x _ (fun _ => True) (fun j => j < wl.heap.size) rfl rfl HFK1.out (HNE.out _ (fun k hk => Kd.N_base hn1.out k hk)) (fun _ _ => trivial) hn1.out hb1.out hb1.out.size (by have := HCO.out.2.2; have := HKL.out; rw [List.nil_append]; omega) ?_; intro v2 w2 hn2 hb2 _ _; replace hn2 := Aside0.mk hn2; replace hb2 := Aside0.mk hb2)
            clear x0 x1 x2 x3 x4 x5 x6 x7 p1 q1
            go_wp2_with (at_builtin; (refine Kd.N_append_rows k29 wl.heap.size rfl _ _ 22 29 _ 80 rfl Try.underlying22 inf_rec rfl (by decide) (by decide) v2 _ (o.drop k) _ (o.length - k) (co - k) (fun _ => True) (fun j => j < wl.heap.size) rfl rfl hn2.out (Kd.F_below HF2.out hb2.out) (HNE.out _ (fun k hk => Kd.N_base hn2.out k hk)) (fun _ _ => trivial) hb2.out hb2.out.size (by have := HCO.out.2.2; have := HKL.out; simp only [List.length_append, List.nil_append, List.length_cons, List.length_nil]; omega) ?_); intro v3 w3 hn3 hb3 _ _; replace hn3 := Aside0.mk hn3; replace hb3 := Aside0.mk hb3)
            have hend : Rdl w3 v3 (orderOf (l.take (i + 1))) := by
              have h := Kd.N_reads hn3.out
              rw [hfl.out, HPT.out]
              rw [show ([] ++ o.take k ++ [x] ++ o.drop k) = o.take k ++ x :: o.drop k by simp] at h
              exact h
            replace hend := Aside0.mk hend
            go_roundg (l.length - i)
            case measure => have := HI.out; have := HI2.out; omega
            case rel => exact ⟨i + 1, by first | rfl | (rw [← i64_w, HWI]) | (simp; unfold wrap64; have := HI2.out; have := HN.out; omega), ⟨by have := HI2.out; omega, by have := HI.out; have := HI2.out; omega⟩, hend, ⟨below_then (below_then BB.out BB.out.size B0.out) (below_then BB.out BB.out.size B0.out).size hb3.out⟩⟩
          case pos =>
            have t1 : decide ((k : Int) < (o.length : Int)) = true := decide_eq_true (by omega)
            have t2 : decide (k < o.length) = true := decide_eq_true hk
            have HK2 := Aside0.mk hk
            obtain ⟨ao, Ay, cy, rfl, hAt, hPg⟩ := at_nat HCO.out.2.1 k hk
            obtain ⟨y, hye⟩ : ∃ y, y = o[k] := ⟨_, rfl⟩
            rw [← hye] at hAt hPg
            have HY := Aside0.mk hAt
            have HP2 := Aside0.mk (eq_true (show (0 : Int) ≤ (k : Int) by omega))
            have HQ2 := Aside0.mk (eq_true (show (k : Int) < (o.length : Int) by omega))
            have HLS : Aside0 (∀ W, Below wo.heap.size wo W → Calls Try.prog 21 #[.agg #[.int .u64 x.f0, .int .u64 x.f1, .int .i64 x.f2, .int .i64 x.f3, .int .u64 x.f4, .bool x.f5, .int .i64 x.f6, .slice Ax x.f7.length cx], .agg #[.int .u64 y.f0, .int .u64 y.f1, .int .i64 y.f2, .int .i64 y.f3, .int .u64 y.f4, .bool y.f5, .int .i64 y.f6, .slice Ay y.f7.length cy]] W fun e w' => e = .returned (.bool (ltS x y)) ∧ Below W.heap.size W w') := ⟨fun W hW => less_calls x y Ax cx Ay cy W (HPX.out.below hW) (hPg.below hW)⟩
            have HKW : IntKind.i64.wrap ((k : Int) + 1) = ((k + 1 : Nat) : Int) := by rw [i64_w]; unfold wrap64; have := HCO.out.2.2; omega
            cases htv : ltS x y with
            | true =>
              have HPT := Aside0.mk (put_at (lt := ltS) x o k (Nat.le_of_lt hk) HB4.out (fun h => by rw [← hye]; exact htv))
              rw [htv] at HLS
              clear htv hk hye hAt hPg
              go_upto_region 7 with fail
              replace B0 := Aside0.mk (below_drew B0.out)
              refine start_ (n := 16) (S := fun w' => True) (ds := []) #[false, false, false, false, false, false, false, false, false, false, false, false, false, false, false, false] (by kernel_rfl) rfl rfl trivial (fun hHeld => ?_)
              refine with_tabW rorder.tab7 rorder.bits7 (fun HT_ HW_ => ?_)
              generalize wr.drew = wq at B0 hHeld ⊢
              refine inv_at [0, 1, 2, 3, 4, 5, 6, 7, 8, 9, 10, 11, 12, 13, 14, 15] (fun a0_ b a w' => a = putSel a0_ b [(0, 18, .int .i64 (k : Int)), (1, 19, .slice (some ao) o.length co), (2, 20, .int .i64 (o.length : Int)), (3, 21, .bool true), (4, 22, .bool true), (5, 23, .slice (some ad) l.length cp), (6, 24, .int .i64 (i : Int)), (7, 25, .pointer (some (ad.add (i * 8)))), (8, 26, .agg #[.int .u64 x.f0, .int .u64 x.f1, .int .i64 x.f2, .int .i64 x.f3, .int .u64 x.f4, .bool x.f5, .int .i64 x.f6, .slice Ax x.f7.length cx]), (9, 27, .slice (some ao) o.length co), (10, 28, .int .i64 (k : Int)), (11, 29, .pointer (some (ao.add (k * 8)))), (12, 30, .agg #[.int .u64 y.f0, .int .u64 y.f1, .int .i64 y.f2, .int .i64 y.f3, .int .u64 y.f4, .bool y.f5, .int .i64 y.f6, .slice Ay y.f7.length cy]), (13, 31, .bool true), (14, 32, .bool false), (15, 33, .bool false)] ∧ (Below wo.heap.size wo w')) HT_.out HW_.out (by kernel_rfl) (by kernel_rfl) ?_ ?_ ?_
              · exact ⟨by simp only [putSel, Bool.false_eq_true, if_false], B0.out⟩
              · skip
                clear B0
                refine steps_cons ?_ ?_
                · rintro b a w' ⟨ha, Q_B0⟩ hb_ hon hoff
                  refine ⟨_, rfl, fun K hK => ?_⟩
                  have e5 : a.tmps[5]? = some (.int .i64 (k : Int)) := by rw [ha]; exact (putSel_off rfl).trans rfl
                  replace ha := Aside0.mk ha
                  have B0 := Aside0.mk Q_B0
                  refine value_ (w1 := w') (v := .int .i64 (k : Int)) (by rfl) rfl ?_ ?_
                  · go_simp
                    (try simp only [i64_w])
                    try rfl
                  refine hK.out _ _ ⟨(by rw [ha.out]; exact putSel_upk 0 hb_ rfl rfl rfl), Q_B0⟩
                refine steps_cons ?_ ?_
                · rintro b a w' ⟨ha, Q_B0⟩ hb_ hon hoff
                  refine ⟨_, rfl, fun K hK => ?_⟩
                  have e3 : a.tmps[3]? = some (.slice (some ao) o.length co) := by rw [ha]; exact (putSel_off rfl).trans rfl
                  replace ha := Aside0.mk ha
                  have B0 := Aside0.mk Q_B0
                  refine value_ (w1 := w') (v := .slice (some ao) o.length co) (by rfl) rfl ?_ ?_
                  · go_simp
                    (try simp only [i64_w])
                    try rfl
                  refine hK.out _ _ ⟨(by rw [ha.out]; exact putSel_upk 1 hb_ rfl rfl rfl), Q_B0⟩
                refine steps_cons ?_ ?_
                · rintro b a w' ⟨ha, Q_B0⟩ hb_ hon hoff
                  refine ⟨_, rfl, fun K hK => ?_⟩
                  have e19 : a.tmps[19]? = some (.slice (some ao) o.length co) := by rw [ha]; exact putSel_on (e := (1, 19, .slice (some ao) o.length co)) 1 rfl rfl (hon 1 (by kernel_rfl)) rfl
                  replace ha := Aside0.mk ha
                  have B0 := Aside0.mk Q_B0
                  refine value_ (w1 := w') (v := .int .i64 (o.length : Int)) (by rfl) rfl ?_ ?_
                  · go_simp
                    (try simp only [i64_w])
                    try rfl
                  refine hK.out _ _ ⟨(by rw [ha.out]; exact putSel_upk 2 hb_ rfl rfl rfl), Q_B0⟩
                refine steps_cons ?_ ?_
                · rintro b a w' ⟨ha, Q_B0⟩ hb_ hon hoff
                  refine ⟨_, rfl, fun K hK => ?_⟩
                  have e18 : a.tmps[18]? = some (.int .i64 (k : Int)) := by rw [ha]; exact putSel_on (e := (0, 18, .int .i64 (k : Int))) 0 rfl rfl (hon 0 (by kernel_rfl)) rfl
                  have e20 : a.tmps[20]? = some (.int .i64 (o.length : Int)) := by rw [ha]; exact putSel_on (e := (2, 20, .int .i64 (o.length : Int))) 2 rfl rfl (hon 2 (by kernel_rfl)) rfl
                  replace ha := Aside0.mk ha
                  have B0 := Aside0.mk Q_B0
                  refine value_ (w1 := w') (v := .bool true) (by rfl) rfl ?_ ?_
                  · go_simp
                    (try simp only [i64_w])
                    try rfl
                  refine hK.out _ _ ⟨(by rw [ha.out]; exact putSel_upk 3 hb_ rfl rfl rfl), Q_B0⟩
                refine steps_cons ?_ ?_
                · rintro b a w' ⟨ha, Q_B0⟩ hb_ hon hoff
                  refine ⟨_, rfl, fun K hK => ?_⟩
                  have e21 : a.tmps[21]? = some (.bool true) := by rw [ha]; exact putSel_on (e := (3, 21, .bool true)) 3 rfl rfl (hon 3 (by kernel_rfl)) rfl
                  replace ha := Aside0.mk ha
                  have B0 := Aside0.mk Q_B0
                  refine value_ (w1 := w') (v := .bool true) (by rfl) rfl ?_ ?_
                  · go_simp
                    (try simp only [i64_w])
                    try rfl
                  refine hK.out _ _ ⟨(by rw [ha.out]; exact putSel_upk 4 hb_ rfl rfl rfl), Q_B0⟩
                refine steps_cons ?_ ?_
                · rintro b a w' ⟨ha, Q_B0⟩ hb_ hon hoff
                  refine ⟨_, rfl, fun K hK => ?_⟩
                  have e0 : a.tmps[0]? = some (.slice (some ad) l.length cp) := by rw [ha]; exact (putSel_off rfl).trans rfl
                  have e22 : a.tmps[22]? = some (.bool true) := by rw [ha]; exact putSel_on (e := (4, 22, .bool true)) 4 rfl rfl (hon 4 (by kernel_rfl)) rfl
                  replace ha := Aside0.mk ha
                  have B0 := Aside0.mk Q_B0
                  refine value_ (w1 := w') (v := .slice (some ad) l.length cp) (wanted_on rfl rfl rfl (e22.trans (by first | rfl | (simp [*]; done)))) rfl ?_ ?_
                  · go_simp
                    (try simp only [i64_w])
                    try rfl
                  refine hK.out _ _ ⟨(by rw [ha.out]; exact putSel_upk 5 hb_ rfl rfl rfl), Q_B0⟩
                refine steps_cons ?_ ?_
                · rintro b a w' ⟨ha, Q_B0⟩ hb_ hon hoff
                  refine ⟨_, rfl, fun K hK => ?_⟩
                  have e4 : a.tmps[4]? = some (.int .i64 (i : Int)) := by rw [ha]; exact (putSel_off rfl).trans rfl
                  have e22 : a.tmps[22]? = some (.bool true) := by rw [ha]; exact putSel_on (e := (4, 22, .bool true)) 4 rfl rfl (hon 4 (by kernel_rfl)) rfl
                  replace ha := Aside0.mk ha
                  have B0 := Aside0.mk Q_B0
                  refine value_ (w1 := w') (v := .int .i64 (i : Int)) (wanted_on rfl rfl rfl (e22.trans (by first | rfl | (simp [*]; done)))) rfl ?_ ?_
                  · go_simp
                    (try simp only [i64_w])
                    try rfl
                  refine hK.out _ _ ⟨(by rw [ha.out]; exact putSel_upk 6 hb_ rfl rfl rfl), Q_B0⟩
                refine steps_cons ?_ ?_
                · rintro b a w' ⟨ha, Q_B0⟩ hb_ hon hoff
                  refine ⟨_, rfl, fun K hK => ?_⟩
                  have e23 : a.tmps[23]? = some (.slice (some ad) l.length cp) := by rw [ha]; exact putSel_on (e := (5, 23, .slice (some ad) l.length cp)) 5 rfl rfl (hon 5 (by kernel_rfl)) rfl
                  have e24 : a.tmps[24]? = some (.int .i64 (i : Int)) := by rw [ha]; exact putSel_on (e := (6, 24, .int .i64 (i : Int))) 6 rfl rfl (hon 6 (by kernel_rfl)) rfl
                  have e22 : a.tmps[22]? = some (.bool true) := by rw [ha]; exact putSel_on (e := (4, 22, .bool true)) 4 rfl rfl (hon 4 (by kernel_rfl)) rfl
                  replace ha := Aside0.mk ha
                  have B0 := Aside0.mk Q_B0
                  have p_ := HP1.out
                  have q_ := HQ1.out
                  refine value_ (w1 := w') (v := .pointer (some (ad.add (i * 8)))) (wanted_on rfl rfl rfl (e22.trans (by first | rfl | (simp [*]; done)))) rfl ?_ ?_
                  · go_simp
                    (try simp only [i64_w])
                    try rfl
                  refine hK.out _ _ ⟨(by rw [ha.out]; exact putSel_upk 7 hb_ rfl rfl rfl), Q_B0⟩
                refine steps_cons ?_ ?_
                · rintro b a w' ⟨ha, Q_B0⟩ hb_ hon hoff
                  refine ⟨_, rfl, fun K hK => ?_⟩
                  have e25 : a.tmps[25]? = some (.pointer (some (ad.add (i * 8)))) := by rw [ha]; exact putSel_on (e := (7, 25, .pointer (some (ad.add (i * 8))))) 7 rfl rfl (hon 7 (by kernel_rfl)) rfl
                  have e22 : a.tmps[22]? = some (.bool true) := by rw [ha]; exact putSel_on (e := (4, 22, .bool true)) 4 rfl rfl (hon 4 (by kernel_rfl)) rfl
                  replace ha := Aside0.mk ha
                  have B0 := Aside0.mk Q_B0
                  obtain ⟨x0_, x1_, x2_, x3_, x4_, x5_, x6_, x7_⟩ := HX.out.below B0.out
                  refine value_ (w1 := w') (v := .agg #[.int .u64 x.f0, .int .u64 x.f1, .int .i64 x.f2, .int .i64 x.f3, .int .u64 x.f4, .bool x.f5, .int .i64 x.f6, .slice Ax x.f7.length cx]) (wanted_on rfl rfl rfl (e22.trans (by first | rfl | (simp [*]; done)))) rfl ?_ ?_
                  · go_simp
                    (try simp only [i64_w])
                    try rfl
                  refine hK.out _ _ ⟨(by rw [ha.out]; exact putSel_upk 8 hb_ rfl rfl rfl), Q_B0⟩
                refine steps_cons ?_ ?_
                · rintro b a w' ⟨ha, Q_B0⟩ hb_ hon hoff
                  refine ⟨_, rfl, fun K hK => ?_⟩
                  have e3 : a.tmps[3]? = some (.slice (some ao) o.length co) := by rw [ha]; exact (putSel_off rfl).trans rfl
                  have e22 : a.tmps[22]? = some (.bool true) := by rw [ha]; exact putSel_on (e := (4, 22, .bool true)) 4 rfl rfl (hon 4 (by kernel_rfl)) rfl
                  replace ha := Aside0.mk ha
                  have B0 := Aside0.mk Q_B0
                  refine value_ (w1 := w') (v := .slice (some ao) o.length co) (wanted_on rfl rfl rfl (e22.trans (by first | rfl | (simp [*]; done)))) rfl ?_ ?_
                  · go_simp
                    (try simp only [i64_w])
                    try rfl
                  refine hK.out _ _ ⟨(by rw [ha.out]; exact putSel_upk 9 hb_ rfl rfl rfl), Q_B0⟩
                refine steps_cons ?_ ?_
                · rintro b a w' ⟨ha, Q_B0⟩ hb_ hon hoff
                  refine ⟨_, rfl, fun K hK => ?_⟩
                  have e5 : a.tmps[5]? = some (.int .i64 (k : Int)) := by rw [ha]; exact (putSel_off rfl).trans rfl
                  have e22 : a.tmps[22]? = some (.bool true) := by rw [ha]; exact putSel_on (e := (4, 22, .bool true)) 4 rfl rfl (hon 4 (by kernel_rfl)) rfl
                  replace ha := Aside0.mk ha
                  have B0 := Aside0.mk Q_B0
                  refine value_ (w1 := w') (v := .int .i64 (k : Int)) (wanted_on rfl rfl rfl (e22.trans (by first | rfl | (simp [*]; done)))) rfl ?_ ?_
                  · go_simp
                    (try simp only [i64_w])
                    try rfl
                  refine hK.out _ _ ⟨(by rw [ha.out]; exact putSel_upk 10 hb_ rfl rfl rfl), Q_B0⟩
                refine steps_cons ?_ ?_
                · rintro b a w' ⟨ha, Q_B0⟩ hb_ hon hoff
                  refine ⟨_, rfl, fun K hK => ?_⟩
                  have e27 : a.tmps[27]? = some (.slice (some ao) o.length co) := by rw [ha]; exact putSel_on (e := (9, 27, .slice (some ao) o.length co)) 9 rfl rfl (hon 9 (by kernel_rfl)) rfl
                  have e28 : a.tmps[28]? = some (.int .i64 (k : Int)) := by rw [ha]; exact putSel_on (e := (10, 28, .int .i64 (k : Int))) 10 rfl rfl (hon 10 (by kernel_rfl)) rfl
                  have e22 : a.tmps[22]? = some (.bool true) := by rw [ha]; exact putSel_on (e := (4, 22, .bool true)) 4 rfl rfl (hon 4 (by kernel_rfl)) rfl
                  replace ha := Aside0.mk ha
                  have B0 := Aside0.mk Q_B0
                  have p_ := HP2.out
                  have q_ := HQ2.out
                  refine value_ (w1 := w') (v := .pointer (some (ao.add (k * 8)))) (wanted_on rfl rfl rfl (e22.trans (by first | rfl | (simp [*]; done)))) rfl ?_ ?_
                  · go_simp
                    (try simp only [i64_w])
                    try rfl
                  refine hK.out _ _ ⟨(by rw [ha.out]; exact putSel_upk 11 hb_ rfl rfl rfl), Q_B0⟩
                refine steps_cons ?_ ?_
                · rintro b a w' ⟨ha, Q_B0⟩ hb_ hon hoff
                  refine ⟨_, rfl, fun K hK => ?_⟩
                  have e29 : a.tmps[29]? = some (.pointer (some (ao.add (k * 8)))) := by rw [ha]; exact putSel_on (e := (11, 29, .pointer (some (ao.add (k * 8))))) 11 rfl rfl (hon 11 (by kernel_rfl)) rfl
                  have e22 : a.tmps[22]? = some (.bool true) := by rw [ha]; exact putSel_on (e := (4, 22, .bool true)) 4 rfl rfl (hon 4 (by kernel_rfl)) rfl
                  replace ha := Aside0.mk ha
                  have B0 := Aside0.mk Q_B0
                  obtain ⟨x0_, x1_, x2_, x3_, x4_, x5_, x6_, x7_⟩ := HY.out.below B0.out
                  refine value_ (w1 := w') (v := .agg #[.int .u64 y.f0, .int .u64 y.f1, .int .i64 y.f2, .int .i64 y.f3, .int .u64 y.f4, .bool y.f5, .int .i64 y.f6, .slice Ay y.f7.length cy]) (wanted_on rfl rfl rfl (e22.trans (by first | rfl | (simp [*]; done)))) rfl ?_ ?_
                  · go_simp
                    (try simp only [i64_w])
                    try rfl
                  refine hK.out _ _ ⟨(by rw [ha.out]; exact putSel_upk 12 hb_ rfl rfl rfl), Q_B0⟩
                refine steps_cons ?_ ?_
                · rintro b a w' ⟨ha, Q_B0⟩ hb_ hon hoff
                  refine ⟨_, rfl, fun K hK => ?_⟩
                  have e26 : a.tmps[26]? = some (.agg #[.int .u64 x.f0, .int .u64 x.f1, .int .i64 x.f2, .int .i64 x.f3, .int .u64 x.f4, .bool x.f5, .int .i64 x.f6, .slice Ax x.f7.length cx]) := by rw [ha]; exact putSel_on (e := (8, 26, .agg #[.int .u64 x.f0, .int .u64 x.f1, .int .i64 x.f2, .int .i64 x.f3, .int .u64 x.f4, .bool x.f5, .int .i64 x.f6, .slice Ax x.f7.length cx])) 8 rfl rfl (hon 8 (by kernel_rfl)) rfl
                  have e30 : a.tmps[30]? = some (.agg #[.int .u64 y.f0, .int .u64 y.f1, .int .i64 y.f2, .int .i64 y.f3, .int .u64 y.f4, .bool y.f5, .int .i64 y.f6, .slice Ay y.f7.length cy]) := by rw [ha]; exact putSel_on (e := (12, 30, .agg #[.int .u64 y.f0, .int .u64 y.f1, .int .i64 y.f2, .int .i64 y.f3, .int .u64 y.f4, .bool y.f5, .int .i64 y.f6, .slice Ay y.f7.length cy])) 12 rfl rfl (hon 12 (by kernel_rfl)) rfl
                  have e22 : a.tmps[22]? = some (.bool true) := by rw [ha]; exact putSel_on (e := (4, 22, .bool true)) 4 rfl rfl (hon 4 (by kernel_rfl)) rfl
                  replace ha := Aside0.mk ha
                  have B0 := Aside0.mk Q_B0
                  refine goes_ Try.func21 (by kernel_rfl) rfl #[.agg #[.int .u64 x.f0, .int .u64 x.f1, .int .i64 x.f2, .int .i64 x.f3, .int .u64 x.f4, .bool x.f5, .int .i64 x.f6, .slice Ax x.f7.length cx], .agg #[.int .u64 y.f0, .int .u64 y.f1, .int .i64 y.f2, .int .i64 y.f3, .int .u64 y.f4, .bool y.f5, .int .i64 y.f6, .slice Ay y.f7.length cy]] (wanted_on rfl rfl rfl (e22.trans rfl)) rfl rfl (by first | (simp only [List.map_toArray, List.map_cons, List.map_nil, Act.eval, Array.getD_eq_getD_getElem?, Option.getD_some, e26, e30, e22]; done) | (simp only [List.map_toArray, List.map_cons, List.map_nil, Act.eval, Array.getD_eq_getD_getElem?, Option.getD_some, e26, e30, e22]; rfl)) ?_
                  with_reducible refine (HLS.out _ B0.out).mono ?_
                  rintro e w2 ⟨rfl, hb⟩
                  refine ⟨_, rfl, ?_⟩
                  refine hK.out _ _ ⟨(by rw [ha.out]; exact putSel_upk 13 hb_ rfl rfl rfl), below_then B0.out B0.out.size hb⟩
                refine steps_cons ?_ ?_
                · rintro b a w' ⟨ha, Q_B0⟩ hb_ hon hoff
                  refine ⟨_, rfl, fun K hK => ?_⟩
                  have e31 : a.tmps[31]? = some (.bool true) := by rw [ha]; exact putSel_on (e := (13, 31, .bool true)) 13 rfl rfl (hon 13 (by kernel_rfl)) rfl
                  have e22 : a.tmps[22]? = some (.bool true) := by rw [ha]; exact putSel_on (e := (4, 22, .bool true)) 4 rfl rfl (hon 4 (by kernel_rfl)) rfl
                  replace ha := Aside0.mk ha
                  have B0 := Aside0.mk Q_B0
                  refine value_ (w1 := w') (v := .bool false) (wanted_on rfl rfl rfl (e22.trans (by first | rfl | (simp [*]; done)))) rfl ?_ ?_
                  · go_simp
                    (try simp only [i64_w])
                    try rfl
                  refine hK.out _ _ ⟨(by rw [ha.out]; exact putSel_upk 14 hb_ rfl rfl rfl), Q_B0⟩
                refine steps_cons ?_ ?_
                · rintro b a w' ⟨ha, Q_B0⟩ hb_ hon hoff
                  refine ⟨_, rfl, fun K hK => ?_⟩
                  have e22 : a.tmps[22]? = some (.bool true) := by rw [ha]; exact putSel_on (e := (4, 22, .bool true)) 4 rfl rfl (hon 4 (by kernel_rfl)) rfl
                  have e32 : a.tmps[32]? = some (.bool false) := by rw [ha]; exact putSel_on (e := (14, 32, .bool false)) 14 rfl rfl (hon 14 (by kernel_rfl)) rfl
                  replace ha := Aside0.mk ha
                  have B0 := Aside0.mk Q_B0
                  refine value_ (w1 := w') (v := .bool false) (by rfl) rfl ?_ ?_
                  · go_simp
                    (try simp only [i64_w])
                    try rfl
                  refine hK.out _ _ ⟨(by rw [ha.out]; exact putSel_upk 15 hb_ rfl rfl rfl), Q_B0⟩
                exact steps_nil
              rintro b a wl hall ⟨ha, Q_B0⟩
              clear B0
              have hb0_ := hall 0 (by kernel_rfl)
              have hb1_ := hall 1 (by kernel_rfl)
              have hb2_ := hall 2 (by kernel_rfl)
              have hb3_ := hall 3 (by kernel_rfl)
              have hb4_ := hall 4 (by kernel_rfl)
              have hb5_ := hall 5 (by kernel_rfl)
              have hb6_ := hall 6 (by kernel_rfl)
              have hb7_ := hall 7 (by kernel_rfl)
              have hb8_ := hall 8 (by kernel_rfl)
              have hb9_ := hall 9 (by kernel_rfl)
              have hb10_ := hall 10 (by kernel_rfl)
              have hb11_ := hall 11 (by kernel_rfl)
              have hb12_ := hall 12 (by kernel_rfl)
              have hb13_ := hall 13 (by kernel_rfl)
              have hb14_ := hall 14 (by kernel_rfl)
              have hb15_ := hall 15 (by kernel_rfl)
              subst ha
              simp only [putSel, hb0_, hb1_, hb2_, hb3_, hb4_, hb5_, hb6_, hb7_, hb8_, hb9_, hb10_, hb11_, hb12_, hb13_, hb14_, hb15_, if_true, Act.put, List.setIfInBounds_toArray, List.set_cons_zero, List.set_cons_succ]
              have B0 := Aside0.mk Q_B0
              clear Q_B0
              clear hall hb0_ hb1_ hb2_ hb3_ hb4_ hb5_ hb6_ hb7_ hb8_ hb9_ hb10_ hb11_ hb12_ hb13_ hb14_ hb15_
              have hkl : k ≤ o.length := HK.out.1
              have hW0 : Below wo.heap.size wo wl := B0.out
              have hF0 : Kd.F k29 wl (fun j => j < wl.heap.size) (some ao) o.length o := Kd.F_mono (Kd.F_bound (F_all heap_rec (Kd.C_below HCO.out.2.1 hW0))) (fun _ h => h.2)
              have hF1 := Kd.F_take hF0 hkl
              have hF2 := Kd.F_cut hF0 hkl HCO.out.1
              have ht1 : (o.take k).length = k := by rw [List.length_take]; omega
              have ht2 : (o.drop k).length = o.length - k := by rw [List.length_drop]
              rw [ht1] at hF1
              rw [ht2] at hF2
              have hFx : Kd.F (Kd.int .i64) wl (fun j => j < wl.heap.size) Ax x.f7.length x.f7 := Kd.F_mono (Kd.F_bound (F_all (Kd.heap_int _) (Kd.C_below HPX.out.2 hW0))) (fun _ h => h.2)
              have hFKx := k29_mkF wl (fun j => j < wl.heap.size) x HPX.out.1 hFx
              obtain ⟨i0, hi0, hz⟩ := Option.map_eq_some_iff.1 inf_rec
              simp only [Prod.mk.injEq] at hz
              have hc1 := cut_to (P := Try.prog) 22 29 .i64 Try.underlying22 hi0 (some ao) o.length co (k : Int) (by omega) (by omega) HCO.out.1
              have hc2 := cut_from (P := Try.prog) 22 29 .i64 Try.underlying22 hi0 8 hz.2.1 (some ao) o.length co (k : Int) (by omega) (by omega)
              simp only [Int.toNat_natCast] at hc1 hc2
              obtain ⟨A2, hA2⟩ : ∃ A2 : Option Addr, A2 = (if co = k then (some ao) else ((some ao) : Option Addr).map (·.add (k * 8))) := ⟨_, rfl⟩
              rw [← hA2] at hc2
              replace hF2 : Kd.F k29 wl (fun j => j < wl.heap.size) A2 (o.length - k) (o.drop k) := by rw [hA2]; exact hF2
              clear hA2
              have HW := Aside0.mk (Below.refl wl.heap.size wl)
              have HNR : Aside0 (Kd.N k29 29 (wl.alloc (.cells #[] 29)) wl.heap.size (fun _ => True) (.slice (some ⟨wl.heap.size, 0, none⟩) 0 0) []) := ⟨Kd.R_N ⟨fun _ _ => trivial, [], World.ownsRow_made wl #[] 0 (Nat.le_refl _) (Nat.zero_le _) rfl, Reps.none _ _⟩⟩
              have HF1 := Aside0.mk hF1
              have HF2 := Aside0.mk hF2
              have HFK := Aside0.mk hFKx
              have HAX := Aside0.mk (HX.out.below hW0)
              have HKL := Aside0.mk (And.intro hkl (And.intro ht1 ht2))
              have HNE : Aside0 (∀ (v : Value), (∀ k, v.ownBlock = some k → wl.heap.size ≤ k) → ∀ j, j < wl.heap.size → True ∧ some j ≠ v.ownBlock) := ⟨fun v hv j hj => ⟨trivial, fun h => by have := hv j h.symm; omega⟩⟩
              clear hF0 hF1 hF2 hFx hFKx hi0 hz ht1 ht2 hkl hW0
              go_upto_region 10 with (at_builtin; refine Kd.N_append_rows k29 wl.heap.size rfl _ _ 22 29 _ 80 rfl Try.underlying22 inf_rec rfl (by decide) (by decide) (.slice (some ⟨wl.heap.size, 0, none⟩) 0 0) [] (o.take k) (some ao) k co (fun _ => True) (fun j => j < wl.heap.size) rfl rfl HNR.out (Kd.F_alloc HF1.out _) (HNE.out _ (fun k hk => Nat.le_of_eq (Option.some.inj hk))) (fun _ _ => trivial) (below_alloc HW.out _) (by simp) (by have := HCO.out.2.2; have := HKL.out.1; simp only [List.length_nil]; omega) ?_; intro v1 w1 hn1 hb1 _ _; replace hn1 := Aside0.mk hn1; replace hb1 := Aside0.mk hb1)
              obtain ⟨x0, x1, x2, x3, x4, x5, x6, x7⟩ := HAX.out.below hb1.out
              have p1 := HP1.out
              have q1 := HQ1.out
              have HFK1 := Aside0.mk (Kd.FK_below HFK.out hb1.out)
              go_upto_region 11 with (at_builtin; refine Kd.N_append k29 wl.heap.size rfl _ _ 22 29 _ 80 rfl Try.underlying22 inf_rec rfl (by decide) (by decide) v1 _ x _ (fun _ => True) (fun j => j < wl.heap.size) rfl rfl HFK1.out (HNE.out _ (fun k hk => Kd.N_base hn1.out k hk)) (fun _ _ => trivial) hn1.out hb1.out hb1.out.size (by have := HCO.out.2.2; have := HKL.out; rw [List.nil_append]; omega) ?_; intro v2 w2 hn2 hb2 _ _; replace hn2 := Aside0.mk hn2; replace hb2 := Aside0.mk hb2)
              clear x0 x1 x2 x3 x4 x5 x6 x7 p1 q1
              go_wp2_with (at_builtin; (refine Kd.N_append_rows k29 wl.heap.size rfl _ _ 22 29 _ 80 rfl Try.underlying22 inf_rec rfl (by decide) (by decide) v2 _ (o.drop k) _ (o.length - k) (co - k) (fun _ => True) (fun j => j < wl.heap.size) rfl rfl hn2.out (Kd.F_below HF2.out hb2.out) (HNE.out _ (fun k hk => Kd.N_base hn2.out k hk)) (fun _ _ => trivial) hb2.out hb2.out.size (by have := HCO.out.2.2; have := HKL.out; simp only [List.length_append, List.nil_append, List.length_cons, List.length_nil]; omega) ?_); intro v3 w3 hn3 hb3 _ _; replace hn3 := Aside0.mk hn3; replace hb3 := Aside0.mk hb3)
              have hend : Rdl w3 v3 (orderOf (l.take (i + 1))) := by
                have h := Kd.N_reads hn3.out
                rw [hfl.out, HPT.out]
                rw [show ([] ++ o.take k ++ [x] ++ o.drop k) = o.take k ++ x :: o.drop k by simp] at h
                exact h
              replace hend := Aside0.mk hend
              go_roundg (l.length - i)
              case measure => have := HI.out; have := HI2.out; omega
              case rel => exact ⟨i + 1, by first | rfl | (rw [← i64_w, HWI]) | (simp; unfold wrap64; have := HI2.out; have := HN.out; omega), ⟨by have := HI2.out; omega, by have := HI.out; have := HI2.out; omega⟩, hend, ⟨below_then (below_then BB.out BB.out.size B0.out) (below_then BB.out BB.out.size B0.out).size hb3.out⟩⟩
            | false =>
              have HB5 : Aside0 (∀ j (h : j < o.length), j < k + 1 → ltS x o[j] = false) := ⟨fun j h hj => by
                rcases Nat.lt_or_ge j k with h1 | h1
                · exact HB4.out j h h1
                · obtain rfl : j = k := by omega
                  rw [← hye]; exact htv⟩
              rw [htv] at HLS
              clear htv hk hye hAt hPg
              go_upto_region 7 with fail
              replace B0 := Aside0.mk (below_drew B0.out)
              refine start_ (n := 16) (S := fun w' => True) (ds := []) #[false, false, false, false, false, false, false, false, false, false, false, false, false, false, false, false] (by kernel_rfl) rfl rfl trivial (fun hHeld => ?_)
              refine with_tabW rorder.tab7 rorder.bits7 (fun HT_ HW_ => ?_)
              generalize wr.drew = wq at B0 hHeld ⊢
              refine inv_at [0, 1, 2, 3, 4, 5, 6, 7, 8, 9, 10, 11, 12, 13, 14, 15] (fun a0_ b a w' => a = putSel a0_ b [(0, 18, .int .i64 (k : Int)), (1, 19, .slice (some ao) o.length co), (2, 20, .int .i64 (o.length : Int)), (3, 21, .bool true), (4, 22, .bool true), (5, 23, .slice (some ad) l.length cp), (6, 24, .int .i64 (i : Int)), (7, 25, .pointer (some (ad.add (i * 8)))), (8, 26, .agg #[.int .u64 x.f0, .int .u64 x.f1, .int .i64 x.f2, .int .i64 x.f3, .int .u64 x.f4, .bool x.f5, .int .i64 x.f6, .slice Ax x.f7.length cx]), (9, 27, .slice (some ao) o.length co), (10, 28, .int .i64 (k : Int)), (11, 29, .pointer (some (ao.add (k * 8)))), (12, 30, .agg #[.int .u64 y.f0, .int .u64 y.f1, .int .i64 y.f2, .int .i64 y.f3, .int .u64 y.f4, .bool y.f5, .int .i64 y.f6, .slice Ay y.f7.length cy]), (13, 31, .bool false), (14, 32, .bool true), (15, 33, .bool true)] ∧ (Below wo.heap.size wo w')) HT_.out HW_.out (by kernel_rfl) (by kernel_rfl) ?_ ?_ ?_
              · exact ⟨by simp only [putSel, Bool.false_eq_true, if_false], B0.out⟩
              · skip
                clear B0
                refine steps_cons ?_ ?_
                · rintro b a w' ⟨ha, Q_B0⟩ hb_ hon hoff
                  refine ⟨_, rfl, fun K hK => ?_⟩
                  have e5 : a.tmps[5]? = some (.int .i64 (k : Int)) := by rw [ha]; exact (putSel_off rfl).trans rfl
                  replace ha := Aside0.mk ha
                  have B0 := Aside0.mk Q_B0
                  refine value_ (w1 := w') (v := .int .i64 (k : Int)) (by rfl) rfl ?_ ?_
                  · go_simp
                    (try simp only [i64_w])
                    try rfl
                  refine hK.out _ _ ⟨(by rw [ha.out]; exact putSel_upk 0 hb_ rfl rfl rfl), Q_B0⟩
                refine steps_cons ?_ ?_
                · rintro b a w' ⟨ha, Q_B0⟩ hb_ hon hoff
                  refine ⟨_, rfl, fun K hK => ?_⟩
                  have e3 : a.tmps[3]? = some (.slice (some ao) o.length co) := by rw [ha]; exact (putSel_off rfl).trans rfl
                  replace ha := Aside0.mk ha
                  have B0 := Aside0.mk Q_B0
                  refine value_ (w1 := w') (v := .slice (some ao) o.length co) (by rfl) rfl ?_ ?_
                  · go_simp
                    (try simp only [i64_w])
                    try rfl
                  refine hK.out _ _ ⟨(by rw [ha.out]; exact putSel_upk 1 hb_ rfl rfl rfl), Q_B0⟩
                refine steps_cons ?_ ?_
                · rintro b a w' ⟨ha, Q_B0⟩ hb_ hon hoff
                  refine ⟨_, rfl, fun K hK => ?_⟩
                  have e19 : a.tmps[19]? = some (.slice (some ao) o.length co) := by rw [ha]; exact putSel_on (e := (1, 19, .slice (some ao) o.length co)) 1 rfl rfl (hon 1 (by kernel_rfl)) rfl
                  replace ha := Aside0.mk ha
                  have B0 := Aside0.mk Q_B0
                  refine value_ (w1 := w') (v := .int .i64 (o.length : Int)) (by rfl) rfl ?_ ?_
                  · go_simp
                    (try simp only [i64_w])
                    try rfl
                  refine hK.out _ _ ⟨(by rw [ha.out]; exact putSel_upk 2 hb_ rfl rfl rfl), Q_B0⟩
                refine steps_cons ?_ ?_
                · rintro b a w' ⟨ha, Q_B0⟩ hb_ hon hoff
                  refine ⟨_, rfl, fun K hK => ?_⟩
                  have e18 : a.tmps[18]? = some (.int .i64 (k : Int)) := by rw [ha]; exact putSel_on (e := (0, 18, .int .i64 (k : Int))) 0 rfl rfl (hon 0 (by kernel_rfl)) rfl
                  have e20 : a.tmps[20]? = some (.int .i64 (o.length : Int)) := by rw [ha]; exact putSel_on (e := (2, 20, .int .i64 (o.length : Int))) 2 rfl rfl (hon 2 (by kernel_rfl)) rfl
                  replace ha := Aside0.mk ha
                  have B0 := Aside0.mk Q_B0
                  refine value_ (w1 := w') (v := .bool true) (by rfl) rfl ?_ ?_
                  · go_simp
                    (try simp only [i64_w])
                    try rfl
                  refine hK.out _ _ ⟨(by rw [ha.out]; exact putSel_upk 3 hb_ rfl rfl rfl), Q_B0⟩
                refine steps_cons ?_ ?_
                · rintro b a w' ⟨ha, Q_B0⟩ hb_ hon hoff
                  refine ⟨_, rfl, fun K hK => ?_⟩
                  have e21 : a.tmps[21]? = some (.bool true) := by rw [ha]; exact putSel_on (e := (3, 21, .bool true)) 3 rfl rfl (hon 3 (by kernel_rfl)) rfl
                  replace ha := Aside0.mk ha
                  have B0 := Aside0.mk Q_B0
                  refine value_ (w1 := w') (v := .bool true) (by rfl) rfl ?_ ?_
                  · go_simp
                    (try simp only [i64_w])
                    try rfl
                  refine hK.out _ _ ⟨(by rw [ha.out]; exact putSel_upk 4 hb_ rfl rfl rfl), Q_B0⟩
                refine steps_cons ?_ ?_
                · rintro b a w' ⟨ha, Q_B0⟩ hb_ hon hoff
                  refine ⟨_, rfl, fun K hK => ?_⟩
                  have e0 : a.tmps[0]? = some (.slice (some ad) l.length cp) := by rw [ha]; exact (putSel_off rfl).trans rfl
                  have e22 : a.tmps[22]? = some (.bool true) := by rw [ha]; exact putSel_on (e := (4, 22, .bool true)) 4 rfl rfl (hon 4 (by kernel_rfl)) rfl
                  replace ha := Aside0.mk ha
                  have B0 := Aside0.mk Q_B0
                  refine value_ (w1 := w') (v := .slice (some ad) l.length cp) (wanted_on rfl rfl rfl (e22.trans (by first | rfl | (simp [*]; done)))) rfl ?_ ?_
                  · go_simp
                    (try simp only [i64_w])
                    try rfl
                  refine hK.out _ _ ⟨(by rw [ha.out]; exact putSel_upk 5 hb_ rfl rfl rfl), Q_B0⟩
                refine steps_cons ?_ ?_
                · rintro b a w' ⟨ha, Q_B0⟩ hb_ hon hoff
                  refine ⟨_, rfl, fun K hK => ?_⟩
                  have e4 : a.tmps[4]? = some (.int .i64 (i : Int)) := by rw [ha]; exact (putSel_off rfl).trans rfl
                  have e22 : a.tmps[22]? = some (.bool true) := by rw [ha]; exact putSel_on (e := (4, 22, .bool true)) 4 rfl rfl (hon 4 (by kernel_rfl)) rfl
                  replace ha := Aside0.mk ha
                  have B0 := Aside0.mk Q_B0
                  refine value_ (w1 := w') (v := .int .i64 (i : Int)) (wanted_on rfl rfl rfl (e22.trans (by first | rfl | (simp [*]; done)))) rfl ?_ ?_
                  · go_simp
                    (try simp only [i64_w])
                    try rfl
                  refine hK.out _ _ ⟨(by rw [ha.out]; exact putSel_upk 6 hb_ rfl rfl rfl), Q_B0⟩
                refine steps_cons ?_ ?_
                · rintro b a w' ⟨ha, Q_B0⟩ hb_ hon hoff
                  refine ⟨_, rfl, fun K hK => ?_⟩
                  have e23 : a.tmps[23]? = some (.slice (some ad) l.length cp) := by rw [ha]; exact putSel_on (e := (5, 23, .slice (some ad) l.length cp)) 5 rfl rfl (hon 5 (by kernel_rfl)) rfl
                  have e24 : a.tmps[24]? = some (.int .i64 (i : Int)) := by rw [ha]; exact putSel_on (e := (6, 24, .int .i64 (i : Int))) 6 rfl rfl (hon 6 (by kernel_rfl)) rfl
                  have e22 : a.tmps[22]? = some (.bool true) := by rw [ha]; exact putSel_on (e := (4, 22, .bool true)) 4 rfl rfl (hon 4 (by kernel_rfl)) rfl
                  replace ha := Aside0.mk ha
                  have B0 := Aside0.mk Q_B0
                  have p_ := HP1.out
                  have q_ := HQ1.out
                  refine value_ (w1 := w') (v := .pointer (some (ad.add (i * 8)))) (wanted_on rfl rfl rfl (e22.trans (by first | rfl | (simp [*]; done)))) rfl ?_ ?_
                  · go_simp
                    (try simp only [i64_w])
                    try rfl
                  refine hK.out _ _ ⟨(by rw [ha.out]; exact putSel_upk 7 hb_ rfl rfl rfl), Q_B0⟩
                refine steps_cons ?_ ?_
                · rintro b a w' ⟨ha, Q_B0⟩ hb_ hon hoff
                  refine ⟨_, rfl, fun K hK => ?_⟩
                  have e25 : a.tmps[25]? = some (.pointer (some (ad.add (i * 8)))) := by rw [ha]; exact putSel_on (e := (7, 25, .pointer (some (ad.add (i * 8))))) 7 rfl rfl (hon 7 (by kernel_rfl)) rfl
                  have e22 : a.tmps[22]? = some (.bool true) := by rw [ha]; exact putSel_on (e := (4, 22, .bool true)) 4 rfl rfl (hon 4 (by kernel_rfl)) rfl
                  replace ha := Aside0.mk ha
                  have B0 := Aside0.mk Q_B0
                  obtain ⟨x0_, x1_, x2_, x3_, x4_, x5_, x6_, x7_⟩ := HX.out.below B0.out
                  refine value_ (w1 := w') (v := .agg #[.int .u64 x.f0, .int .u64 x.f1, .int .i64 x.f2, .int .i64 x.f3, .int .u64 x.f4, .bool x.f5, .int .i64 x.f6, .slice Ax x.f7.length cx]) (wanted_on rfl rfl rfl (e22.trans (by first | rfl | (simp [*]; done)))) rfl ?_ ?_
                  · go_simp
                    (try simp only [i64_w])
                    try rfl
                  refine hK.out _ _ ⟨(by rw [ha.out]; exact putSel_upk 8 hb_ rfl rfl rfl), Q_B0⟩
                refine steps_cons ?_ ?_
                · rintro b a w' ⟨ha, Q_B0⟩ hb_ hon hoff
                  refine ⟨_, rfl, fun K hK => ?_⟩
                  have e3 : a.tmps[3]? = some (.slice (some ao) o.length co) := by rw [ha]; exact (putSel_off rfl).trans rfl
                  have e22 : a.tmps[22]? = some (.bool true) := by rw [ha]; exact putSel_on (e := (4, 22, .bool true)) 4 rfl rfl (hon 4 (by kernel_rfl)) rfl
                  replace ha := Aside0.mk ha
                  have B0 := Aside0.mk Q_B0
                  refine value_ (w1 := w') (v := .slice (some ao) o.length co) (wanted_on rfl rfl rfl (e22.trans (by first | rfl | (simp [*]; done)))) rfl ?_ ?_
                  · go_simp
                    (try simp only [i64_w])
                    try rfl
                  refine hK.out _ _ ⟨(by rw [ha.out]; exact putSel_upk 9 hb_ rfl rfl rfl), Q_B0⟩
                refine steps_cons ?_ ?_
                · rintro b a w' ⟨ha, Q_B0⟩ hb_ hon hoff
                  refine ⟨_, rfl, fun K hK => ?_⟩
                  have e5 : a.tmps[5]? = some (.int .i64 (k : Int)) := by rw [ha]; exact (putSel_off rfl).trans rfl
                  have e22 : a.tmps[22]? = some (.bool true) := by rw [ha]; exact putSel_on (e := (4, 22, .bool true)) 4 rfl rfl (hon 4 (by kernel_rfl)) rfl
                  replace ha := Aside0.mk ha
                  have B0 := Aside0.mk Q_B0
                  refine value_ (w1 := w') (v := .int .i64 (k : Int)) (wanted_on rfl rfl rfl (e22.trans (by first | rfl | (simp [*]; done)))) rfl ?_ ?_
                  · go_simp
                    (try simp only [i64_w])
                    try rfl
                  refine hK.out _ _ ⟨(by rw [ha.out]; exact putSel_upk 10 hb_ rfl rfl rfl), Q_B0⟩
                refine steps_cons ?_ ?_
                · rintro b a w' ⟨ha, Q_B0⟩ hb_ hon hoff
                  refine ⟨_, rfl, fun K hK => ?_⟩
                  have e27 : a.tmps[27]? = some (.slice (some ao) o.length co) := by rw [ha]; exact putSel_on (e := (9, 27, .slice (some ao) o.length co)) 9 rfl rfl (hon 9 (by kernel_rfl)) rfl
                  have e28 : a.tmps[28]? = some (.int .i64 (k : Int)) := by rw [ha]; exact putSel_on (e := (10, 28, .int .i64 (k : Int))) 10 rfl rfl (hon 10 (by kernel_rfl)) rfl
                  have e22 : a.tmps[22]? = some (.bool true) := by rw [ha]; exact putSel_on (e := (4, 22, .bool true)) 4 rfl rfl (hon 4 (by kernel_rfl)) rfl
                  replace ha := Aside0.mk ha
                  have B0 := Aside0.mk Q_B0
                  have p_ := HP2.out
                  have q_ := HQ2.out
                  refine value_ (w1 := w') (v := .pointer (some (ao.add (k * 8)))) (wanted_on rfl rfl rfl (e22.trans (by first | rfl | (simp [*]; done)))) rfl ?_ ?_
                  · go_simp
                    (try simp only [i64_w])
                    try rfl
                  refine hK.out _ _ ⟨(by rw [ha.out]; exact putSel_upk 11 hb_ rfl rfl rfl), Q_B0⟩
                refine steps_cons ?_ ?_
                · rintro b a w' ⟨ha, Q_B0⟩ hb_ hon hoff
                  refine ⟨_, rfl, fun K hK => ?_⟩
                  have e29 : a.tmps[29]? = some (.pointer (some (ao.add (k * 8)))) := by rw [ha]; exact putSel_on (e := (11, 29, .pointer (some (ao.add (k * 8))))) 11 rfl rfl (hon 11 (by kernel_rfl)) rfl
                  have e22 : a.tmps[22]? = some (.bool true) := by rw [ha]; exact putSel_on (e := (4, 22, .bool true)) 4 rfl rfl (hon 4 (by kernel_rfl)) rfl
                  replace ha := Aside0.mk ha
                  have B0 := Aside0.mk Q_B0
                  obtain ⟨x0_, x1_, x2_, x3_, x4_, x5_, x6_, x7_⟩ := HY.out.below B0.out
                  refine value_ (w1 := w') (v := .agg #[.int .u64 y.f0, .int .u64 y.f1, .int .i64 y.f2, .int .i64 y.f3, .int .u64 y.f4, .bool y.f5, .int .i64 y.f6, .slice Ay y.f7.length cy]) (wanted_on rfl rfl rfl (e22.trans (by first | rfl | (simp [*]; done)))) rfl ?_ ?_
                  · go_simp
                    (try simp only [i64_w])
                    try rfl
                  refine hK.out _ _ ⟨(by rw [ha.out]; exact putSel_upk 12 hb_ rfl rfl rfl), Q_B0⟩
                refine steps_cons ?_ ?_
                · rintro b a w' ⟨ha, Q_B0⟩ hb_ hon hoff
                  refine ⟨_, rfl, fun K hK => ?_⟩
                  have e26 : a.tmps[26]? = some (.agg #[.int .u64 x.f0, .int .u64 x.f1, .int .i64 x.f2, .int .i64 x.f3, .int .u64 x.f4, .bool x.f5, .int .i64 x.f6, .slice Ax x.f7.length cx]) := by rw [ha]; exact putSel_on (e := (8, 26, .agg #[.int .u64 x.f0, .int .u64 x.f1, .int .i64 x.f2, .int .i64 x.f3, .int .u64 x.f4, .bool x.f5, .int .i64 x.f6, .slice Ax x.f7.length cx])) 8 rfl rfl (hon 8 (by kernel_rfl)) rfl
                  have e30 : a.tmps[30]? = some (.agg #[.int .u64 y.f0, .int .u64 y.f1, .int .i64 y.f2, .int .i64 y.f3, .int .u64 y.f4, .bool y.f5, .int .i64 y.f6, .slice Ay y.f7.length cy]) := by rw [ha]; exact putSel_on (e := (12, 30, .agg #[.int .u64 y.f0, .int .u64 y.f1, .int .i64 y.f2, .int .i64 y.f3, .int .u64 y.f4, .bool y.f5, .int .i64 y.f6, .slice Ay y.f7.length cy])) 12 rfl rfl (hon 12 (by kernel_rfl)) rfl
                  have e22 : a.tmps[22]? = some (.bool true) := by rw [ha]; exact putSel_on (e := (4, 22, .bool true)) 4 rfl rfl (hon 4 (by kernel_rfl)) rfl
                  replace ha := Aside0.mk ha
                  have B0 := Aside0.mk Q_B0
                  refine goes_ Try.func21 (by kernel_rfl) rfl #[.agg #[.int .u64 x.f0, .int .u64 x.f1, .int .i64 x.f2, .int .i64 x.f3, .int .u64 x.f4, .bool x.f5, .int .i64 x.f6, .slice Ax x.f7.length cx], .agg #[.int .u64 y.f0, .int .u64 y.f1, .int .i64 y.f2, .int .i64 y.f3, .int .u64 y.f4, .bool y.f5, .int .i64 y.f6, .slice Ay y.f7.length cy]] (wanted_on rfl rfl rfl (e22.trans rfl)) rfl rfl (by first | (simp only [List.map_toArray, List.map_cons, List.map_nil, Act.eval, Array.getD_eq_getD_getElem?, Option.getD_some, e26, e30, e22]; done) | (simp only [List.map_toArray, List.map_cons, List.map_nil, Act.eval, Array.getD_eq_getD_getElem?, Option.getD_some, e26, e30, e22]; rfl)) ?_
                  with_reducible refine (HLS.out _ B0.out).mono ?_
                  rintro e w2 ⟨rfl, hb⟩
                  refine ⟨_, rfl, ?_⟩
                  refine hK.out _ _ ⟨(by rw [ha.out]; exact putSel_upk 13 hb_ rfl rfl rfl), below_then B0.out B0.out.size hb⟩
                refine steps_cons ?_ ?_
                · rintro b a w' ⟨ha, Q_B0⟩ hb_ hon hoff
                  refine ⟨_, rfl, fun K hK => ?_⟩
                  have e31 : a.tmps[31]? = some (.bool false) := by rw [ha]; exact putSel_on (e := (13, 31, .bool false)) 13 rfl rfl (hon 13 (by kernel_rfl)) rfl
                  have e22 : a.tmps[22]? = some (.bool true) := by rw [ha]; exact putSel_on (e := (4, 22, .bool true)) 4 rfl rfl (hon 4 (by kernel_rfl)) rfl
                  replace ha := Aside0.mk ha
                  have B0 := Aside0.mk Q_B0
                  refine value_ (w1 := w') (v := .bool true) (wanted_on rfl rfl rfl (e22.trans (by first | rfl | (simp [*]; done)))) rfl ?_ ?_
                  · go_simp
                    (try simp only [i64_w])
                    try rfl
                  refine hK.out _ _ ⟨(by rw [ha.out]; exact putSel_upk 14 hb_ rfl rfl rfl), Q_B0⟩
                refine steps_cons ?_ ?_
                · rintro b a w' ⟨ha, Q_B0⟩ hb_ hon hoff
                  refine ⟨_, rfl, fun K hK => ?_⟩
                  have e22 : a.tmps[22]? = some (.bool true) := by rw [ha]; exact putSel_on (e := (4, 22, .bool true)) 4 rfl rfl (hon 4 (by kernel_rfl)) rfl
                  have e32 : a.tmps[32]? = some (.bool true) := by rw [ha]; exact putSel_on (e := (14, 32, .bool true)) 14 rfl rfl (hon 14 (by kernel_rfl)) rfl
                  replace ha := Aside0.mk ha
                  have B0 := Aside0.mk Q_B0
                  refine value_ (w1 := w') (v := .bool true) (by rfl) rfl ?_ ?_
                  · go_simp
                    (try simp only [i64_w])
                    try rfl
                  refine hK.out _ _ ⟨(by rw [ha.out]; exact putSel_upk 15 hb_ rfl rfl rfl), Q_B0⟩
                exact steps_nil
              rintro b a wl hall ⟨ha, Q_B0⟩
              clear B0
              have hb0_ := hall 0 (by kernel_rfl)
              have hb1_ := hall 1 (by kernel_rfl)
              have hb2_ := hall 2 (by kernel_rfl)
              have hb3_ := hall 3 (by kernel_rfl)
              have hb4_ := hall 4 (by kernel_rfl)
              have hb5_ := hall 5 (by kernel_rfl)
              have hb6_ := hall 6 (by kernel_rfl)
              have hb7_ := hall 7 (by kernel_rfl)
              have hb8_ := hall 8 (by kernel_rfl)
              have hb9_ := hall 9 (by kernel_rfl)
              have hb10_ := hall 10 (by kernel_rfl)
              have hb11_ := hall 11 (by kernel_rfl)
              have hb12_ := hall 12 (by kernel_rfl)
              have hb13_ := hall 13 (by kernel_rfl)
              have hb14_ := hall 14 (by kernel_rfl)
              have hb15_ := hall 15 (by kernel_rfl)
              subst ha
              simp only [putSel, hb0_, hb1_, hb2_, hb3_, hb4_, hb5_, hb6_, hb7_, hb8_, hb9_, hb10_, hb11_, hb12_, hb13_, hb14_, hb15_, if_true, Act.put, List.setIfInBounds_toArray, List.set_cons_zero, List.set_cons_succ]
              have B0 := Aside0.mk Q_B0
              clear Q_B0
              clear hall hb0_ hb1_ hb2_ hb3_ hb4_ hb5_ hb6_ hb7_ hb8_ hb9_ hb10_ hb11_ hb12_ hb13_ hb14_ hb15_
              go_wp2_with fail
              go_roundg (o.length - k)
              case measure => have := HK.out; have := HK2.out; omega
              case rel => exact ⟨k + 1, by first | rfl | (rw [← i64_w, HKW]) | (simp; unfold wrap64; have := HK2.out; have := HCO.out.2.2; omega), ⟨by have := HK2.out; omega, by have := HK.out; have := HK2.out; omega⟩, HB5, B0⟩
end Go.Proofs.Ytnopjcakilfepaa.QS
