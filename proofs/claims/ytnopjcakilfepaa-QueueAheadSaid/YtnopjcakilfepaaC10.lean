import Derived.Test.YtnopjcakilfepaaC9
namespace Go.Proofs.Ytnopjcakilfepaa.QS
set_option linter.unusedVariables false
set_option linter.unusedSimpArgs false
open Go.RowKit Go.Proofs.Ytnopjcakilfepaa.SS Go.Proofs.Ytnopjcakilfepaa.Hp Go.Proofs.YtnopjcakilfepaaW.PrintWords Go.Proofs.YtnopjcakilfepaaW.PrintLast Go.Proofs.YtnopjcakilfepaaW.PrintMore
def ahead3.T3 : Bool × List (List Nat × List Nat) := (true, [([], []), ([], []), ([0, 1], [0, 1]), ([], []), ([], []), ([3, 4, 2], [3, 4]), ([2, 5], [2, 5]), ([6, 5], [6]), ([7], [7]), ([7], [7]), ([8, 9, 7, 7], [7, 8, 9]), ([10, 10, 7], [7, 10]), ([11], [11]), ([11], [11]), ([12, 13, 11, 11], [11, 12, 13]), ([11, 14, 7], [7, 11, 14]), ([7, 15], [7, 15])])
def ahead3.B3 : List Nat := [0, 0, 3, 0, 0, 31, 63, 127, 255, 255, 1023, 2047, 4095, 4095, 16383, 32767, 65535]
theorem ahead3.tab3 : rtab .any (opsOf Try.f5 3) = ahead3.T3 := by kernel_rfl
theorem ahead3.bits3 : waitsOk ahead3.T3.2 ahead3.B3 = true := by kernel_rfl
def ahead6.T6 : Bool × List (List Nat × List Nat) := (true, [([], []), ([], []), ([0, 1], [0, 1]), ([], []), ([3], [3]), ([2, 4, 2], [2, 4]), ([5, 5], [5]), ([6], [6]), ([7], [7]), ([7], [7]), ([], []), ([10, 8, 6, 0, 1, 2, 3, 4, 5, 6, 7, 8, 10], [8, 10]), ([9, 11, 0, 1, 2, 3, 4, 5, 6, 7, 8, 9, 10, 11], [9])])
def ahead6.B6 : List Nat := [0, 0, 3, 0, 8, 31, 63, 127, 255, 255, 0, 1535, 4095]
theorem ahead6.tab6 : rtab .any (opsOf Try.f5 6) = ahead6.T6 := by kernel_rfl
theorem ahead6.bits6 : waitsOk ahead6.T6.2 ahead6.B6 = true := by kernel_rfl
theorem head_light {l : List R0} (hl : lightL l) : (headOr (orderOf l)).f7.length ≤ 1000 := by
  have h := order_light hl
  unfold headOr
  cases ho : orderOf l with
  | nil => decide
  | cons y r => rw [ho] at h; exact h.2 y (by simp)
theorem light_snoc {l : List R0} {a : R0} (hl : lightL l) (ha : ¬ (a.f7.length : Int) > 60) (h60 : l.length ≤ 60 := by omega) : lightL (l ++ [a]) := ⟨by rw [List.length_append]; simp only [List.length_cons, List.length_nil]; omega, fun x hx => by
  rcases List.mem_append.1 hx with h | h
  · exact hl.2 x h
  · rw [List.mem_singleton.1 h]; omega⟩
theorem order_snoc (l : List R0) (a : R0) : orderOf (l ++ [a]) = if a.f5 = true then orderOf l else put ltS a (orderOf l) := by
  unfold orderOf waits
  rw [List.filter_append]
  by_cases h : a.f5 = true
  · rw [if_pos h]; simp [h]
  · rw [if_neg h]
    have : [a].filter (fun x => !x.f5) = [a] := by simp [h]
    rw [this, ssort_snoc]
theorem next_pure (l : List R0) (a : R0) :
    (a.f5 = true → (!(orderOf (l ++ [a])).isEmpty) = (!(orderOf l).isEmpty) ∧ headOr (orderOf (l ++ [a])) = headOr (orderOf l)) ∧
    (a.f5 = false → (!(orderOf (l ++ [a])).isEmpty) = true ∧ ((!(orderOf l).isEmpty) = true → ltS a (headOr (orderOf l)) = false → headOr (orderOf (l ++ [a])) = headOr (orderOf l)) ∧ ((!(orderOf l).isEmpty) = false ∨ ltS a (headOr (orderOf l)) = true → headOr (orderOf (l ++ [a])) = a)) := by
  constructor
  · intro h
    rw [order_snoc, if_pos h]
    exact ⟨rfl, rfl⟩
  · intro h
    rw [order_snoc, if_neg (by rw [h]; decide)]
    cases orderOf l with
    | nil => exact ⟨rfl, fun h => by simp at h, fun _ => rfl⟩
    | cons y r =>
      cases hlt : ltS a y with
      | true =>
        have e : put ltS a (y :: r) = a :: y :: r := by simp [put, hlt]
        rw [e]
        refine ⟨rfl, fun _ h2 => ?_, fun _ => rfl⟩
        have h3 : ltS a y = false := h2
        rw [hlt] at h3; cases h3
      | false =>
        have e : put ltS a (y :: r) = y :: put ltS a r := by simp [put, hlt]
        rw [e]
        refine ⟨rfl, fun _ _ => rfl, fun h2 => ?_⟩
        rcases h2 with h2 | h2
        · simp at h2
        · have h3 : ltS a y = true := h2
          rw [hlt] at h3; cases h3
set_option maxHeartbeats 8000000 in
set_option maxRecDepth 100000 in
theorem ahead_law (l : List R0) (ra rb : R0) (Aa : Option Addr) (ca : Nat) (Ab : Option Addr) (cb : Nat) (A : Option Addr) (cp : Nat) (hcp : l.length ≤ cp) (hm : l.length ≤ 9223372036854775807) (w : World) (hC : Kd.C k29 w A l.length l) (ha : Pg w ra Aa ca) (hb : Pg w rb Ab cb) :
    Calls Try.prog 5 #[.slice A l.length cp, .agg #[.int .u64 ra.f0, .int .u64 ra.f1, .int .i64 ra.f2, .int .i64 ra.f3, .int .u64 ra.f4, .bool ra.f5, .int .i64 ra.f6, .slice Aa ra.f7.length ca], .agg #[.int .u64 rb.f0, .int .u64 rb.f1, .int .i64 rb.f2, .int .i64 rb.f3, .int .u64 rb.f4, .bool rb.f5, .int .i64 rb.f6, .slice Ab rb.f7.length cb]] w fun e w' => e = .returned (.bool true) ∧ Below w.heap.size w w' := by
  have HLI := Aside0.mk (fun W hW => light_calls l A cp hcp W (Kd.C_below hC hW) hm)
  have HR := Aside0.mk (And.intro hcp hC)
  have HPA := Aside0.mk ha
  have HPB := Aside0.mk hb
  have HAW := Aside0.mk (fun W => awake_calls W)
  have hb0 := below_alloc (below_alloc (Below.refl w.heap.size w) (.cells #[.int .u64 ra.f0, .int .u64 ra.f1, .int .i64 ra.f2, .int .i64 ra.f3, .int .u64 ra.f4, .bool ra.f5, .int .i64 ra.f6, .slice Aa ra.f7.length ca] 29)) (.cells #[.int .u64 rb.f0, .int .u64 rb.f1, .int .i64 rb.f2, .int .i64 rb.f3, .int .u64 rb.f4, .bool rb.f5, .int .i64 rb.f6, .slice Ab rb.f7.length cb] 29)
  have hz4 := blk_alloc (heap_alloc_new w (.cells #[.int .u64 ra.f0, .int .u64 ra.f1, .int .i64 ra.f2, .int .i64 ra.f3, .int .u64 ra.f4, .bool ra.f5, .int .i64 ra.f6, .slice Aa ra.f7.length ca] 29)) (.cells #[.int .u64 rb.f0, .int .u64 rb.f1, .int .i64 rb.f2, .int .i64 rb.f3, .int .u64 rb.f4, .bool rb.f5, .int .i64 rb.f6, .slice Ab rb.f7.length cb] 29)
  have hz5 := heap_alloc_new (w.alloc (.cells #[.int .u64 ra.f0, .int .u64 ra.f1, .int .i64 ra.f2, .int .i64 ra.f3, .int .u64 ra.f4, .bool ra.f5, .int .i64 ra.f6, .slice Aa ra.f7.length ca] 29)) (.cells #[.int .u64 rb.f0, .int .u64 rb.f1, .int .i64 rb.f2, .int .i64 rb.f3, .int .u64 rb.f4, .bool rb.f5, .int .i64 rb.f6, .slice Ab rb.f7.length cb] 29)
  rw [show (w.alloc (.cells #[.int .u64 ra.f0, .int .u64 ra.f1, .int .i64 ra.f2, .int .i64 ra.f3, .int .u64 ra.f4, .bool ra.f5, .int .i64 ra.f6, .slice Aa ra.f7.length ca] 29)).heap.size = w.heap.size + 1 by simp] at hz5
  have B0 := Aside0.mk hb0
  have Z4 := Aside0.mk hz4
  have Z5 := Aside0.mk hz5
  clear hcp hC hm ha hb hb0 hz4 hz5
  cases hlb : lightB l with
  | false =>
    rw [hlb] at HLI
    clear hlb
    go_enter Try.func5, Try.ntmps5
    go_wp2_with (first | (go_at_call 11; refine (HLI.out _ B0.out).mono ?_; rintro e w2 ⟨rfl, hb⟩; replace B0 := Aside0.mk (below_then B0.out B0.out.size hb); clear hb) | (go_at_call 12; refine (HAW.out _).mono ?_; rintro e w2 ⟨rfl, hb⟩; replace B0 := Aside0.mk (below_then B0.out B0.out.size hb); clear hb))
    go_ret
    exact ⟨rfl, B0.out⟩
  | true =>
    rw [hlb] at HLI
    have ARM : True := trivial
    by_cases hga : (ra.f7.length : Int) > 60
    case pos =>
      have ta : decide ((ra.f7.length : Int) > 60) = true := decide_eq_true hga
      clear hga hlb
      go_enter Try.func5, Try.ntmps5
      go_wp2_with (first | (go_at_call 11; refine (HLI.out _ B0.out).mono ?_; rintro e w2 ⟨rfl, hb⟩; replace B0 := Aside0.mk (below_then B0.out B0.out.size hb); have c47 := blk_cell (blk_below Z4.out hb) 7; clear hb) | (go_at_call 12; refine (HAW.out _).mono ?_; rintro e w3 ⟨rfl, hb⟩; replace B0 := Aside0.mk (below_then B0.out B0.out.size hb); clear hb))
      go_ret
      exact ⟨rfl, B0.out⟩
    case neg =>
    have ta : decide ((ra.f7.length : Int) > 60) = false := decide_eq_false hga
    by_cases hgb : (rb.f7.length : Int) > 60
    case pos =>
      have tb : decide ((rb.f7.length : Int) > 60) = true := decide_eq_true hgb
      clear hga hgb hlb
      go_enter Try.func5, Try.ntmps5
      go_wp2_with (first | (go_at_call 11; refine (HLI.out _ B0.out).mono ?_; rintro e w2 ⟨rfl, hb⟩; replace B0 := Aside0.mk (below_then B0.out B0.out.size hb); have c47 := blk_cell (blk_below Z4.out hb) 7; have c57 := blk_cell (blk_below Z5.out hb) 7; clear hb) | (go_at_call 12; refine (HAW.out _).mono ?_; rintro e w3 ⟨rfl, hb⟩; replace B0 := Aside0.mk (below_then B0.out B0.out.size hb); clear hb))
      go_ret
      exact ⟨rfl, B0.out⟩
    case neg =>
    have tb : decide ((rb.f7.length : Int) > 60) = false := decide_eq_false hgb
    obtain ⟨hl, hl60, hp60⟩ := lightB_L hlb
    have HL := Aside0.mk (And.intro hl (And.intro hga (And.intro hgb hl60)))
    clear hlb hl hl60 hp60 hga hgb ARM
    have HAB := Aside0.mk (fun W hW => ahead_calls ra rb Aa ca Ab cb W (HPA.out.below hW) (HPB.out.below hW))
    have HLB := Aside0.mk (fun W hW => less_calls ra rb Aa ca Ab cb W (HPA.out.below hW) (HPB.out.below hW))
    have HBA := Aside0.mk (fun W hW => ahead_calls rb ra Ab cb Aa ca W (HPB.out.below hW) (HPA.out.below hW))
    go_enter Try.func5, Try.ntmps5
    go_upto_region 3 with (go_at_call 11; refine (HLI.out _ B0.out).mono ?_; rintro e w2 ⟨rfl, hb⟩; replace B0 := Aside0.mk (below_then B0.out B0.out.size hb); have c47 := blk_cell (blk_below Z4.out hb) 7; have c57 := blk_cell (blk_below Z5.out hb) 7; replace Z4 := Aside0.mk (blk_below Z4.out hb); replace Z5 := Aside0.mk (blk_below Z5.out hb); clear hb)
    clear c47 c57 ta tb HLI
    cases hs : ltS ra rb with
    | true =>
      have hs2 := ltS_ord.asym _ _ hs
      rw [hs] at HAB HLB
      rw [hs2] at HBA
      clear hs hs2
      replace B0 := Aside0.mk (below_drew B0.out)
      replace Z4 := Aside0.mk (blk_drew Z4.out)
      replace Z5 := Aside0.mk (blk_drew Z5.out)
      refine start_ (n := 17) (S := fun w' => True) (ds := []) #[false, false, false, false, false, false, false, false, false, false, false, false, false, false, false, false, false] (by kernel_rfl) rfl rfl trivial (fun hHeld => ?_)
      refine with_tabW ahead3.tab3 ahead3.bits3 (fun HT_ HW_ => ?_)
      generalize w2.drew = wq at B0 Z4 Z5 hHeld ⊢
      refine inv_at [0, 1, 2, 3, 4, 5, 6, 7, 8, 9, 10, 11, 12, 13, 14, 15, 16] (fun a0_ b a w' => a = putSel a0_ b [(0, 27, .agg #[.int .u64 ra.f0, .int .u64 ra.f1, .int .i64 ra.f2, .int .i64 ra.f3, .int .u64 ra.f4, .bool ra.f5, .int .i64 ra.f6, .slice Aa ra.f7.length ca]), (1, 28, .agg #[.int .u64 rb.f0, .int .u64 rb.f1, .int .i64 rb.f2, .int .i64 rb.f3, .int .u64 rb.f4, .bool rb.f5, .int .i64 rb.f6, .slice Ab rb.f7.length cb]), (2, 29, .bool true), (3, 30, .agg #[.int .u64 ra.f0, .int .u64 ra.f1, .int .i64 ra.f2, .int .i64 ra.f3, .int .u64 ra.f4, .bool ra.f5, .int .i64 ra.f6, .slice Aa ra.f7.length ca]), (4, 31, .agg #[.int .u64 rb.f0, .int .u64 rb.f1, .int .i64 rb.f2, .int .i64 rb.f3, .int .u64 rb.f4, .bool rb.f5, .int .i64 rb.f6, .slice Ab rb.f7.length cb]), (5, 32, .bool true), (6, 33, .bool false), (7, 34, .bool false), (8, 35, .agg #[.int .u64 ra.f0, .int .u64 ra.f1, .int .i64 ra.f2, .int .i64 ra.f3, .int .u64 ra.f4, .bool ra.f5, .int .i64 ra.f6, .slice Aa ra.f7.length ca]), (9, 36, .agg #[.int .u64 rb.f0, .int .u64 rb.f1, .int .i64 rb.f2, .int .i64 rb.f3, .int .u64 rb.f4, .bool rb.f5, .int .i64 rb.f6, .slice Ab rb.f7.length cb]), (10, 37, .bool true), (11, 38, .bool true), (12, 39, .agg #[.int .u64 rb.f0, .int .u64 rb.f1, .int .i64 rb.f2, .int .i64 rb.f3, .int .u64 rb.f4, .bool rb.f5, .int .i64 rb.f6, .slice Ab rb.f7.length cb]), (13, 40, .agg #[.int .u64 ra.f0, .int .u64 ra.f1, .int .i64 ra.f2, .int .i64 ra.f3, .int .u64 ra.f4, .bool ra.f5, .int .i64 ra.f6, .slice Aa ra.f7.length ca]), (14, 41, .bool false), (15, 42, .bool false), (16, 43, .bool false)] ∧ (Below w.heap.size w w') ∧ (w'.heap[w.heap.size]? = some (.cells #[.int .u64 ra.f0, .int .u64 ra.f1, .int .i64 ra.f2, .int .i64 ra.f3, .int .u64 ra.f4, .bool ra.f5, .int .i64 ra.f6, .slice Aa ra.f7.length ca] 29 (0, 0))) ∧ (w'.heap[(w.heap.size + 1)]? = some (.cells #[.int .u64 rb.f0, .int .u64 rb.f1, .int .i64 rb.f2, .int .i64 rb.f3, .int .u64 rb.f4, .bool rb.f5, .int .i64 rb.f6, .slice Ab rb.f7.length cb] 29 (0, 0)))) HT_.out HW_.out (by kernel_rfl) (by kernel_rfl) ?_ ?_ ?_
      · exact ⟨by simp only [putSel, Bool.false_eq_true, if_false], B0.out, Z4.out, Z5.out⟩
      · skip
        clear B0 Z4 Z5
        refine steps_cons ?_ ?_
        · rintro b a w' ⟨ha, Q_B0, Q_Z4, Q_Z5⟩ hb_ hon hoff
          refine ⟨_, rfl, fun K hK => ?_⟩
          have e4 : a.tmps[4]? = some (.pointer (some ⟨w.heap.size, 0, none⟩)) := by rw [ha]; exact (putSel_off rfl).trans rfl
          replace ha := Aside0.mk ha
          have B0 := Aside0.mk Q_B0
          have Z4 := Aside0.mk Q_Z4
          have Z5 := Aside0.mk Q_Z5
          have c0_ := blk_cell Z4.out 0
          have c1_ := blk_cell Z4.out 1
          have c2_ := blk_cell Z4.out 2
          have c3_ := blk_cell Z4.out 3
          have c4_ := blk_cell Z4.out 4
          have c5_ := blk_cell Z4.out 5
          have c6_ := blk_cell Z4.out 6
          have c7_ := blk_cell Z4.out 7
          refine value_ (w1 := w') (v := .agg #[.int .u64 ra.f0, .int .u64 ra.f1, .int .i64 ra.f2, .int .i64 ra.f3, .int .u64 ra.f4, .bool ra.f5, .int .i64 ra.f6, .slice Aa ra.f7.length ca]) (by rfl) rfl ?_ ?_
          · go_simp
            (try simp only [i64_w])
            try rfl
          refine hK.out _ _ ⟨(by rw [ha.out]; exact putSel_upk 0 hb_ rfl rfl rfl), Q_B0, Q_Z4, Q_Z5⟩
        refine steps_cons ?_ ?_
        · rintro b a w' ⟨ha, Q_B0, Q_Z4, Q_Z5⟩ hb_ hon hoff
          refine ⟨_, rfl, fun K hK => ?_⟩
          have e5 : a.tmps[5]? = some (.pointer (some ⟨w.heap.size + 1, 0, none⟩)) := by rw [ha]; exact (putSel_off rfl).trans rfl
          replace ha := Aside0.mk ha
          have B0 := Aside0.mk Q_B0
          have Z4 := Aside0.mk Q_Z4
          have Z5 := Aside0.mk Q_Z5
          have c0_ := blk_cell Z5.out 0
          have c1_ := blk_cell Z5.out 1
          have c2_ := blk_cell Z5.out 2
          have c3_ := blk_cell Z5.out 3
          have c4_ := blk_cell Z5.out 4
          have c5_ := blk_cell Z5.out 5
          have c6_ := blk_cell Z5.out 6
          have c7_ := blk_cell Z5.out 7
          refine value_ (w1 := w') (v := .agg #[.int .u64 rb.f0, .int .u64 rb.f1, .int .i64 rb.f2, .int .i64 rb.f3, .int .u64 rb.f4, .bool rb.f5, .int .i64 rb.f6, .slice Ab rb.f7.length cb]) (by rfl) rfl ?_ ?_
          · go_simp
            (try simp only [i64_w])
            try rfl
          refine hK.out _ _ ⟨(by rw [ha.out]; exact putSel_upk 1 hb_ rfl rfl rfl), Q_B0, Q_Z4, Q_Z5⟩
        refine steps_cons ?_ ?_
        · rintro b a w' ⟨ha, Q_B0, Q_Z4, Q_Z5⟩ hb_ hon hoff
          refine ⟨_, rfl, fun K hK => ?_⟩
          have e27 : a.tmps[27]? = some (.agg #[.int .u64 ra.f0, .int .u64 ra.f1, .int .i64 ra.f2, .int .i64 ra.f3, .int .u64 ra.f4, .bool ra.f5, .int .i64 ra.f6, .slice Aa ra.f7.length ca]) := by rw [ha]; exact putSel_on (e := (0, 27, .agg #[.int .u64 ra.f0, .int .u64 ra.f1, .int .i64 ra.f2, .int .i64 ra.f3, .int .u64 ra.f4, .bool ra.f5, .int .i64 ra.f6, .slice Aa ra.f7.length ca])) 0 rfl rfl (hon 0 (by kernel_rfl)) rfl
          have e28 : a.tmps[28]? = some (.agg #[.int .u64 rb.f0, .int .u64 rb.f1, .int .i64 rb.f2, .int .i64 rb.f3, .int .u64 rb.f4, .bool rb.f5, .int .i64 rb.f6, .slice Ab rb.f7.length cb]) := by rw [ha]; exact putSel_on (e := (1, 28, .agg #[.int .u64 rb.f0, .int .u64 rb.f1, .int .i64 rb.f2, .int .i64 rb.f3, .int .u64 rb.f4, .bool rb.f5, .int .i64 rb.f6, .slice Ab rb.f7.length cb])) 1 rfl rfl (hon 1 (by kernel_rfl)) rfl
          replace ha := Aside0.mk ha
          have B0 := Aside0.mk Q_B0
          have Z4 := Aside0.mk Q_Z4
          have Z5 := Aside0.mk Q_Z5
          refine goes_ Try.func18 (by kernel_rfl) rfl #[.agg #[.int .u64 ra.f0, .int .u64 ra.f1, .int .i64 ra.f2, .int .i64 ra.f3, .int .u64 ra.f4, .bool ra.f5, .int .i64 ra.f6, .slice Aa ra.f7.length ca], .agg #[.int .u64 rb.f0, .int .u64 rb.f1, .int .i64 rb.f2, .int .i64 rb.f3, .int .u64 rb.f4, .bool rb.f5, .int .i64 rb.f6, .slice Ab rb.f7.length cb]] (by rfl) rfl rfl (by first | (simp only [List.map_toArray, List.map_cons, List.map_nil, Act.eval, Array.getD_eq_getD_getElem?, Option.getD_some, e27, e28]; done) | (simp only [List.map_toArray, List.map_cons, List.map_nil, Act.eval, Array.getD_eq_getD_getElem?, Option.getD_some, e27, e28]; rfl)) ?_
          with_reducible refine (HAB.out _ B0.out).mono ?_
          rintro e w2 ⟨rfl, hb⟩
          refine ⟨_, rfl, ?_⟩
          refine hK.out _ _ ⟨(by rw [ha.out]; exact putSel_upk 2 hb_ rfl rfl rfl), below_then B0.out B0.out.size hb, blk_below Z4.out hb, blk_below Z5.out hb⟩
        refine steps_cons ?_ ?_
        · rintro b a w' ⟨ha, Q_B0, Q_Z4, Q_Z5⟩ hb_ hon hoff
          refine ⟨_, rfl, fun K hK => ?_⟩
          have e4 : a.tmps[4]? = some (.pointer (some ⟨w.heap.size, 0, none⟩)) := by rw [ha]; exact (putSel_off rfl).trans rfl
          replace ha := Aside0.mk ha
          have B0 := Aside0.mk Q_B0
          have Z4 := Aside0.mk Q_Z4
          have Z5 := Aside0.mk Q_Z5
          have c0_ := blk_cell Z4.out 0
          have c1_ := blk_cell Z4.out 1
          have c2_ := blk_cell Z4.out 2
          have c3_ := blk_cell Z4.out 3
          have c4_ := blk_cell Z4.out 4
          have c5_ := blk_cell Z4.out 5
          have c6_ := blk_cell Z4.out 6
          have c7_ := blk_cell Z4.out 7
          refine value_ (w1 := w') (v := .agg #[.int .u64 ra.f0, .int .u64 ra.f1, .int .i64 ra.f2, .int .i64 ra.f3, .int .u64 ra.f4, .bool ra.f5, .int .i64 ra.f6, .slice Aa ra.f7.length ca]) (by rfl) rfl ?_ ?_
          · go_simp
            (try simp only [i64_w])
            try rfl
          refine hK.out _ _ ⟨(by rw [ha.out]; exact putSel_upk 3 hb_ rfl rfl rfl), Q_B0, Q_Z4, Q_Z5⟩
        refine steps_cons ?_ ?_
        · rintro b a w' ⟨ha, Q_B0, Q_Z4, Q_Z5⟩ hb_ hon hoff
          refine ⟨_, rfl, fun K hK => ?_⟩
          have e5 : a.tmps[5]? = some (.pointer (some ⟨w.heap.size + 1, 0, none⟩)) := by rw [ha]; exact (putSel_off rfl).trans rfl
          replace ha := Aside0.mk ha
          have B0 := Aside0.mk Q_B0
          have Z4 := Aside0.mk Q_Z4
          have Z5 := Aside0.mk Q_Z5
          have c0_ := blk_cell Z5.out 0
          have c1_ := blk_cell Z5.out 1
          have c2_ := blk_cell Z5.out 2
          have c3_ := blk_cell Z5.out 3
          have c4_ := blk_cell Z5.out 4
          have c5_ := blk_cell Z5.out 5
          have c6_ := blk_cell Z5.out 6
          have c7_ := blk_cell Z5.out 7
          refine value_ (w1 := w') (v := .agg #[.int .u64 rb.f0, .int .u64 rb.f1, .int .i64 rb.f2, .int .i64 rb.f3, .int .u64 rb.f4, .bool rb.f5, .int .i64 rb.f6, .slice Ab rb.f7.length cb]) (by rfl) rfl ?_ ?_
          · go_simp
            (try simp only [i64_w])
            try rfl
          refine hK.out _ _ ⟨(by rw [ha.out]; exact putSel_upk 4 hb_ rfl rfl rfl), Q_B0, Q_Z4, Q_Z5⟩
        refine steps_cons ?_ ?_
        · rintro b a w' ⟨ha, Q_B0, Q_Z4, Q_Z5⟩ hb_ hon hoff
          refine ⟨_, rfl, fun K hK => ?_⟩
          have e30 : a.tmps[30]? = some (.agg #[.int .u64 ra.f0, .int .u64 ra.f1, .int .i64 ra.f2, .int .i64 ra.f3, .int .u64 ra.f4, .bool ra.f5, .int .i64 ra.f6, .slice Aa ra.f7.length ca]) := by rw [ha]; exact putSel_on (e := (3, 30, .agg #[.int .u64 ra.f0, .int .u64 ra.f1, .int .i64 ra.f2, .int .i64 ra.f3, .int .u64 ra.f4, .bool ra.f5, .int .i64 ra.f6, .slice Aa ra.f7.length ca])) 3 rfl rfl (hon 3 (by kernel_rfl)) rfl
          have e31 : a.tmps[31]? = some (.agg #[.int .u64 rb.f0, .int .u64 rb.f1, .int .i64 rb.f2, .int .i64 rb.f3, .int .u64 rb.f4, .bool rb.f5, .int .i64 rb.f6, .slice Ab rb.f7.length cb]) := by rw [ha]; exact putSel_on (e := (4, 31, .agg #[.int .u64 rb.f0, .int .u64 rb.f1, .int .i64 rb.f2, .int .i64 rb.f3, .int .u64 rb.f4, .bool rb.f5, .int .i64 rb.f6, .slice Ab rb.f7.length cb])) 4 rfl rfl (hon 4 (by kernel_rfl)) rfl
          replace ha := Aside0.mk ha
          have B0 := Aside0.mk Q_B0
          have Z4 := Aside0.mk Q_Z4
          have Z5 := Aside0.mk Q_Z5
          refine goes_ Try.func21 (by kernel_rfl) rfl #[.agg #[.int .u64 ra.f0, .int .u64 ra.f1, .int .i64 ra.f2, .int .i64 ra.f3, .int .u64 ra.f4, .bool ra.f5, .int .i64 ra.f6, .slice Aa ra.f7.length ca], .agg #[.int .u64 rb.f0, .int .u64 rb.f1, .int .i64 rb.f2, .int .i64 rb.f3, .int .u64 rb.f4, .bool rb.f5, .int .i64 rb.f6, .slice Ab rb.f7.length cb]] (by rfl) rfl rfl (by first | (simp only [List.map_toArray, List.map_cons, List.map_nil, Act.eval, Array.getD_eq_getD_getElem?, Option.getD_some, e30, e31]; done) | (simp only [List.map_toArray, List.map_cons, List.map_nil, Act.eval, Array.getD_eq_getD_getElem?, Option.getD_some, e30, e31]; rfl)) ?_
          with_reducible refine (HLB.out _ B0.out).mono ?_
          rintro e w2 ⟨rfl, hb⟩
          refine ⟨_, rfl, ?_⟩
          refine hK.out _ _ ⟨(by rw [ha.out]; exact putSel_upk 5 hb_ rfl rfl rfl), below_then B0.out B0.out.size hb, blk_below Z4.out hb, blk_below Z5.out hb⟩
        refine steps_cons ?_ ?_
        · rintro b a w' ⟨ha, Q_B0, Q_Z4, Q_Z5⟩ hb_ hon hoff
          refine ⟨_, rfl, fun K hK => ?_⟩
          have e29 : a.tmps[29]? = some (.bool true) := by rw [ha]; exact putSel_on (e := (2, 29, .bool true)) 2 rfl rfl (hon 2 (by kernel_rfl)) rfl
          have e32 : a.tmps[32]? = some (.bool true) := by rw [ha]; exact putSel_on (e := (5, 32, .bool true)) 5 rfl rfl (hon 5 (by kernel_rfl)) rfl
          replace ha := Aside0.mk ha
          have B0 := Aside0.mk Q_B0
          have Z4 := Aside0.mk Q_Z4
          have Z5 := Aside0.mk Q_Z5
          refine value_ (w1 := w') (v := .bool false) (by rfl) rfl ?_ ?_
          · go_simp
            (try simp only [i64_w])
            try rfl
          refine hK.out _ _ ⟨(by rw [ha.out]; exact putSel_upk 6 hb_ rfl rfl rfl), Q_B0, Q_Z4, Q_Z5⟩
        refine steps_cons ?_ ?_
        · rintro b a w' ⟨ha, Q_B0, Q_Z4, Q_Z5⟩ hb_ hon hoff
          refine ⟨_, rfl, fun K hK => ?_⟩
          have e33 : a.tmps[33]? = some (.bool false) := by rw [ha]; exact putSel_on (e := (6, 33, .bool false)) 6 rfl rfl (hon 6 (by kernel_rfl)) rfl
          replace ha := Aside0.mk ha
          have B0 := Aside0.mk Q_B0
          have Z4 := Aside0.mk Q_Z4
          have Z5 := Aside0.mk Q_Z5
          refine value_ (w1 := w') (v := .bool false) (by rfl) rfl ?_ ?_
          · go_simp
            (try simp only [i64_w])
            try rfl
          refine hK.out _ _ ⟨(by rw [ha.out]; exact putSel_upk 7 hb_ rfl rfl rfl), Q_B0, Q_Z4, Q_Z5⟩
        refine steps_cons ?_ ?_
        · rintro b a w' ⟨ha, Q_B0, Q_Z4, Q_Z5⟩ hb_ hon hoff
          refine ⟨_, rfl, fun K hK => ?_⟩
          have e4 : a.tmps[4]? = some (.pointer (some ⟨w.heap.size, 0, none⟩)) := by rw [ha]; exact (putSel_off rfl).trans rfl
          have e34 : a.tmps[34]? = some (.bool false) := by rw [ha]; exact putSel_on (e := (7, 34, .bool false)) 7 rfl rfl (hon 7 (by kernel_rfl)) rfl
          replace ha := Aside0.mk ha
          have B0 := Aside0.mk Q_B0
          have Z4 := Aside0.mk Q_Z4
          have Z5 := Aside0.mk Q_Z5
          have c0_ := blk_cell Z4.out 0
          have c1_ := blk_cell Z4.out 1
          have c2_ := blk_cell Z4.out 2
          have c3_ := blk_cell Z4.out 3
          have c4_ := blk_cell Z4.out 4
          have c5_ := blk_cell Z4.out 5
          have c6_ := blk_cell Z4.out 6
          have c7_ := blk_cell Z4.out 7
          refine value_ (w1 := w') (v := .agg #[.int .u64 ra.f0, .int .u64 ra.f1, .int .i64 ra.f2, .int .i64 ra.f3, .int .u64 ra.f4, .bool ra.f5, .int .i64 ra.f6, .slice Aa ra.f7.length ca]) (wanted_on rfl rfl rfl (e34.trans (by first | rfl | (simp [*]; done)))) rfl ?_ ?_
          · go_simp
            (try simp only [i64_w])
            try rfl
          refine hK.out _ _ ⟨(by rw [ha.out]; exact putSel_upk 8 hb_ rfl rfl rfl), Q_B0, Q_Z4, Q_Z5⟩
        refine steps_cons ?_ ?_
        · rintro b a w' ⟨ha, Q_B0, Q_Z4, Q_Z5⟩ hb_ hon hoff
          refine ⟨_, rfl, fun K hK => ?_⟩
          have e5 : a.tmps[5]? = some (.pointer (some ⟨w.heap.size + 1, 0, none⟩)) := by rw [ha]; exact (putSel_off rfl).trans rfl
          have e34 : a.tmps[34]? = some (.bool false) := by rw [ha]; exact putSel_on (e := (7, 34, .bool false)) 7 rfl rfl (hon 7 (by kernel_rfl)) rfl
          replace ha := Aside0.mk ha
          have B0 := Aside0.mk Q_B0
          have Z4 := Aside0.mk Q_Z4
          have Z5 := Aside0.mk Q_Z5
          have c0_ := blk_cell Z5.out 0
          have c1_ := blk_cell Z5.out 1
          have c2_ := blk_cell Z5.out 2
          have c3_ := blk_cell Z5.out 3
          have c4_ := blk_cell Z5.out 4
          have c5_ := blk_cell Z5.out 5
          have c6_ := blk_cell Z5.out 6
          have c7_ := blk_cell Z5.out 7
          refine value_ (w1 := w') (v := .agg #[.int .u64 rb.f0, .int .u64 rb.f1, .int .i64 rb.f2, .int .i64 rb.f3, .int .u64 rb.f4, .bool rb.f5, .int .i64 rb.f6, .slice Ab rb.f7.length cb]) (wanted_on rfl rfl rfl (e34.trans (by first | rfl | (simp [*]; done)))) rfl ?_ ?_
          · go_simp
            (try simp only [i64_w])
            try rfl
          refine hK.out _ _ ⟨(by rw [ha.out]; exact putSel_upk 9 hb_ rfl rfl rfl), Q_B0, Q_Z4, Q_Z5⟩
        refine steps_cons ?_ ?_
        · rintro b a w' ⟨ha, Q_B0, Q_Z4, Q_Z5⟩ hb_ hon hoff
          refine ⟨_, rfl, fun K hK => ?_⟩
          have e35 : a.tmps[35]? = some (.agg #[.int .u64 ra.f0, .int .u64 ra.f1, .int .i64 ra.f2, .int .i64 ra.f3, .int .u64 ra.f4, .bool ra.f5, .int .i64 ra.f6, .slice Aa ra.f7.length ca]) := by rw [ha]; exact putSel_on (e := (8, 35, .agg #[.int .u64 ra.f0, .int .u64 ra.f1, .int .i64 ra.f2, .int .i64 ra.f3, .int .u64 ra.f4, .bool ra.f5, .int .i64 ra.f6, .slice Aa ra.f7.length ca])) 8 rfl rfl (hon 8 (by kernel_rfl)) rfl
          have e36 : a.tmps[36]? = some (.agg #[.int .u64 rb.f0, .int .u64 rb.f1, .int .i64 rb.f2, .int .i64 rb.f3, .int .u64 rb.f4, .bool rb.f5, .int .i64 rb.f6, .slice Ab rb.f7.length cb]) := by rw [ha]; exact putSel_on (e := (9, 36, .agg #[.int .u64 rb.f0, .int .u64 rb.f1, .int .i64 rb.f2, .int .i64 rb.f3, .int .u64 rb.f4, .bool rb.f5, .int .i64 rb.f6, .slice Ab rb.f7.length cb])) 9 rfl rfl (hon 9 (by kernel_rfl)) rfl
          have e34 : a.tmps[34]? = some (.bool false) := by rw [ha]; exact putSel_on (e := (7, 34, .bool false)) 7 rfl rfl (hon 7 (by kernel_rfl)) rfl
          replace ha := Aside0.mk ha
          have B0 := Aside0.mk Q_B0
          have Z4 := Aside0.mk Q_Z4
          have Z5 := Aside0.mk Q_Z5
          refine goes_ Try.func18 (by kernel_rfl) rfl #[.agg #[.int .u64 ra.f0, .int .u64 ra.f1, .int .i64 ra.f2, .int .i64 ra.f3, .int .u64 ra.f4, .bool ra.f5, .int .i64 ra.f6, .slice Aa ra.f7.length ca], .agg #[.int .u64 rb.f0, .int .u64 rb.f1, .int .i64 rb.f2, .int .i64 rb.f3, .int .u64 rb.f4, .bool rb.f5, .int .i64 rb.f6, .slice Ab rb.f7.length cb]] (wanted_on rfl rfl rfl (e34.trans rfl)) rfl rfl (by first | (simp only [List.map_toArray, List.map_cons, List.map_nil, Act.eval, Array.getD_eq_getD_getElem?, Option.getD_some, e35, e36, e34]; done) | (simp only [List.map_toArray, List.map_cons, List.map_nil, Act.eval, Array.getD_eq_getD_getElem?, Option.getD_some, e35, e36, e34]; rfl)) ?_
          with_reducible refine (HAB.out _ B0.out).mono ?_
          rintro e w2 ⟨rfl, hb⟩
          refine ⟨_, rfl, ?_⟩
          refine hK.out _ _ ⟨(by rw [ha.out]; exact putSel_upk 10 hb_ rfl rfl rfl), below_then B0.out B0.out.size hb, blk_below Z4.out hb, blk_below Z5.out hb⟩
        refine steps_cons ?_ ?_
        · rintro b a w' ⟨ha, Q_B0, Q_Z4, Q_Z5⟩ hb_ hon hoff
          refine ⟨_, rfl, fun K hK => ?_⟩
          have e37 : a.tmps[37]? = some (.bool true) := by rw [ha]; exact putSel_on (e := (10, 37, .bool true)) 10 rfl rfl (hon 10 (by kernel_rfl)) rfl
          have e34 : a.tmps[34]? = some (.bool false) := by rw [ha]; exact putSel_on (e := (7, 34, .bool false)) 7 rfl rfl (hon 7 (by kernel_rfl)) rfl
          replace ha := Aside0.mk ha
          have B0 := Aside0.mk Q_B0
          have Z4 := Aside0.mk Q_Z4
          have Z5 := Aside0.mk Q_Z5
          refine value_ (w1 := w') (v := .bool true) (wanted_on rfl rfl rfl (e34.trans (by first | rfl | (simp [*]; done)))) rfl ?_ ?_
          · go_simp
            (try simp only [i64_w])
            try rfl
          refine hK.out _ _ ⟨(by rw [ha.out]; exact putSel_upk 11 hb_ rfl rfl rfl), Q_B0, Q_Z4, Q_Z5⟩
        refine steps_cons ?_ ?_
        · rintro b a w' ⟨ha, Q_B0, Q_Z4, Q_Z5⟩ hb_ hon hoff
          refine ⟨_, rfl, fun K hK => ?_⟩
          have e5 : a.tmps[5]? = some (.pointer (some ⟨w.heap.size + 1, 0, none⟩)) := by rw [ha]; exact (putSel_off rfl).trans rfl
          have e38 : a.tmps[38]? = some (.bool true) := by rw [ha]; exact putSel_on (e := (11, 38, .bool true)) 11 rfl rfl (hon 11 (by kernel_rfl)) rfl
          replace ha := Aside0.mk ha
          have B0 := Aside0.mk Q_B0
          have Z4 := Aside0.mk Q_Z4
          have Z5 := Aside0.mk Q_Z5
          have c0_ := blk_cell Z5.out 0
          have c1_ := blk_cell Z5.out 1
          have c2_ := blk_cell Z5.out 2
          have c3_ := blk_cell Z5.out 3
          have c4_ := blk_cell Z5.out 4
          have c5_ := blk_cell Z5.out 5
          have c6_ := blk_cell Z5.out 6
          have c7_ := blk_cell Z5.out 7
          refine value_ (w1 := w') (v := .agg #[.int .u64 rb.f0, .int .u64 rb.f1, .int .i64 rb.f2, .int .i64 rb.f3, .int .u64 rb.f4, .bool rb.f5, .int .i64 rb.f6, .slice Ab rb.f7.length cb]) (wanted_on rfl rfl rfl (e38.trans (by first | rfl | (simp [*]; done)))) rfl ?_ ?_
          · go_simp
            (try simp only [i64_w])
            try rfl
          refine hK.out _ _ ⟨(by rw [ha.out]; exact putSel_upk 12 hb_ rfl rfl rfl), Q_B0, Q_Z4, Q_Z5⟩
        refine steps_cons ?_ ?_
        · rintro b a w' ⟨ha, Q_B0, Q_Z4, Q_Z5⟩ hb_ hon hoff
          refine ⟨_, rfl, fun K hK => ?_⟩
          have e4 : a.tmps[4]? = some (.pointer (some ⟨w.heap.size, 0, none⟩)) := by rw [ha]; exact (putSel_off rfl).trans rfl
          have e38 : a.tmps[38]? = some (.bool true) := by rw [ha]; exact putSel_on (e := (11, 38, .bool true)) 11 rfl rfl (hon 11 (by kernel_rfl)) rfl
          replace ha := Aside0.mk ha
          have B0 := Aside0.mk Q_B0
          have Z4 := Aside0.mk Q_Z4
          have Z5 := Aside0.mk Q_Z5
          have c0_ := blk_cell Z4.out 0
          have c1_ := blk_cell Z4.out 1
          have c2_ := blk_cell Z4.out 2
          have c3_ := blk_cell Z4.out 3
          have c4_ := blk_cell Z4.out 4
          have c5_ := blk_cell Z4.out 5
          have c6_ := blk_cell Z4.out 6
          have c7_ := blk_cell Z4.out 7
          refine value_ (w1 := w') (v := .agg #[.int .u64 ra.f0, .int .u64 ra.f1, .int .i64 ra.f2, .int .i64 ra.f3, .int .u64 ra.f4, .bool ra.f5, .int .i64 ra.f6, .slice Aa ra.f7.length ca]) (wanted_on rfl rfl rfl (e38.trans (by first | rfl | (simp [*]; done)))) rfl ?_ ?_
          · go_simp
            (try simp only [i64_w])
            try rfl
          refine hK.out _ _ ⟨(by rw [ha.out]; exact putSel_upk 13 hb_ rfl rfl rfl), Q_B0, Q_Z4, Q_Z5⟩
        refine steps_cons ?_ ?_
        · rintro b a w' ⟨ha, Q_B0, Q_Z4, Q_Z5⟩ hb_ hon hoff
          refine ⟨_, rfl, fun K hK => ?_⟩
          have e39 : a.tmps[39]? = some (.agg #[.int .u64 rb.f0, .int .u64 rb.f1, .int .i64 rb.f2, .int .i64 rb.f3, .int .u64 rb.f4, .bool rb.f5, .int .i64 rb.f6, .slice Ab rb.f7.length cb]) := by rw [ha]; exact putSel_on (e := (12, 39, .agg #[.int .u64 rb.f0, .int .u64 rb.f1, .int .i64 rb.f2, .int .i64 rb.f3, .int .u64 rb.f4, .bool rb.f5, .int .i64 rb.f6, .slice Ab rb.f7.length cb])) 12 rfl rfl (hon 12 (by kernel_rfl)) rfl
          have e40 : a.tmps[40]? = some (.agg #[.int .u64 ra.f0, .int .u64 ra.f1, .int .i64 ra.f2, .int .i64 ra.f3, .int .u64 ra.f4, .bool ra.f5, .int .i64 ra.f6, .slice Aa ra.f7.length ca]) := by rw [ha]; exact putSel_on (e := (13, 40, .agg #[.int .u64 ra.f0, .int .u64 ra.f1, .int .i64 ra.f2, .int .i64 ra.f3, .int .u64 ra.f4, .bool ra.f5, .int .i64 ra.f6, .slice Aa ra.f7.length ca])) 13 rfl rfl (hon 13 (by kernel_rfl)) rfl
          have e38 : a.tmps[38]? = some (.bool true) := by rw [ha]; exact putSel_on (e := (11, 38, .bool true)) 11 rfl rfl (hon 11 (by kernel_rfl)) rfl
          replace ha := Aside0.mk ha
          have B0 := Aside0.mk Q_B0
          have Z4 := Aside0.mk Q_Z4
          have Z5 := Aside0.mk Q_Z5
          refine goes_ Try.func18 (by kernel_rfl) rfl #[.agg #[.int .u64 rb.f0, .int .u64 rb.f1, .int .i64 rb.f2, .int .i64 rb.f3, .int .u64 rb.f4, .bool rb.f5, .int .i64 rb.f6, .slice Ab rb.f7.length cb], .agg #[.int .u64 ra.f0, .int .u64 ra.f1, .int .i64 ra.f2, .int .i64 ra.f3, .int .u64 ra.f4, .bool ra.f5, .int .i64 ra.f6, .slice Aa ra.f7.length ca]] (wanted_on rfl rfl rfl (e38.trans rfl)) rfl rfl (by first | (simp only [List.map_toArray, List.map_cons, List.map_nil, Act.eval, Array.getD_eq_getD_getElem?, Option.getD_some, e39, e40, e38]; done) | (simp only [List.map_toArray, List.map_cons, List.map_nil, Act.eval, Array.getD_eq_getD_getElem?, Option.getD_some, e39, e40, e38]; rfl)) ?_
          with_reducible refine (HBA.out _ B0.out).mono ?_
          rintro e w2 ⟨rfl, hb⟩
          refine ⟨_, rfl, ?_⟩
          refine hK.out _ _ ⟨(by rw [ha.out]; exact putSel_upk 14 hb_ rfl rfl rfl), below_then B0.out B0.out.size hb, blk_below Z4.out hb, blk_below Z5.out hb⟩
        refine steps_cons ?_ ?_
        · rintro b a w' ⟨ha, Q_B0, Q_Z4, Q_Z5⟩ hb_ hon hoff
          refine ⟨_, rfl, fun K hK => ?_⟩
          have e38 : a.tmps[38]? = some (.bool true) := by rw [ha]; exact putSel_on (e := (11, 38, .bool true)) 11 rfl rfl (hon 11 (by kernel_rfl)) rfl
          have e41 : a.tmps[41]? = some (.bool false) := by rw [ha]; exact putSel_on (e := (14, 41, .bool false)) 14 rfl rfl (hon 14 (by kernel_rfl)) rfl
          have e34 : a.tmps[34]? = some (.bool false) := by rw [ha]; exact putSel_on (e := (7, 34, .bool false)) 7 rfl rfl (hon 7 (by kernel_rfl)) rfl
          replace ha := Aside0.mk ha
          have B0 := Aside0.mk Q_B0
          have Z4 := Aside0.mk Q_Z4
          have Z5 := Aside0.mk Q_Z5
          refine value_ (w1 := w') (v := .bool false) (wanted_on rfl rfl rfl (e34.trans (by first | rfl | (simp [*]; done)))) rfl ?_ ?_
          · go_simp
            (try simp only [i64_w])
            try rfl
          refine hK.out _ _ ⟨(by rw [ha.out]; exact putSel_upk 15 hb_ rfl rfl rfl), Q_B0, Q_Z4, Q_Z5⟩
        refine steps_cons ?_ ?_
        · rintro b a w' ⟨ha, Q_B0, Q_Z4, Q_Z5⟩ hb_ hon hoff
          refine ⟨_, rfl, fun K hK => ?_⟩
          have e34 : a.tmps[34]? = some (.bool false) := by rw [ha]; exact putSel_on (e := (7, 34, .bool false)) 7 rfl rfl (hon 7 (by kernel_rfl)) rfl
          have e42 : a.tmps[42]? = some (.bool false) := by rw [ha]; exact putSel_on (e := (15, 42, .bool false)) 15 rfl rfl (hon 15 (by kernel_rfl)) rfl
          replace ha := Aside0.mk ha
          have B0 := Aside0.mk Q_B0
          have Z4 := Aside0.mk Q_Z4
          have Z5 := Aside0.mk Q_Z5
          refine value_ (w1 := w') (v := .bool false) (by rfl) rfl ?_ ?_
          · go_simp
            (try simp only [i64_w])
            try rfl
          refine hK.out _ _ ⟨(by rw [ha.out]; exact putSel_upk 16 hb_ rfl rfl rfl), Q_B0, Q_Z4, Q_Z5⟩
        exact steps_nil
      rintro b a wl hall ⟨ha, Q_B0, Q_Z4, Q_Z5⟩
      clear B0 Z4 Z5
      have hb0_ := hall 0 (by kernel_rfl)
      have hb1_ := hall 1 (by kernel_rfl)
      have hb2_ := hall 2 (by kernel_rfl)
      have hb3_ := hall 3 (by kernel_rfl)
      have hb4_ := hall 4 (by kernel_rfl)
      have hb5_ := hall 5 (by kernel_rfl)
      have hb6_ := hall 6 (by kernel_rfl)
      have hb7_ := hall 7 (by kernel_rfl)
      have hb8_ := hall 8 (by kernel_rfl)
      have hb9_ := hall 9 (by kernel_rfl)
      have hb10_ := hall 10 (by kernel_rfl)
      have hb11_ := hall 11 (by kernel_rfl)
      have hb12_ := hall 12 (by kernel_rfl)
      have hb13_ := hall 13 (by kernel_rfl)
      have hb14_ := hall 14 (by kernel_rfl)
      have hb15_ := hall 15 (by kernel_rfl)
      have hb16_ := hall 16 (by kernel_rfl)
      subst ha
      simp only [putSel, hb0_, hb1_, hb2_, hb3_, hb4_, hb5_, hb6_, hb7_, hb8_, hb9_, hb10_, hb11_, hb12_, hb13_, hb14_, hb15_, hb16_, if_true, Act.put, List.setIfInBounds_toArray, List.set_cons_zero, List.set_cons_succ]
      have B0 := Aside0.mk Q_B0
      clear Q_B0
      have Z4 := Aside0.mk Q_Z4
      clear Q_Z4
      have Z5 := Aside0.mk Q_Z5
      clear Q_Z5
      clear hall hb0_ hb1_ hb2_ hb3_ hb4_ hb5_ hb6_ hb7_ hb8_ hb9_ hb10_ hb11_ hb12_ hb13_ hb14_ hb15_ hb16_
      clear HAB HLB HBA Z5
      have HNX := Aside0.mk (fun W hW => next_calls l HL.out.1 A cp W (Kd.C_below HR.out.2 hW) (headOr (orderOf l)) rfl)
      have HON := Aside0.mk (next_pure l ra)
      have HAL := Aside0.mk (fun x Ax cx y Ay cy W hx hy => less_calls x y Ax cx Ay cy W hx hy)
      obtain ⟨ro, ho⟩ : ∃ ro, ro = headOr (orderOf l) := ⟨_, rfl⟩
      obtain ⟨rn, hn⟩ : ∃ rn, rn = headOr (orderOf (l ++ [ra])) := ⟨_, rfl⟩
      obtain ⟨was, hwas⟩ : ∃ b, b = !(orderOf l).isEmpty := ⟨_, rfl⟩
      obtain ⟨isb, his⟩ : ∃ b, b = !(orderOf (l ++ [ra])).isEmpty := ⟨_, rfl⟩
      have HN2' : Aside0 (∀ W, lightL (l ++ [ra]) → ∀ A c, (l ++ [ra]).length ≤ c → Kd.C k29 W A (l ++ [ra]).length (l ++ [ra]) → _) := ⟨fun W h1 A c _ hC => next_calls2 (l ++ [ra]) h1 A c W hC rn hn⟩
      rw [← ho, ← hwas] at HNX
      rw [← his] at HN2'
      rw [← ho, ← hn, ← hwas, ← his] at HON
      have HPN : Aside0 (was = true → ro.f7.length ≤ 1000) := ⟨fun h => by
        rw [ho]
        exact head_light HL.out.1⟩
      have HPN2 : Aside0 (rn.f7.length ≤ 1000) := ⟨by
        rw [hn]
        exact head_light (light_snoc HL.out.1 (by have := HL.out.2.1; omega) HL.out.2.2.2)⟩
      clear ho hn hwas his
      go_upto_region 6 with (go_at_call 15; (with_reducible refine (HNX.out _ B0.out).mono ?_); rintro e w5 ⟨A7, c7, rfl, hl7, hC7, hb⟩; replace B0 := Aside0.mk (below_then B0.out B0.out.size hb); replace Z4 := Aside0.mk (blk_below Z4.out hb); have H7 := Aside0.mk (And.intro hl7 hC7); clear hb hl7 hC7)
      have hZ7 := heap_alloc_new w5 (.cells #[.int .u64 ro.f0, .int .u64 ro.f1, .int .i64 ro.f2, .int .i64 ro.f3, .int .u64 ro.f4, .bool ro.f5, .int .i64 ro.f6, .slice A7 ro.f7.length c7] 29)
      have hHW := below_alloc B0.out (.cells #[.int .u64 ro.f0, .int .u64 ro.f1, .int .i64 ro.f2, .int .i64 ro.f3, .int .u64 ro.f4, .bool ro.f5, .int .i64 ro.f6, .slice A7 ro.f7.length c7] 29)
      have hZ4 := blk_alloc Z4.out (.cells #[.int .u64 ro.f0, .int .u64 ro.f1, .int .i64 ro.f2, .int .i64 ro.f3, .int .u64 ro.f4, .bool ro.f5, .int .i64 ro.f6, .slice A7 ro.f7.length c7] 29)
      have hP70 : Pg (w5.alloc (.cells #[.int .u64 ro.f0, .int .u64 ro.f1, .int .i64 ro.f2, .int .i64 ro.f3, .int .u64 ro.f4, .bool ro.f5, .int .i64 ro.f6, .slice A7 ro.f7.length c7] 29)) ro A7 c7 := ⟨H7.out.1, Kd.C_below H7.out.2 (below_alloc (Below.refl _ _) _)⟩
      generalize w5.alloc (.cells #[.int .u64 ro.f0, .int .u64 ro.f1, .int .i64 ro.f2, .int .i64 ro.f3, .int .u64 ro.f4, .bool ro.f5, .int .i64 ro.f6, .slice A7 ro.f7.length c7] 29) = W0 at hZ7 hHW hZ4 hP70 ⊢
      generalize w5.heap.size = b7 at hZ7 ⊢
      obtain ⟨ps, hps, hgood, hnone, hcells⟩ := split_row (Kd.C_below HR.out.2 hHW)
      obtain ⟨HE, hHE⟩ : ∃ HE, HE = (ps.map recOf).flatMap Rec.enc := ⟨_, rfl⟩
      obtain ⟨HF, hHF⟩ : ∃ HF, HF = ((ps ++ [((ra, Aa, ca) : Rp)]).map recOf).flatMap Rec.enc := ⟨_, rfl⟩
      have hlen : ps.length = l.length := by rw [← hps, List.length_map]
      have hl60 := HL.out.2.2.2
      have HAP : Aside0 (∀ W, Below W0.heap.size W0 W → ∀ g, W.ownsRow W0.heap.size 29 8 (.slice (some ⟨g, 0, none⟩) 0 0) 0 [] → ∃ v' w', (Builtin.append_ #[22, 22] 22 #[.slice (some ⟨g, 0, none⟩) 0 0, .slice A l.length cp]).run Try.prog W = .ok v' w' ∧ w'.ownsRow W0.heap.size 29 8 v' l.length HE ∧ Below W.heap.size W w' ∧ (v'.ownBlock = some g ∨ v'.ownBlock = some W.heap.size)) := ⟨fun W hW g ho =>
        app_empty W0.heap.size 22 g ho A l.length cp HE (by rw [hHE, encs_len, List.length_map, hlen]) hnone (fun ad had j u hu => pw_cell_below hW (hcells ad had j u (by rw [← hHE]; exact hu))) (by rw [hHE]; intro u hu; obtain ⟨x, _, hx⟩ := List.mem_flatMap.1 hu; exact enc_one x u hx) (by omega) hW.size⟩
      have HAQ : Aside0 (∀ W, Below W0.heap.size W0 W → ∀ v gx, W.ownsRow W0.heap.size 29 8 v l.length HE → W.heap[gx]? = some (.cells #[.int .u64 ra.f0, .int .u64 ra.f1, .int .i64 ra.f2, .int .i64 ra.f3, .int .u64 ra.f4, .bool ra.f5, .int .i64 ra.f6, .slice Aa ra.f7.length ca] 29 (0, 0)) → ∃ v' w', (Builtin.append_ #[22, 22] 22 #[v, .slice (some ⟨gx, 0, none⟩) 1 1]).run Try.prog W = .ok v' w' ∧ w'.ownsRow W0.heap.size 29 8 v' (l.length + 1) HF ∧ W.grownBy w' v.ownBlock) := ⟨fun W hW v gx ho hz => by
        obtain ⟨v', w', h1, h2, h3, _⟩ := app_own W0.heap.size 22 v l.length HE ho ⟨gx, 0, none⟩ 1 1 (recOf (ra, Aa, ca)).enc rfl (fun j u hu => by rw [add_plain, blk_cell hz, ← hu]; show ((recOf (ra, Aa, ca)).enc.toArray)[j]? = _; rw [List.getElem?_toArray]) (enc_one _) (by omega) hW.size
        refine ⟨v', w', h1, ?_, h3⟩
        rw [hHF, List.map_append, List.flatMap_append, ← hHE]
        simpa using h2⟩
      have HN2 : Aside0 (∀ W, Below W0.heap.size W0 W → ∀ A c, W.ownsRow W0.heap.size 29 8 (.slice A (l.length + 1) c) (l.length + 1) HF → Calls Try.prog 15 #[.slice A (l.length + 1) c] W fun e w' => ∃ (A7 : Option Addr) (c7 : Nat), e = .returned (.tuple #[.agg #[.int .u64 rn.f0, .int .u64 rn.f1, .int .i64 rn.f2, .int .i64 rn.f3, .int .u64 rn.f4, .bool rn.f5, .int .i64 rn.f6, .slice A7 rn.f7.length c7], .bool isb]) ∧ Pg w' rn A7 c7 ∧ (∀ ad, 0 < rn.f7.length → A7 = some ad → W.heap.size < ad.block) ∧ Below W.heap.size W w') := ⟨fun W hW A c ho => by
        have hn1 : (ps ++ [((ra, Aa, ca) : Rp)]).length = l.length + 1 := by rw [List.length_append, hlen]; rfl
        rw [← hn1, hHF] at ho
        obtain ⟨A', c', hv, hc', hC'⟩ := own_C ho (fun p hp => by
          rcases List.mem_append.1 hp with h | h
          · exact (hgood p h).below hW
          · rw [List.mem_singleton.1 h]; exact HPA.out.below (hHW.trans (hW.mono hHW.size))) (by omega)
        rw [hn1] at hv hc'
        injection hv with h1 _ h3
        subst h1
        subst h3
        rw [List.map_append, hps] at hC'
        have hll : (l ++ [ra]).length = l.length + 1 := by rw [List.length_append]; rfl
        have := HN2'.out W (light_snoc HL.out.1 (by have := HL.out.2.1; omega) HL.out.2.2.2) A c (by rw [hll]; exact hc') hC'
        rw [hll] at this
        refine this.mono ?_
        rintro e w' ⟨A7, c7, h1, h2, h3, h4, h5⟩
        exact ⟨A7, c7, h1, ⟨h2, h3⟩, h4, h5⟩⟩
      have HW := Aside0.mk hHW
      replace Z4 := Aside0.mk hZ4
      have Z7 := Aside0.mk hZ7
      have P70 := Aside0.mk hP70
      have B0 := Aside0.mk (below_drew1 (Below.refl W0.heap.size W0))
      clear hZ7 hHW hZ4 hP70 hps hgood hnone hcells hHE hHF hlen hl60 HNX HN2' H7
      refine start_ (n := 13) (S := fun w' => True) (ds := []) #[false, false, false, false, false, false, false, false, false, false, false, false, false] (by kernel_rfl) rfl rfl trivial (fun hHeld => ?_)
      refine with_tabW ahead6.tab6 ahead6.bits6 (fun HT_ HW_ => ?_)
      generalize W0.drew = wq at B0 hHeld ⊢
      refine inv_at [0, 1, 2, 3, 4, 5, 6, 7, 8, 9, 10, 11, 12] (fun a0_ b a w' => ∃ (g0 : Nat) (gx : Nat) (g9 : Nat) (v52 : Value) (A55 : Option Addr) (c55 : Nat) (A9 : Option Addr) (c9 : Nat) (m0_ : Value) (m4_ : Value) (m5_ : Value) (m6_ : Value) (m7_ : Value) (m8_ : Value) (m10_ : Value), a = putSel a0_ b [(0, 50, m0_), (1, 51, .slice A l.length cp), (2, 52, v52), (3, 53, .agg #[.int .u64 ra.f0, .int .u64 ra.f1, .int .i64 ra.f2, .int .i64 ra.f3, .int .u64 ra.f4, .bool ra.f5, .int .i64 ra.f6, .slice Aa ra.f7.length ca]), (4, 54, m4_), (5, 55, m5_), (6, 56, m6_), (7, 49, m7_), (8, 57, m8_), (9, 58, .bool isb), (10, 9, m10_), (12, 10, .bool isb)] ∧ (Below W0.heap.size W0 w') ∧ (b 0 = true → b 2 = false → w'.ownsRow W0.heap.size 29 8 (.slice (some ⟨g0, 0, none⟩) 0 0) 0 []) ∧ (b 2 = true → b 5 = false → w'.ownsRow W0.heap.size 29 8 v52 l.length HE) ∧ (b 5 = true → b 6 = false → w'.ownsRow W0.heap.size 29 8 (.slice A55 (l.length + 1) c55) (l.length + 1) HF) ∧ (b 4 = true → b 5 = false → w'.heap[gx]? = some (.cells #[.int .u64 ra.f0, .int .u64 ra.f1, .int .i64 ra.f2, .int .i64 ra.f3, .int .u64 ra.f4, .bool ra.f5, .int .i64 ra.f6, .slice Aa ra.f7.length ca] 29 (0, 0))) ∧ (b 10 = true → b 11 = false → w'.heap[g9]? = some (.cells #[.int .u64 0, .int .u64 0, .int .i64 0, .int .i64 0, .int .u64 0, .bool false, .int .i64 0, .slice none 0 0] 29 (0, 0)) ∧ W0.heap.size ≤ g9) ∧ (b 11 = true → w'.heap[g9]? = some (.cells #[.int .u64 rn.f0, .int .u64 rn.f1, .int .i64 rn.f2, .int .i64 rn.f3, .int .u64 rn.f4, .bool rn.f5, .int .i64 rn.f6, .slice A9 rn.f7.length c9] 29 (0, 0))) ∧ (b 0 = true → b 10 = true → b 2 = false → g0 ≠ g9) ∧ (b 2 = true → b 10 = true → b 5 = false → v52.ownBlock ≠ some g9) ∧ (b 6 = true → Pg w' rn A9 c9) ∧ (b 6 = true → b 10 = true → ∀ ad, 0 < rn.f7.length → A9 = some ad → ad.block ≠ g9) ∧ (b 0 = true → (m0_ : Value) = .slice (some ⟨g0, 0, none⟩) 0 0) ∧ (b 4 = true → (m4_ : Value) = .slice (some ⟨gx, 0, none⟩) 1 1) ∧ (b 5 = true → (m5_ : Value) = .slice A55 (l.length + 1) c55) ∧ (b 6 = true → (m6_ : Value) = .tuple #[.agg #[.int .u64 rn.f0, .int .u64 rn.f1, .int .i64 rn.f2, .int .i64 rn.f3, .int .u64 rn.f4, .bool rn.f5, .int .i64 rn.f6, .slice A9 rn.f7.length c9], .bool isb]) ∧ (b 7 = true → (m7_ : Value) = .tuple #[.agg #[.int .u64 rn.f0, .int .u64 rn.f1, .int .i64 rn.f2, .int .i64 rn.f3, .int .u64 rn.f4, .bool rn.f5, .int .i64 rn.f6, .slice A9 rn.f7.length c9], .bool isb]) ∧ (b 8 = true → (m8_ : Value) = .agg #[.int .u64 rn.f0, .int .u64 rn.f1, .int .i64 rn.f2, .int .i64 rn.f3, .int .u64 rn.f4, .bool rn.f5, .int .i64 rn.f6, .slice A9 rn.f7.length c9]) ∧ (b 10 = true → (m10_ : Value) = .pointer (some ⟨g9, 0, none⟩))) HT_.out HW_.out (by kernel_rfl) (by kernel_rfl) ?_ ?_ ?_
      · exact ⟨0, 0, 0, .bool false, none, 0, none, 0, .bool false, .bool false, .bool false, .bool false, .bool false, .bool false, .bool false, by simp only [putSel, Bool.false_eq_true, if_false], B0.out, fun h_ => absurd h_ (by decide), fun h_ => absurd h_ (by decide), fun h_ => absurd h_ (by decide), fun h_ => absurd h_ (by decide), fun h_ => absurd h_ (by decide), fun h_ => absurd h_ (by decide), fun h_ => absurd h_ (by decide), fun h_ => absurd h_ (by decide), fun h_ => absurd h_ (by decide), fun h_ => absurd h_ (by decide), fun h_ => absurd h_ (by decide), fun h_ => absurd h_ (by decide), fun h_ => absurd h_ (by decide), fun h_ => absurd h_ (by decide), fun h_ => absurd h_ (by decide), fun h_ => absurd h_ (by decide), fun h_ => absurd h_ (by decide)⟩
      · skip
        clear B0
        refine steps_cons ?_ ?_
        · rintro b a w' ⟨g0, gx, g9, v52, A55, c55, A9, c9, m0_, m4_, m5_, m6_, m7_, m8_, m10_, ha, Q_B0, Q_O0, Q_O2, Q_O5, Q_G4, Q_H9, Q_HX, Q_N3, Q_N2, Q_P7, Q_N9, Q_X0_, Q_X4_, Q_X5_, Q_X6_, Q_X7_, Q_X8_, Q_X10_⟩ hb_ hon hoff
          refine ⟨_, rfl, fun K hK => ?_⟩
          replace ha := Aside0.mk ha
          have B0 := Aside0.mk Q_B0
          refine value_ (w1 := w'.alloc (Obj.cells #[] 29)) (v := .slice (some ⟨w'.heap.size, 0, none⟩) 0 0) (by rfl) rfl (by first | (go_simp; done) | (go_simp; rfl)) ?_
          have hb := below_alloc (Below.refl w'.heap.size w') (Obj.cells #[] 29)
          refine hK.out _ _ ⟨w'.heap.size, gx, g9, v52, A55, c55, A9, c9, (.slice (some ⟨w'.heap.size, 0, none⟩) 0 0), m4_, m5_, m6_, m7_, m8_, m10_, (by rw [ha.out]; exact putSel_upk 0 hb_ rfl rfl rfl), below_then B0.out B0.out.size hb, fun _ _ => World.ownsRow_made w' #[] 0 B0.out.size (Nat.zero_le _) rfl, fun h0_ _ => absurd ((hoff 2 (by kernel_rfl)).symm.trans h0_) (by decide), fun h0_ _ => absurd ((hoff 5 (by kernel_rfl)).symm.trans h0_) (by decide), fun h0_ h1_ => blk_below (Q_G4 h0_ h1_) hb, fun h0_ h1_ => ⟨blk_below (Q_H9 h0_ h1_).1 hb, (Q_H9 h0_ h1_).2⟩, fun h0_ => absurd ((hoff 11 (by kernel_rfl)).symm.trans h0_) (by decide), fun _ h1_ _ => Nat.ne_of_gt (blk_lt (Q_H9 h1_ (hoff 11 (by kernel_rfl))).1), fun h0_ _ _ => absurd ((hoff 2 (by kernel_rfl)).symm.trans h0_) (by decide), fun h0_ => absurd ((hoff 6 (by kernel_rfl)).symm.trans h0_) (by decide), fun h0_ _ => absurd ((hoff 6 (by kernel_rfl)).symm.trans h0_) (by decide), fun _ => rfl, Q_X4_, fun h0_ => absurd ((hoff 5 (by kernel_rfl)).symm.trans h0_) (by decide), fun h0_ => absurd ((hoff 6 (by kernel_rfl)).symm.trans h0_) (by decide), fun h0_ => absurd ((hoff 7 (by kernel_rfl)).symm.trans h0_) (by decide), fun h0_ => absurd ((hoff 8 (by kernel_rfl)).symm.trans h0_) (by decide), Q_X10_⟩
        refine steps_cons ?_ ?_
        · rintro b a w' ⟨g0, gx, g9, v52, A55, c55, A9, c9, m0_, m4_, m5_, m6_, m7_, m8_, m10_, ha, Q_B0, Q_O0, Q_O2, Q_O5, Q_G4, Q_H9, Q_HX, Q_N3, Q_N2, Q_P7, Q_N9, Q_X0_, Q_X4_, Q_X5_, Q_X6_, Q_X7_, Q_X8_, Q_X10_⟩ hb_ hon hoff
          refine ⟨_, rfl, fun K hK => ?_⟩
          have e0 : a.tmps[0]? = some (.slice A l.length cp) := by rw [ha]; exact (putSel_off rfl).trans rfl
          replace ha := Aside0.mk ha
          have B0 := Aside0.mk Q_B0
          refine value_ (w1 := w') (v := .slice A l.length cp) (by rfl) rfl ?_ ?_
          · go_simp
            (try simp only [i64_w])
            try rfl
          refine hK.out _ _ ⟨g0, gx, g9, v52, A55, c55, A9, c9, m0_, m4_, m5_, m6_, m7_, m8_, m10_, (by rw [ha.out]; exact putSel_upk 1 hb_ rfl rfl rfl), Q_B0, Q_O0, fun h0_ _ => absurd ((hoff 2 (by kernel_rfl)).symm.trans h0_) (by decide), fun h0_ _ => absurd ((hoff 5 (by kernel_rfl)).symm.trans h0_) (by decide), Q_G4, Q_H9, fun h0_ => absurd ((hoff 11 (by kernel_rfl)).symm.trans h0_) (by decide), Q_N3, fun h0_ _ _ => absurd ((hoff 2 (by kernel_rfl)).symm.trans h0_) (by decide), fun h0_ => absurd ((hoff 6 (by kernel_rfl)).symm.trans h0_) (by decide), fun h0_ _ => absurd ((hoff 6 (by kernel_rfl)).symm.trans h0_) (by decide), Q_X0_, Q_X4_, fun h0_ => absurd ((hoff 5 (by kernel_rfl)).symm.trans h0_) (by decide), fun h0_ => absurd ((hoff 6 (by kernel_rfl)).symm.trans h0_) (by decide), fun h0_ => absurd ((hoff 7 (by kernel_rfl)).symm.trans h0_) (by decide), fun h0_ => absurd ((hoff 8 (by kernel_rfl)).symm.trans h0_) (by decide), Q_X10_⟩
        refine steps_cons ?_ ?_
        · rintro b a w' ⟨g0, gx, g9, v52, A55, c55, A9, c9, m0_, m4_, m5_, m6_, m7_, m8_, m10_, ha, Q_B0, Q_O0, Q_O2, Q_O5, Q_G4, Q_H9, Q_HX, Q_N3, Q_N2, Q_P7, Q_N9, Q_X0_, Q_X4_, Q_X5_, Q_X6_, Q_X7_, Q_X8_, Q_X10_⟩ hb_ hon hoff
          refine ⟨_, rfl, fun K hK => ?_⟩
          have e50 : a.tmps[50]? = some (m0_) := by rw [ha]; exact putSel_on (e := (0, 50, m0_)) 0 rfl rfl (hon 0 (by kernel_rfl)) rfl
          rw [Q_X0_ (hon 0 (by kernel_rfl))] at e50
          have e51 : a.tmps[51]? = some (.slice A l.length cp) := by rw [ha]; exact putSel_on (e := (1, 51, .slice A l.length cp)) 1 rfl rfl (hon 1 (by kernel_rfl)) rfl
          replace ha := Aside0.mk ha
          have B0 := Aside0.mk Q_B0
          have O0 := Aside0.mk (Q_O0 (hon 0 (by kernel_rfl)) hb_)
          obtain ⟨v_, w2, hr_, ho_, hb, hat_⟩ := HAP.out _ B0.out g0 O0.out
          refine app_step (by rfl) rfl rfl e50 e51 hr_ ?_
          refine hK.out _ _ ⟨g0, gx, g9, v_, A55, c55, A9, c9, m0_, m4_, m5_, m6_, m7_, m8_, m10_, (by rw [ha.out]; exact putSel_upk 2 hb_ rfl rfl rfl), below_then B0.out B0.out.size hb, fun _ h1_ => absurd ((up_self b 2).symm.trans h1_) (by decide), fun _ _ => ho_, fun h0_ _ => absurd ((hoff 5 (by kernel_rfl)).symm.trans h0_) (by decide), fun h0_ h1_ => blk_below (Q_G4 h0_ h1_) hb, fun h0_ h1_ => ⟨blk_below (Q_H9 h0_ h1_).1 hb, (Q_H9 h0_ h1_).2⟩, fun h0_ => absurd ((hoff 11 (by kernel_rfl)).symm.trans h0_) (by decide), fun _ _ h2_ => absurd ((up_self b 2).symm.trans h2_) (by decide), fun _ h1_ _ => ne_of_hat hat_ (Q_N3 (hon 0 (by kernel_rfl)) h1_ hb_) (blk_lt (Q_H9 h1_ (hoff 11 (by kernel_rfl))).1), fun h0_ => absurd ((hoff 6 (by kernel_rfl)).symm.trans h0_) (by decide), fun h0_ _ => absurd ((hoff 6 (by kernel_rfl)).symm.trans h0_) (by decide), Q_X0_, Q_X4_, fun h0_ => absurd ((hoff 5 (by kernel_rfl)).symm.trans h0_) (by decide), fun h0_ => absurd ((hoff 6 (by kernel_rfl)).symm.trans h0_) (by decide), fun h0_ => absurd ((hoff 7 (by kernel_rfl)).symm.trans h0_) (by decide), fun h0_ => absurd ((hoff 8 (by kernel_rfl)).symm.trans h0_) (by decide), Q_X10_⟩
        refine steps_cons ?_ ?_
        · rintro b a w' ⟨g0, gx, g9, v52, A55, c55, A9, c9, m0_, m4_, m5_, m6_, m7_, m8_, m10_, ha, Q_B0, Q_O0, Q_O2, Q_O5, Q_G4, Q_H9, Q_HX, Q_N3, Q_N2, Q_P7, Q_N9, Q_X0_, Q_X4_, Q_X5_, Q_X6_, Q_X7_, Q_X8_, Q_X10_⟩ hb_ hon hoff
          refine ⟨_, rfl, fun K hK => ?_⟩
          have e4 : a.tmps[4]? = some (.pointer (some ⟨w.heap.size, 0, none⟩)) := by rw [ha]; exact (putSel_off rfl).trans rfl
          replace ha := Aside0.mk ha
          have B0 := Aside0.mk Q_B0
          have hz_ := blk_below Z4.out B0.out
          have c0_ := blk_cell hz_ 0
          have c1_ := blk_cell hz_ 1
          have c2_ := blk_cell hz_ 2
          have c3_ := blk_cell hz_ 3
          have c4_ := blk_cell hz_ 4
          have c5_ := blk_cell hz_ 5
          have c6_ := blk_cell hz_ 6
          have c7_ := blk_cell hz_ 7
          clear hz_
          refine value_ (w1 := w') (v := .agg #[.int .u64 ra.f0, .int .u64 ra.f1, .int .i64 ra.f2, .int .i64 ra.f3, .int .u64 ra.f4, .bool ra.f5, .int .i64 ra.f6, .slice Aa ra.f7.length ca]) (by rfl) rfl ?_ ?_
          · go_simp
            (try simp only [i64_w])
            try rfl
          refine hK.out _ _ ⟨g0, gx, g9, v52, A55, c55, A9, c9, m0_, m4_, m5_, m6_, m7_, m8_, m10_, (by rw [ha.out]; exact putSel_upk 3 hb_ rfl rfl rfl), Q_B0, Q_O0, Q_O2, fun h0_ _ => absurd ((hoff 5 (by kernel_rfl)).symm.trans h0_) (by decide), fun h0_ _ => absurd ((hoff 4 (by kernel_rfl)).symm.trans h0_) (by decide), Q_H9, fun h0_ => absurd ((hoff 11 (by kernel_rfl)).symm.trans h0_) (by decide), Q_N3, Q_N2, fun h0_ => absurd ((hoff 6 (by kernel_rfl)).symm.trans h0_) (by decide), fun h0_ _ => absurd ((hoff 6 (by kernel_rfl)).symm.trans h0_) (by decide), Q_X0_, fun h0_ => absurd ((hoff 4 (by kernel_rfl)).symm.trans h0_) (by decide), fun h0_ => absurd ((hoff 5 (by kernel_rfl)).symm.trans h0_) (by decide), fun h0_ => absurd ((hoff 6 (by kernel_rfl)).symm.trans h0_) (by decide), fun h0_ => absurd ((hoff 7 (by kernel_rfl)).symm.trans h0_) (by decide), fun h0_ => absurd ((hoff 8 (by kernel_rfl)).symm.trans h0_) (by decide), Q_X10_⟩
        refine steps_cons ?_ ?_
        · rintro b a w' ⟨g0, gx, g9, v52, A55, c55, A9, c9, m0_, m4_, m5_, m6_, m7_, m8_, m10_, ha, Q_B0, Q_O0, Q_O2, Q_O5, Q_G4, Q_H9, Q_HX, Q_N3, Q_N2, Q_P7, Q_N9, Q_X0_, Q_X4_, Q_X5_, Q_X6_, Q_X7_, Q_X8_, Q_X10_⟩ hb_ hon hoff
          refine ⟨_, rfl, fun K hK => ?_⟩
          have e53 : a.tmps[53]? = some (.agg #[.int .u64 ra.f0, .int .u64 ra.f1, .int .i64 ra.f2, .int .i64 ra.f3, .int .u64 ra.f4, .bool ra.f5, .int .i64 ra.f6, .slice Aa ra.f7.length ca]) := by rw [ha]; exact putSel_on (e := (3, 53, .agg #[.int .u64 ra.f0, .int .u64 ra.f1, .int .i64 ra.f2, .int .i64 ra.f3, .int .u64 ra.f4, .bool ra.f5, .int .i64 ra.f6, .slice Aa ra.f7.length ca])) 3 rfl rfl (hon 3 (by kernel_rfl)) rfl
          replace ha := Aside0.mk ha
          have B0 := Aside0.mk Q_B0
          refine value_ (w1 := w'.alloc (Obj.cells #[.int .u64 ra.f0, .int .u64 ra.f1, .int .i64 ra.f2, .int .i64 ra.f3, .int .u64 ra.f4, .bool ra.f5, .int .i64 ra.f6, .slice Aa ra.f7.length ca] 29)) (v := .slice (some ⟨w'.heap.size, 0, none⟩) 1 1) (by rfl) rfl (by first | (go_simp; done) | (go_simp; rfl)) ?_
          have hb := below_alloc (Below.refl w'.heap.size w') (Obj.cells #[.int .u64 ra.f0, .int .u64 ra.f1, .int .i64 ra.f2, .int .i64 ra.f3, .int .u64 ra.f4, .bool ra.f5, .int .i64 ra.f6, .slice Aa ra.f7.length ca] 29)
          refine hK.out _ _ ⟨g0, w'.heap.size, g9, v52, A55, c55, A9, c9, m0_, (.slice (some ⟨w'.heap.size, 0, none⟩) 1 1), m5_, m6_, m7_, m8_, m10_, (by rw [ha.out]; exact putSel_upk 4 hb_ rfl rfl rfl), below_then B0.out B0.out.size hb, fun h0_ h1_ => World.ownsRow.alloc ((Q_O0 h0_ h1_)) _, fun h0_ h1_ => World.ownsRow.alloc ((Q_O2 h0_ h1_)) _, fun h0_ _ => absurd ((hoff 5 (by kernel_rfl)).symm.trans h0_) (by decide), fun _ _ => heap_alloc_new w' _, fun h0_ h1_ => ⟨blk_below (Q_H9 h0_ h1_).1 hb, (Q_H9 h0_ h1_).2⟩, fun h0_ => absurd ((hoff 11 (by kernel_rfl)).symm.trans h0_) (by decide), Q_N3, Q_N2, fun h0_ => absurd ((hoff 6 (by kernel_rfl)).symm.trans h0_) (by decide), fun h0_ _ => absurd ((hoff 6 (by kernel_rfl)).symm.trans h0_) (by decide), Q_X0_, fun _ => rfl, fun h0_ => absurd ((hoff 5 (by kernel_rfl)).symm.trans h0_) (by decide), fun h0_ => absurd ((hoff 6 (by kernel_rfl)).symm.trans h0_) (by decide), fun h0_ => absurd ((hoff 7 (by kernel_rfl)).symm.trans h0_) (by decide), fun h0_ => absurd ((hoff 8 (by kernel_rfl)).symm.trans h0_) (by decide), Q_X10_⟩
        refine steps_cons ?_ ?_
        · rintro b a w' ⟨g0, gx, g9, v52, A55, c55, A9, c9, m0_, m4_, m5_, m6_, m7_, m8_, m10_, ha, Q_B0, Q_O0, Q_O2, Q_O5, Q_G4, Q_H9, Q_HX, Q_N3, Q_N2, Q_P7, Q_N9, Q_X0_, Q_X4_, Q_X5_, Q_X6_, Q_X7_, Q_X8_, Q_X10_⟩ hb_ hon hoff
          refine ⟨_, rfl, fun K hK => ?_⟩
          have e52 : a.tmps[52]? = some (v52) := by rw [ha]; exact putSel_on (e := (2, 52, v52)) 2 rfl rfl (hon 2 (by kernel_rfl)) rfl
          have e54 : a.tmps[54]? = some (m4_) := by rw [ha]; exact putSel_on (e := (4, 54, m4_)) 4 rfl rfl (hon 4 (by kernel_rfl)) rfl
          rw [Q_X4_ (hon 4 (by kernel_rfl))] at e54
          replace ha := Aside0.mk ha
          have B0 := Aside0.mk Q_B0
          have O2 := Aside0.mk (Q_O2 (hon 2 (by kernel_rfl)) hb_)
          have G4 := Aside0.mk (Q_G4 (hon 4 (by kernel_rfl)) hb_)
          obtain ⟨v_, w2, hr_, ho_, hg_⟩ := HAQ.out _ B0.out v52 gx O2.out G4.out
          obtain ⟨A_, c_, rfl⟩ := own_slice ho_
          refine app_step (by rfl) rfl rfl e52 e54 hr_ ?_
          refine hK.out _ _ ⟨g0, gx, g9, v52, A_, c_, A9, c9, m0_, m4_, (.slice A_ (l.length + 1) c_), m6_, m7_, m8_, m10_, (by rw [ha.out]; exact putSel_upk 5 hb_ rfl rfl rfl), pw_below_grown B0.out _ B0.out.size hg_ (own_base O2.out), fun _ h1_ => absurd ((hon 2 (by kernel_rfl)).symm.trans h1_) (by decide), fun _ h1_ => absurd ((up_self b 5).symm.trans h1_) (by decide), fun _ _ => ho_, fun _ h1_ => absurd ((up_self b 5).symm.trans h1_) (by decide), fun h0_ h1_ => ⟨blk_grown (Q_H9 h0_ h1_).1 hg_ (Ne.symm (Q_N2 (hon 2 (by kernel_rfl)) h0_ hb_)), (Q_H9 h0_ h1_).2⟩, fun h0_ => absurd ((hoff 11 (by kernel_rfl)).symm.trans h0_) (by decide), fun _ _ h2_ => absurd ((hon 2 (by kernel_rfl)).symm.trans h2_) (by decide), fun _ _ h2_ => absurd ((up_self b 5).symm.trans h2_) (by decide), fun h0_ => absurd ((hoff 6 (by kernel_rfl)).symm.trans h0_) (by decide), fun h0_ _ => absurd ((hoff 6 (by kernel_rfl)).symm.trans h0_) (by decide), Q_X0_, Q_X4_, fun _ => rfl, fun h0_ => absurd ((hoff 6 (by kernel_rfl)).symm.trans h0_) (by decide), fun h0_ => absurd ((hoff 7 (by kernel_rfl)).symm.trans h0_) (by decide), fun h0_ => absurd ((hoff 8 (by kernel_rfl)).symm.trans h0_) (by decide), Q_X10_⟩
        refine steps_cons ?_ ?_
        · rintro b a w' ⟨g0, gx, g9, v52, A55, c55, A9, c9, m0_, m4_, m5_, m6_, m7_, m8_, m10_, ha, Q_B0, Q_O0, Q_O2, Q_O5, Q_G4, Q_H9, Q_HX, Q_N3, Q_N2, Q_P7, Q_N9, Q_X0_, Q_X4_, Q_X5_, Q_X6_, Q_X7_, Q_X8_, Q_X10_⟩ hb_ hon hoff
          refine ⟨_, rfl, fun K hK => ?_⟩
          have e55 : a.tmps[55]? = some (m5_) := by rw [ha]; exact putSel_on (e := (5, 55, m5_)) 5 rfl rfl (hon 5 (by kernel_rfl)) rfl
          rw [Q_X5_ (hon 5 (by kernel_rfl))] at e55
          replace ha := Aside0.mk ha
          have B0 := Aside0.mk Q_B0
          have O5 := Aside0.mk (Q_O5 (hon 5 (by kernel_rfl)) hb_)
          refine goes_ Try.func15 (by kernel_rfl) rfl #[.slice A55 (l.length + 1) c55] (by rfl) rfl rfl (by first | (simp only [List.map_toArray, List.map_cons, List.map_nil, Act.eval, Array.getD_eq_getD_getElem?, Option.getD_some, e55]; done) | (simp only [List.map_toArray, List.map_cons, List.map_nil, Act.eval, Array.getD_eq_getD_getElem?, Option.getD_some, e55]; rfl)) ?_
          with_reducible refine (HN2.out _ B0.out A55 c55 O5.out).mono ?_
          rintro e w2 ⟨A_, c_, rfl, hP_, hn_, hb⟩
          refine ⟨_, rfl, ?_⟩
          refine hK.out _ _ ⟨g0, gx, g9, v52, A55, c55, A_, c_, m0_, m4_, m5_, (.tuple #[.agg #[.int .u64 rn.f0, .int .u64 rn.f1, .int .i64 rn.f2, .int .i64 rn.f3, .int .u64 rn.f4, .bool rn.f5, .int .i64 rn.f6, .slice A_ rn.f7.length c_], .bool isb]), m7_, m8_, m10_, (by rw [ha.out]; exact putSel_upk 6 hb_ rfl rfl rfl), below_then B0.out B0.out.size hb, fun _ h1_ => absurd ((hon 2 (by kernel_rfl)).symm.trans h1_) (by decide), fun _ h1_ => absurd ((hon 5 (by kernel_rfl)).symm.trans h1_) (by decide), fun _ h1_ => absurd ((up_self b 6).symm.trans h1_) (by decide), fun _ h1_ => absurd ((hon 5 (by kernel_rfl)).symm.trans h1_) (by decide), fun h0_ h1_ => ⟨blk_below (Q_H9 h0_ h1_).1 hb, (Q_H9 h0_ h1_).2⟩, fun h0_ => absurd ((hoff 11 (by kernel_rfl)).symm.trans h0_) (by decide), fun _ _ h2_ => absurd ((hon 2 (by kernel_rfl)).symm.trans h2_) (by decide), fun _ _ h2_ => absurd ((hon 5 (by kernel_rfl)).symm.trans h2_) (by decide), fun _ => hP_, fun _ h1_ ad k1 k2 => Nat.ne_of_gt (Nat.lt_trans (blk_lt (Q_H9 h1_ (hoff 11 (by kernel_rfl))).1) (hn_ ad k1 k2)), Q_X0_, Q_X4_, Q_X5_, fun _ => rfl, fun h0_ => absurd ((hoff 7 (by kernel_rfl)).symm.trans h0_) (by decide), fun h0_ => absurd ((hoff 8 (by kernel_rfl)).symm.trans h0_) (by decide), Q_X10_⟩
        refine steps_cons ?_ ?_
        · rintro b a w' ⟨g0, gx, g9, v52, A55, c55, A9, c9, m0_, m4_, m5_, m6_, m7_, m8_, m10_, ha, Q_B0, Q_O0, Q_O2, Q_O5, Q_G4, Q_H9, Q_HX, Q_N3, Q_N2, Q_P7, Q_N9, Q_X0_, Q_X4_, Q_X5_, Q_X6_, Q_X7_, Q_X8_, Q_X10_⟩ hb_ hon hoff
          refine ⟨_, rfl, fun K hK => ?_⟩
          have e56 : a.tmps[56]? = some (m6_) := by rw [ha]; exact putSel_on (e := (6, 56, m6_)) 6 rfl rfl (hon 6 (by kernel_rfl)) rfl
          rw [Q_X6_ (hon 6 (by kernel_rfl))] at e56
          replace ha := Aside0.mk ha
          have B0 := Aside0.mk Q_B0
          have P7 := Aside0.mk (Q_P7 (hon 6 (by kernel_rfl)))
          refine value_ (w1 := w') (v := .tuple #[.agg #[.int .u64 rn.f0, .int .u64 rn.f1, .int .i64 rn.f2, .int .i64 rn.f3, .int .u64 rn.f4, .bool rn.f5, .int .i64 rn.f6, .slice A9 rn.f7.length c9], .bool isb]) (by rfl) rfl ?_ ?_
          · go_simp
            (try simp only [i64_w])
            try rfl
          refine hK.out _ _ ⟨g0, gx, g9, v52, A55, c55, A9, c9, m0_, m4_, m5_, m6_, (.tuple #[.agg #[.int .u64 rn.f0, .int .u64 rn.f1, .int .i64 rn.f2, .int .i64 rn.f3, .int .u64 rn.f4, .bool rn.f5, .int .i64 rn.f6, .slice A9 rn.f7.length c9], .bool isb]), m8_, m10_, (by rw [ha.out]; exact putSel_upk 7 hb_ rfl rfl rfl), Q_B0, fun _ h1_ => absurd ((hon 2 (by kernel_rfl)).symm.trans h1_) (by decide), fun _ h1_ => absurd ((hon 5 (by kernel_rfl)).symm.trans h1_) (by decide), fun _ h1_ => absurd ((hon 6 (by kernel_rfl)).symm.trans h1_) (by decide), fun _ h1_ => absurd ((hon 5 (by kernel_rfl)).symm.trans h1_) (by decide), Q_H9, fun h0_ => absurd ((hoff 11 (by kernel_rfl)).symm.trans h0_) (by decide), fun _ _ h2_ => absurd ((hon 2 (by kernel_rfl)).symm.trans h2_) (by decide), fun _ _ h2_ => absurd ((hon 5 (by kernel_rfl)).symm.trans h2_) (by decide), Q_P7, Q_N9, Q_X0_, Q_X4_, Q_X5_, Q_X6_, fun _ => rfl, fun h0_ => absurd ((hoff 8 (by kernel_rfl)).symm.trans h0_) (by decide), Q_X10_⟩
        refine steps_cons ?_ ?_
        · rintro b a w' ⟨g0, gx, g9, v52, A55, c55, A9, c9, m0_, m4_, m5_, m6_, m7_, m8_, m10_, ha, Q_B0, Q_O0, Q_O2, Q_O5, Q_G4, Q_H9, Q_HX, Q_N3, Q_N2, Q_P7, Q_N9, Q_X0_, Q_X4_, Q_X5_, Q_X6_, Q_X7_, Q_X8_, Q_X10_⟩ hb_ hon hoff
          refine ⟨_, rfl, fun K hK => ?_⟩
          have e49 : a.tmps[49]? = some (m7_) := by rw [ha]; exact putSel_on (e := (7, 49, m7_)) 7 rfl rfl (hon 7 (by kernel_rfl)) rfl
          rw [Q_X7_ (hon 7 (by kernel_rfl))] at e49
          replace ha := Aside0.mk ha
          have B0 := Aside0.mk Q_B0
          have P7 := Aside0.mk (Q_P7 (hon 6 (by kernel_rfl)))
          refine value_ (w1 := w') (v := .agg #[.int .u64 rn.f0, .int .u64 rn.f1, .int .i64 rn.f2, .int .i64 rn.f3, .int .u64 rn.f4, .bool rn.f5, .int .i64 rn.f6, .slice A9 rn.f7.length c9]) (by rfl) rfl ?_ ?_
          · go_simp
            (try simp only [i64_w])
            try rfl
          refine hK.out _ _ ⟨g0, gx, g9, v52, A55, c55, A9, c9, m0_, m4_, m5_, m6_, m7_, (.agg #[.int .u64 rn.f0, .int .u64 rn.f1, .int .i64 rn.f2, .int .i64 rn.f3, .int .u64 rn.f4, .bool rn.f5, .int .i64 rn.f6, .slice A9 rn.f7.length c9]), m10_, (by rw [ha.out]; exact putSel_upk 8 hb_ rfl rfl rfl), Q_B0, fun _ h1_ => absurd ((hon 2 (by kernel_rfl)).symm.trans h1_) (by decide), fun _ h1_ => absurd ((hon 5 (by kernel_rfl)).symm.trans h1_) (by decide), fun _ h1_ => absurd ((hon 6 (by kernel_rfl)).symm.trans h1_) (by decide), fun _ h1_ => absurd ((hon 5 (by kernel_rfl)).symm.trans h1_) (by decide), Q_H9, fun h0_ => absurd ((hoff 11 (by kernel_rfl)).symm.trans h0_) (by decide), fun _ _ h2_ => absurd ((hon 2 (by kernel_rfl)).symm.trans h2_) (by decide), fun _ _ h2_ => absurd ((hon 5 (by kernel_rfl)).symm.trans h2_) (by decide), Q_P7, Q_N9, Q_X0_, Q_X4_, Q_X5_, Q_X6_, Q_X7_, fun _ => rfl, Q_X10_⟩
        refine steps_cons ?_ ?_
        · rintro b a w' ⟨g0, gx, g9, v52, A55, c55, A9, c9, m0_, m4_, m5_, m6_, m7_, m8_, m10_, ha, Q_B0, Q_O0, Q_O2, Q_O5, Q_G4, Q_H9, Q_HX, Q_N3, Q_N2, Q_P7, Q_N9, Q_X0_, Q_X4_, Q_X5_, Q_X6_, Q_X7_, Q_X8_, Q_X10_⟩ hb_ hon hoff
          refine ⟨_, rfl, fun K hK => ?_⟩
          have e49 : a.tmps[49]? = some (m7_) := by rw [ha]; exact putSel_on (e := (7, 49, m7_)) 7 rfl rfl (hon 7 (by kernel_rfl)) rfl
          rw [Q_X7_ (hon 7 (by kernel_rfl))] at e49
          replace ha := Aside0.mk ha
          have B0 := Aside0.mk Q_B0
          have P7 := Aside0.mk (Q_P7 (hon 6 (by kernel_rfl)))
          refine value_ (w1 := w') (v := .bool isb) (by rfl) rfl ?_ ?_
          · go_simp
            (try simp only [i64_w])
            try rfl
          refine hK.out _ _ ⟨g0, gx, g9, v52, A55, c55, A9, c9, m0_, m4_, m5_, m6_, m7_, m8_, m10_, (by rw [ha.out]; exact putSel_upk 9 hb_ rfl rfl rfl), Q_B0, fun _ h1_ => absurd ((hon 2 (by kernel_rfl)).symm.trans h1_) (by decide), fun _ h1_ => absurd ((hon 5 (by kernel_rfl)).symm.trans h1_) (by decide), fun _ h1_ => absurd ((hon 6 (by kernel_rfl)).symm.trans h1_) (by decide), fun _ h1_ => absurd ((hon 5 (by kernel_rfl)).symm.trans h1_) (by decide), Q_H9, Q_HX, fun _ _ h2_ => absurd ((hon 2 (by kernel_rfl)).symm.trans h2_) (by decide), fun _ _ h2_ => absurd ((hon 5 (by kernel_rfl)).symm.trans h2_) (by decide), Q_P7, Q_N9, Q_X0_, Q_X4_, Q_X5_, Q_X6_, Q_X7_, Q_X8_, Q_X10_⟩
        refine steps_cons ?_ ?_
        · rintro b a w' ⟨g0, gx, g9, v52, A55, c55, A9, c9, m0_, m4_, m5_, m6_, m7_, m8_, m10_, ha, Q_B0, Q_O0, Q_O2, Q_O5, Q_G4, Q_H9, Q_HX, Q_N3, Q_N2, Q_P7, Q_N9, Q_X0_, Q_X4_, Q_X5_, Q_X6_, Q_X7_, Q_X8_, Q_X10_⟩ hb_ hon hoff
          refine ⟨_, rfl, fun K hK => ?_⟩
          replace ha := Aside0.mk ha
          have B0 := Aside0.mk Q_B0
          refine value_ (w1 := w'.alloc (Obj.cells #[.int .u64 0, .int .u64 0, .int .i64 0, .int .i64 0, .int .u64 0, .bool false, .int .i64 0, .slice none 0 0] 29)) (v := .pointer (some ⟨w'.heap.size, 0, none⟩)) (by rfl) rfl (by first | (go_simp; done) | (go_simp; rfl)) ?_
          have hb := below_alloc (Below.refl w'.heap.size w') (Obj.cells #[.int .u64 0, .int .u64 0, .int .i64 0, .int .i64 0, .int .u64 0, .bool false, .int .i64 0, .slice none 0 0] 29)
          refine hK.out _ _ ⟨g0, gx, w'.heap.size, v52, A55, c55, A9, c9, m0_, m4_, m5_, m6_, m7_, m8_, (.pointer (some ⟨w'.heap.size, 0, none⟩)), (by rw [ha.out]; exact putSel_upk 10 hb_ rfl rfl rfl), below_then B0.out B0.out.size hb, fun h0_ h1_ => World.ownsRow.alloc ((Q_O0 h0_ h1_)) _, fun h0_ h1_ => World.ownsRow.alloc ((Q_O2 h0_ h1_)) _, fun h0_ h1_ => World.ownsRow.alloc ((Q_O5 h0_ h1_)) _, fun h0_ h1_ => blk_below (Q_G4 h0_ h1_) hb, fun _ _ => ⟨heap_alloc_new w' _, B0.out.size⟩, fun h0_ => absurd ((hoff 11 (by kernel_rfl)).symm.trans h0_) (by decide), fun h0_ _ h2_ => Nat.ne_of_lt (own_lt (Q_O0 h0_ h2_) _ rfl), fun h0_ _ h2_ e_ => absurd (own_lt (Q_O2 h0_ h2_) _ e_) (Nat.lt_irrefl _), fun h0_ => (Q_P7 h0_).below hb, fun h0_ _ ad k1 k2 => Nat.ne_of_lt (c_lt (Q_P7 h0_).2 k1 k2), Q_X0_, Q_X4_, Q_X5_, Q_X6_, Q_X7_, Q_X8_, fun _ => rfl⟩
        refine steps_cons ?_ ?_
        · rintro b a w' ⟨g0, gx, g9, v52, A55, c55, A9, c9, m0_, m4_, m5_, m6_, m7_, m8_, m10_, ha, Q_B0, Q_O0, Q_O2, Q_O5, Q_G4, Q_H9, Q_HX, Q_N3, Q_N2, Q_P7, Q_N9, Q_X0_, Q_X4_, Q_X5_, Q_X6_, Q_X7_, Q_X8_, Q_X10_⟩ hb_ hon hoff
          refine ⟨_, rfl, fun K hK => ?_⟩
          have e9 : a.tmps[9]? = some (m10_) := by rw [ha]; exact putSel_on (e := (10, 9, m10_)) 10 rfl rfl (hon 10 (by kernel_rfl)) rfl
          rw [Q_X10_ (hon 10 (by kernel_rfl))] at e9
          have e57 : a.tmps[57]? = some (m8_) := by rw [ha]; exact putSel_on (e := (8, 57, m8_)) 8 rfl rfl (hon 8 (by kernel_rfl)) rfl
          rw [Q_X8_ (hon 8 (by kernel_rfl))] at e57
          replace ha := Aside0.mk ha
          have B0 := Aside0.mk Q_B0
          have H9 := Aside0.mk (Q_H9 (hon 10 (by kernel_rfl)) hb_)
          have P7 := Aside0.mk (Q_P7 (hon 6 (by kernel_rfl)))
          have N9 := Aside0.mk (Q_N9 (hon 6 (by kernel_rfl)) (hon 10 (by kernel_rfl)))
          have d0 := blk_cell H9.out.1 0
          have d1 := blk_cell H9.out.1 1
          have d2 := blk_cell H9.out.1 2
          have d3 := blk_cell H9.out.1 3
          have d4 := blk_cell H9.out.1 4
          have d5 := blk_cell H9.out.1 5
          have d6 := blk_cell H9.out.1 6
          have d7 := blk_cell H9.out.1 7
          have f0 := blk_frozen H9.out.1 0
          have f1 := blk_frozen H9.out.1 1
          have f2 := blk_frozen H9.out.1 2
          have f3 := blk_frozen H9.out.1 3
          have f4 := blk_frozen H9.out.1 4
          have f5 := blk_frozen H9.out.1 5
          have f6 := blk_frozen H9.out.1 6
          have f7 := blk_frozen H9.out.1 7
          have hst := store8 rn A9 c9 H9.out B0.out
          refine skip_ (w1 := ?_) (by rfl) rfl ?_ ?_
          rotate_left
          · go_simp
            rfl
          refine hK.out _ _ ⟨g0, gx, g9, v52, A55, c55, A9, c9, m0_, m4_, m5_, m6_, m7_, m8_, m10_, (by rw [ha.out]; exact putSel_none (v := undef) rfl), hst.1, fun _ h1_ => absurd ((hon 2 (by kernel_rfl)).symm.trans h1_) (by decide), fun _ h1_ => absurd ((hon 5 (by kernel_rfl)).symm.trans h1_) (by decide), fun _ h1_ => absurd ((hon 6 (by kernel_rfl)).symm.trans h1_) (by decide), fun _ h1_ => absurd ((hon 5 (by kernel_rfl)).symm.trans h1_) (by decide), fun _ h1_ => absurd ((up_self b 11).symm.trans h1_) (by decide), fun _ => hst.2, fun _ _ h2_ => absurd ((hon 2 (by kernel_rfl)).symm.trans h2_) (by decide), fun _ _ h2_ => absurd ((hon 5 (by kernel_rfl)).symm.trans h2_) (by decide), fun _ => ⟨P7.out.1, c_far8 P7.out.2 N9.out _ _ _ _ _ _ _ _⟩, Q_N9, Q_X0_, Q_X4_, Q_X5_, Q_X6_, Q_X7_, Q_X8_, Q_X10_⟩
        refine steps_cons ?_ ?_
        · rintro b a w' ⟨g0, gx, g9, v52, A55, c55, A9, c9, m0_, m4_, m5_, m6_, m7_, m8_, m10_, ha, Q_B0, Q_O0, Q_O2, Q_O5, Q_G4, Q_H9, Q_HX, Q_N3, Q_N2, Q_P7, Q_N9, Q_X0_, Q_X4_, Q_X5_, Q_X6_, Q_X7_, Q_X8_, Q_X10_⟩ hb_ hon hoff
          refine ⟨_, rfl, fun K hK => ?_⟩
          have e58 : a.tmps[58]? = some (.bool isb) := by rw [ha]; exact putSel_on (e := (9, 58, .bool isb)) 9 rfl rfl (hon 9 (by kernel_rfl)) rfl
          replace ha := Aside0.mk ha
          have B0 := Aside0.mk Q_B0
          have HX := Aside0.mk (Q_HX (hon 11 (by kernel_rfl)))
          have P7 := Aside0.mk (Q_P7 (hon 6 (by kernel_rfl)))
          have N9 := Aside0.mk (Q_N9 (hon 6 (by kernel_rfl)) (hon 10 (by kernel_rfl)))
          refine value_ (w1 := w') (v := .bool isb) (by rfl) rfl ?_ ?_
          · go_simp
            (try simp only [i64_w])
            try rfl
          refine hK.out _ _ ⟨g0, gx, g9, v52, A55, c55, A9, c9, m0_, m4_, m5_, m6_, m7_, m8_, m10_, (by rw [ha.out]; exact putSel_upk 11 hb_ rfl rfl rfl), Q_B0, fun _ h1_ => absurd ((hon 2 (by kernel_rfl)).symm.trans h1_) (by decide), fun _ h1_ => absurd ((hon 5 (by kernel_rfl)).symm.trans h1_) (by decide), fun _ h1_ => absurd ((hon 6 (by kernel_rfl)).symm.trans h1_) (by decide), fun _ h1_ => absurd ((hon 5 (by kernel_rfl)).symm.trans h1_) (by decide), fun _ h1_ => absurd ((hon 11 (by kernel_rfl)).symm.trans h1_) (by decide), Q_HX, fun _ _ h2_ => absurd ((hon 2 (by kernel_rfl)).symm.trans h2_) (by decide), fun _ _ h2_ => absurd ((hon 5 (by kernel_rfl)).symm.trans h2_) (by decide), Q_P7, Q_N9, Q_X0_, Q_X4_, Q_X5_, Q_X6_, Q_X7_, Q_X8_, Q_X10_⟩
        exact steps_nil
      rintro b a wl hall ⟨g0, gx, g9, v52, A55, c55, A9, c9, m0_, m4_, m5_, m6_, m7_, m8_, m10_, ha, Q_B0, Q_O0, Q_O2, Q_O5, Q_G4, Q_H9, Q_HX, Q_N3, Q_N2, Q_P7, Q_N9, Q_X0_, Q_X4_, Q_X5_, Q_X6_, Q_X7_, Q_X8_, Q_X10_⟩
      clear B0
      have hb0_ := hall 0 (by kernel_rfl)
      have hb1_ := hall 1 (by kernel_rfl)
      have hb2_ := hall 2 (by kernel_rfl)
      have hb3_ := hall 3 (by kernel_rfl)
      have hb4_ := hall 4 (by kernel_rfl)
      have hb5_ := hall 5 (by kernel_rfl)
      have hb6_ := hall 6 (by kernel_rfl)
      have hb7_ := hall 7 (by kernel_rfl)
      have hb8_ := hall 8 (by kernel_rfl)
      have hb9_ := hall 9 (by kernel_rfl)
      have hb10_ := hall 10 (by kernel_rfl)
      have hb11_ := hall 11 (by kernel_rfl)
      have hb12_ := hall 12 (by kernel_rfl)
      subst ha
      obtain rfl := Q_X0_ hb0_
      obtain rfl := Q_X4_ hb4_
      obtain rfl := Q_X5_ hb5_
      obtain rfl := Q_X6_ hb6_
      obtain rfl := Q_X7_ hb7_
      obtain rfl := Q_X8_ hb8_
      obtain rfl := Q_X10_ hb10_
      simp only [putSel, hb0_, hb1_, hb2_, hb3_, hb4_, hb5_, hb6_, hb7_, hb8_, hb9_, hb10_, hb11_, hb12_, if_true, Act.put, List.setIfInBounds_toArray, List.set_cons_zero, List.set_cons_succ]
      have B0 := Aside0.mk Q_B0
      clear Q_B0
      clear Q_O0
      clear Q_O2
      clear Q_O5
      clear Q_G4
      clear Q_H9
      have HX := Aside0.mk (Q_HX hb11_)
      clear Q_HX
      clear Q_N3
      clear Q_N2
      have P7 := Aside0.mk (Q_P7 hb6_)
      clear Q_P7
      have N9 := Aside0.mk (Q_N9 hb6_ hb10_)
      clear Q_N9
      clear hall hb0_ hb1_ hb2_ hb3_ hb4_ hb5_ hb6_ hb7_ hb8_ hb9_ hb10_ hb11_ hb12_
      replace HW := Aside0.mk (below_then HW.out HW.out.size B0.out)
      replace Z4 := Aside0.mk (blk_below Z4.out B0.out)
      replace Z7 := Aside0.mk (blk_below Z7.out B0.out)
      replace P70 := Aside0.mk (P70.out.below B0.out)
      have PA := Aside0.mk (HPA.out.below HW.out)
      clear B0 HAP HAQ HN2 N9
      have ca_0 := blk_cell Z4.out 0
      have ca_1 := blk_cell Z4.out 1
      have ca_2 := blk_cell Z4.out 2
      have ca_3 := blk_cell Z4.out 3
      have ca_4 := blk_cell Z4.out 4
      have ca_5 := blk_cell Z4.out 5
      have ca_6 := blk_cell Z4.out 6
      have ca_7 := blk_cell Z4.out 7
      have co_0 := blk_cell Z7.out 0
      have co_1 := blk_cell Z7.out 1
      have co_2 := blk_cell Z7.out 2
      have co_3 := blk_cell Z7.out 3
      have co_4 := blk_cell Z7.out 4
      have co_5 := blk_cell Z7.out 5
      have co_6 := blk_cell Z7.out 6
      have co_7 := blk_cell Z7.out 7
      have cn_0 := blk_cell HX.out 0
      have cn_1 := blk_cell HX.out 1
      have cn_2 := blk_cell HX.out 2
      have cn_3 := blk_cell HX.out 3
      have cn_4 := blk_cell HX.out 4
      have cn_5 := blk_cell HX.out 5
      have cn_6 := blk_cell HX.out 6
      have cn_7 := blk_cell HX.out 7
      cases hpl : ra.f5 with
      | true =>
        obtain ⟨h1, h2⟩ := HON.out.1 hpl
        subst h1
        subst h2
        rw [hpl] at ca_5
        clear hpl
        cases hwas : isb with
        | true =>
          have HPN3 := Aside0.mk (HPN.out hwas)
          have tw : ((true : Bool) == true) = true := rfl
          subst hwas
          go_wp2_with (first | (go_at_call 12; (with_reducible refine (HAW.out _).mono ?_); rintro e w9 ⟨rfl, hb⟩; replace HW := Aside0.mk (below_then HW.out HW.out.size hb); replace Z4 := Aside0.mk (blk_below Z4.out hb); replace Z7 := Aside0.mk (blk_below Z7.out hb); replace HX := Aside0.mk (blk_below HX.out hb); replace P70 := Aside0.mk (P70.out.below hb); replace P7 := Aside0.mk (P7.out.below hb); replace PA := Aside0.mk (PA.out.below hb); clear ca_0 ca_1 ca_2 ca_3 ca_4 ca_5 ca_6 ca_7 co_0 co_1 co_2 co_3 co_4 co_5 co_6 co_7 cn_0 cn_1 cn_2 cn_3 cn_4 cn_5 cn_6 cn_7; have ca_0 := blk_cell Z4.out 0; have ca_1 := blk_cell Z4.out 1; have ca_2 := blk_cell Z4.out 2; have ca_3 := blk_cell Z4.out 3; have ca_4 := blk_cell Z4.out 4; have ca_5 := blk_cell Z4.out 5; have ca_6 := blk_cell Z4.out 6; have ca_7 := blk_cell Z4.out 7; have co_0 := blk_cell Z7.out 0; have co_1 := blk_cell Z7.out 1; have co_2 := blk_cell Z7.out 2; have co_3 := blk_cell Z7.out 3; have co_4 := blk_cell Z7.out 4; have co_5 := blk_cell Z7.out 5; have co_6 := blk_cell Z7.out 6; have co_7 := blk_cell Z7.out 7; have cn_0 := blk_cell HX.out 0; have cn_1 := blk_cell HX.out 1; have cn_2 := blk_cell HX.out 2; have cn_3 := blk_cell HX.out 3; have cn_4 := blk_cell HX.out 4; have cn_5 := blk_cell HX.out 5; have cn_6 := blk_cell HX.out 6; have cn_7 := blk_cell HX.out 7; clear hb) | (go_at_call 17; (with_reducible refine (one_same_calls _ HPN3.out _ _ _ _ _ P70.out P7.out).mono ?_); rintro e w9 ⟨rfl, hb⟩; replace HW := Aside0.mk (below_then HW.out HW.out.size hb); replace Z4 := Aside0.mk (blk_below Z4.out hb); replace Z7 := Aside0.mk (blk_below Z7.out hb); replace HX := Aside0.mk (blk_below HX.out hb); replace P70 := Aside0.mk (P70.out.below hb); replace P7 := Aside0.mk (P7.out.below hb); replace PA := Aside0.mk (PA.out.below hb); clear ca_0 ca_1 ca_2 ca_3 ca_4 ca_5 ca_6 ca_7 co_0 co_1 co_2 co_3 co_4 co_5 co_6 co_7 cn_0 cn_1 cn_2 cn_3 cn_4 cn_5 cn_6 cn_7; have ca_0 := blk_cell Z4.out 0; have ca_1 := blk_cell Z4.out 1; have ca_2 := blk_cell Z4.out 2; have ca_3 := blk_cell Z4.out 3; have ca_4 := blk_cell Z4.out 4; have ca_5 := blk_cell Z4.out 5; have ca_6 := blk_cell Z4.out 6; have ca_7 := blk_cell Z4.out 7; have co_0 := blk_cell Z7.out 0; have co_1 := blk_cell Z7.out 1; have co_2 := blk_cell Z7.out 2; have co_3 := blk_cell Z7.out 3; have co_4 := blk_cell Z7.out 4; have co_5 := blk_cell Z7.out 5; have co_6 := blk_cell Z7.out 6; have co_7 := blk_cell Z7.out 7; have cn_0 := blk_cell HX.out 0; have cn_1 := blk_cell HX.out 1; have cn_2 := blk_cell HX.out 2; have cn_3 := blk_cell HX.out 3; have cn_4 := blk_cell HX.out 4; have cn_5 := blk_cell HX.out 5; have cn_6 := blk_cell HX.out 6; have cn_7 := blk_cell HX.out 7; clear hb))
          go_ret
          exact ⟨rfl, HW.out⟩
        | false =>
          subst hwas
          go_wp2_with (go_at_call 12; (with_reducible refine (HAW.out _).mono ?_); rintro e w9 ⟨rfl, hb⟩; replace HW := Aside0.mk (below_then HW.out HW.out.size hb); replace Z4 := Aside0.mk (blk_below Z4.out hb); replace Z7 := Aside0.mk (blk_below Z7.out hb); replace HX := Aside0.mk (blk_below HX.out hb); replace P70 := Aside0.mk (P70.out.below hb); replace P7 := Aside0.mk (P7.out.below hb); replace PA := Aside0.mk (PA.out.below hb); clear ca_0 ca_1 ca_2 ca_3 ca_4 ca_5 ca_6 ca_7 co_0 co_1 co_2 co_3 co_4 co_5 co_6 co_7 cn_0 cn_1 cn_2 cn_3 cn_4 cn_5 cn_6 cn_7; have ca_0 := blk_cell Z4.out 0; have ca_1 := blk_cell Z4.out 1; have ca_2 := blk_cell Z4.out 2; have ca_3 := blk_cell Z4.out 3; have ca_4 := blk_cell Z4.out 4; have ca_5 := blk_cell Z4.out 5; have ca_6 := blk_cell Z4.out 6; have ca_7 := blk_cell Z4.out 7; have co_0 := blk_cell Z7.out 0; have co_1 := blk_cell Z7.out 1; have co_2 := blk_cell Z7.out 2; have co_3 := blk_cell Z7.out 3; have co_4 := blk_cell Z7.out 4; have co_5 := blk_cell Z7.out 5; have co_6 := blk_cell Z7.out 6; have co_7 := blk_cell Z7.out 7; have cn_0 := blk_cell HX.out 0; have cn_1 := blk_cell HX.out 1; have cn_2 := blk_cell HX.out 2; have cn_3 := blk_cell HX.out 3; have cn_4 := blk_cell HX.out 4; have cn_5 := blk_cell HX.out 5; have cn_6 := blk_cell HX.out 6; have cn_7 := blk_cell HX.out 7; clear hb)
          go_ret
          exact ⟨rfl, HW.out⟩
      | false =>
        obtain ⟨h1, h2, h3⟩ := HON.out.2 hpl
        subst h1
        have HLSA := Aside0.mk (fun W h1 h2 => HAL.out ra Aa ca ro A7 c7 W h1 h2)
        rw [hpl] at ca_5 HLSA
        clear hpl
        cases hwas : was with
        | false =>
          obtain rfl := h3 (.inl hwas)
          subst hwas
          clear h2 h3
          go_wp2_with (first | (go_at_call 12; (with_reducible refine (HAW.out _).mono ?_); rintro e w9 ⟨rfl, hb⟩; replace HW := Aside0.mk (below_then HW.out HW.out.size hb); replace Z4 := Aside0.mk (blk_below Z4.out hb); replace Z7 := Aside0.mk (blk_below Z7.out hb); replace HX := Aside0.mk (blk_below HX.out hb); replace P70 := Aside0.mk (P70.out.below hb); replace P7 := Aside0.mk (P7.out.below hb); replace PA := Aside0.mk (PA.out.below hb); clear ca_0 ca_1 ca_2 ca_3 ca_4 ca_5 ca_6 ca_7 co_0 co_1 co_2 co_3 co_4 co_5 co_6 co_7 cn_0 cn_1 cn_2 cn_3 cn_4 cn_5 cn_6 cn_7; have ca_0 := blk_cell Z4.out 0; have ca_1 := blk_cell Z4.out 1; have ca_2 := blk_cell Z4.out 2; have ca_3 := blk_cell Z4.out 3; have ca_4 := blk_cell Z4.out 4; have ca_5 := blk_cell Z4.out 5; have ca_6 := blk_cell Z4.out 6; have ca_7 := blk_cell Z4.out 7; have co_0 := blk_cell Z7.out 0; have co_1 := blk_cell Z7.out 1; have co_2 := blk_cell Z7.out 2; have co_3 := blk_cell Z7.out 3; have co_4 := blk_cell Z7.out 4; have co_5 := blk_cell Z7.out 5; have co_6 := blk_cell Z7.out 6; have co_7 := blk_cell Z7.out 7; have cn_0 := blk_cell HX.out 0; have cn_1 := blk_cell HX.out 1; have cn_2 := blk_cell HX.out 2; have cn_3 := blk_cell HX.out 3; have cn_4 := blk_cell HX.out 4; have cn_5 := blk_cell HX.out 5; have cn_6 := blk_cell HX.out 6; have cn_7 := blk_cell HX.out 7; clear hb) | (go_at_call 17; (with_reducible refine (one_same_calls _ HPN2.out _ _ _ _ _ P7.out PA.out).mono ?_); rintro e w9 ⟨rfl, hb⟩; replace HW := Aside0.mk (below_then HW.out HW.out.size hb); replace Z4 := Aside0.mk (blk_below Z4.out hb); replace Z7 := Aside0.mk (blk_below Z7.out hb); replace HX := Aside0.mk (blk_below HX.out hb); replace P70 := Aside0.mk (P70.out.below hb); replace P7 := Aside0.mk (P7.out.below hb); replace PA := Aside0.mk (PA.out.below hb); clear ca_0 ca_1 ca_2 ca_3 ca_4 ca_5 ca_6 ca_7 co_0 co_1 co_2 co_3 co_4 co_5 co_6 co_7 cn_0 cn_1 cn_2 cn_3 cn_4 cn_5 cn_6 cn_7; have ca_0 := blk_cell Z4.out 0; have ca_1 := blk_cell Z4.out 1; have ca_2 := blk_cell Z4.out 2; have ca_3 := blk_cell Z4.out 3; have ca_4 := blk_cell Z4.out 4; have ca_5 := blk_cell Z4.out 5; have ca_6 := blk_cell Z4.out 6; have ca_7 := blk_cell Z4.out 7; have co_0 := blk_cell Z7.out 0; have co_1 := blk_cell Z7.out 1; have co_2 := blk_cell Z7.out 2; have co_3 := blk_cell Z7.out 3; have co_4 := blk_cell Z7.out 4; have co_5 := blk_cell Z7.out 5; have co_6 := blk_cell Z7.out 6; have co_7 := blk_cell Z7.out 7; have cn_0 := blk_cell HX.out 0; have cn_1 := blk_cell HX.out 1; have cn_2 := blk_cell HX.out 2; have cn_3 := blk_cell HX.out 3; have cn_4 := blk_cell HX.out 4; have cn_5 := blk_cell HX.out 5; have cn_6 := blk_cell HX.out 6; have cn_7 := blk_cell HX.out 7; clear hb))
          go_ret
          exact ⟨rfl, HW.out⟩
        | true =>
          cases hlt : ltS ra ro with
          | true =>
            obtain rfl := h3 (.inr hlt)
            rw [hlt] at HLSA
            subst hwas
            clear h2 h3 hlt
            go_wp2_with (first | (go_at_call 12; (with_reducible refine (HAW.out _).mono ?_); rintro e w9 ⟨rfl, hb⟩; replace HW := Aside0.mk (below_then HW.out HW.out.size hb); replace Z4 := Aside0.mk (blk_below Z4.out hb); replace Z7 := Aside0.mk (blk_below Z7.out hb); replace HX := Aside0.mk (blk_below HX.out hb); replace P70 := Aside0.mk (P70.out.below hb); replace P7 := Aside0.mk (P7.out.below hb); replace PA := Aside0.mk (PA.out.below hb); clear ca_0 ca_1 ca_2 ca_3 ca_4 ca_5 ca_6 ca_7 co_0 co_1 co_2 co_3 co_4 co_5 co_6 co_7 cn_0 cn_1 cn_2 cn_3 cn_4 cn_5 cn_6 cn_7; have ca_0 := blk_cell Z4.out 0; have ca_1 := blk_cell Z4.out 1; have ca_2 := blk_cell Z4.out 2; have ca_3 := blk_cell Z4.out 3; have ca_4 := blk_cell Z4.out 4; have ca_5 := blk_cell Z4.out 5; have ca_6 := blk_cell Z4.out 6; have ca_7 := blk_cell Z4.out 7; have co_0 := blk_cell Z7.out 0; have co_1 := blk_cell Z7.out 1; have co_2 := blk_cell Z7.out 2; have co_3 := blk_cell Z7.out 3; have co_4 := blk_cell Z7.out 4; have co_5 := blk_cell Z7.out 5; have co_6 := blk_cell Z7.out 6; have co_7 := blk_cell Z7.out 7; have cn_0 := blk_cell HX.out 0; have cn_1 := blk_cell HX.out 1; have cn_2 := blk_cell HX.out 2; have cn_3 := blk_cell HX.out 3; have cn_4 := blk_cell HX.out 4; have cn_5 := blk_cell HX.out 5; have cn_6 := blk_cell HX.out 6; have cn_7 := blk_cell HX.out 7; clear hb) | (go_at_call 21; (with_reducible refine (HLSA.out _ PA.out P70.out).mono ?_); rintro e w9 ⟨rfl, hb⟩; replace HW := Aside0.mk (below_then HW.out HW.out.size hb); replace Z4 := Aside0.mk (blk_below Z4.out hb); replace Z7 := Aside0.mk (blk_below Z7.out hb); replace HX := Aside0.mk (blk_below HX.out hb); replace P70 := Aside0.mk (P70.out.below hb); replace P7 := Aside0.mk (P7.out.below hb); replace PA := Aside0.mk (PA.out.below hb); clear ca_0 ca_1 ca_2 ca_3 ca_4 ca_5 ca_6 ca_7 co_0 co_1 co_2 co_3 co_4 co_5 co_6 co_7 cn_0 cn_1 cn_2 cn_3 cn_4 cn_5 cn_6 cn_7; have ca_0 := blk_cell Z4.out 0; have ca_1 := blk_cell Z4.out 1; have ca_2 := blk_cell Z4.out 2; have ca_3 := blk_cell Z4.out 3; have ca_4 := blk_cell Z4.out 4; have ca_5 := blk_cell Z4.out 5; have ca_6 := blk_cell Z4.out 6; have ca_7 := blk_cell Z4.out 7; have co_0 := blk_cell Z7.out 0; have co_1 := blk_cell Z7.out 1; have co_2 := blk_cell Z7.out 2; have co_3 := blk_cell Z7.out 3; have co_4 := blk_cell Z7.out 4; have co_5 := blk_cell Z7.out 5; have co_6 := blk_cell Z7.out 6; have co_7 := blk_cell Z7.out 7; have cn_0 := blk_cell HX.out 0; have cn_1 := blk_cell HX.out 1; have cn_2 := blk_cell HX.out 2; have cn_3 := blk_cell HX.out 3; have cn_4 := blk_cell HX.out 4; have cn_5 := blk_cell HX.out 5; have cn_6 := blk_cell HX.out 6; have cn_7 := blk_cell HX.out 7; clear hb) | (go_at_call 17; (with_reducible refine (one_same_calls _ HPN2.out _ _ _ _ _ P7.out PA.out).mono ?_); rintro e w9 ⟨rfl, hb⟩; replace HW := Aside0.mk (below_then HW.out HW.out.size hb); replace Z4 := Aside0.mk (blk_below Z4.out hb); replace Z7 := Aside0.mk (blk_below Z7.out hb); replace HX := Aside0.mk (blk_below HX.out hb); replace P70 := Aside0.mk (P70.out.below hb); replace P7 := Aside0.mk (P7.out.below hb); replace PA := Aside0.mk (PA.out.below hb); clear ca_0 ca_1 ca_2 ca_3 ca_4 ca_5 ca_6 ca_7 co_0 co_1 co_2 co_3 co_4 co_5 co_6 co_7 cn_0 cn_1 cn_2 cn_3 cn_4 cn_5 cn_6 cn_7; have ca_0 := blk_cell Z4.out 0; have ca_1 := blk_cell Z4.out 1; have ca_2 := blk_cell Z4.out 2; have ca_3 := blk_cell Z4.out 3; have ca_4 := blk_cell Z4.out 4; have ca_5 := blk_cell Z4.out 5; have ca_6 := blk_cell Z4.out 6; have ca_7 := blk_cell Z4.out 7; have co_0 := blk_cell Z7.out 0; have co_1 := blk_cell Z7.out 1; have co_2 := blk_cell Z7.out 2; have co_3 := blk_cell Z7.out 3; have co_4 := blk_cell Z7.out 4; have co_5 := blk_cell Z7.out 5; have co_6 := blk_cell Z7.out 6; have co_7 := blk_cell Z7.out 7; have cn_0 := blk_cell HX.out 0; have cn_1 := blk_cell HX.out 1; have cn_2 := blk_cell HX.out 2; have cn_3 := blk_cell HX.out 3; have cn_4 := blk_cell HX.out 4; have cn_5 := blk_cell HX.out 5; have cn_6 := blk_cell HX.out 6; have cn_7 := blk_cell HX.out 7; clear hb))
            go_ret
            exact ⟨rfl, HW.out⟩
          | false =>
            obtain rfl := h2 hwas hlt
            rw [hlt] at HLSA
            subst hwas
            clear h2 h3 hlt
            go_wp2_with (first | (go_at_call 12; (with_reducible refine (HAW.out _).mono ?_); rintro e w9 ⟨rfl, hb⟩; replace HW := Aside0.mk (below_then HW.out HW.out.size hb); replace Z4 := Aside0.mk (blk_below Z4.out hb); replace Z7 := Aside0.mk (blk_below Z7.out hb); replace HX := Aside0.mk (blk_below HX.out hb); replace P70 := Aside0.mk (P70.out.below hb); replace P7 := Aside0.mk (P7.out.below hb); replace PA := Aside0.mk (PA.out.below hb); clear ca_0 ca_1 ca_2 ca_3 ca_4 ca_5 ca_6 ca_7 co_0 co_1 co_2 co_3 co_4 co_5 co_6 co_7 cn_0 cn_1 cn_2 cn_3 cn_4 cn_5 cn_6 cn_7; have ca_0 := blk_cell Z4.out 0; have ca_1 := blk_cell Z4.out 1; have ca_2 := blk_cell Z4.out 2; have ca_3 := blk_cell Z4.out 3; have ca_4 := blk_cell Z4.out 4; have ca_5 := blk_cell Z4.out 5; have ca_6 := blk_cell Z4.out 6; have ca_7 := blk_cell Z4.out 7; have co_0 := blk_cell Z7.out 0; have co_1 := blk_cell Z7.out 1; have co_2 := blk_cell Z7.out 2; have co_3 := blk_cell Z7.out 3; have co_4 := blk_cell Z7.out 4; have co_5 := blk_cell Z7.out 5; have co_6 := blk_cell Z7.out 6; have co_7 := blk_cell Z7.out 7; have cn_0 := blk_cell HX.out 0; have cn_1 := blk_cell HX.out 1; have cn_2 := blk_cell HX.out 2; have cn_3 := blk_cell HX.out 3; have cn_4 := blk_cell HX.out 4; have cn_5 := blk_cell HX.out 5; have cn_6 := blk_cell HX.out 6; have cn_7 := blk_cell HX.out 7; clear hb) | (go_at_call 21; (with_reducible refine (HLSA.out _ PA.out P70.out).mono ?_); rintro e w9 ⟨rfl, hb⟩; replace HW := Aside0.mk (below_then HW.out HW.out.size hb); replace Z4 := Aside0.mk (blk_below Z4.out hb); replace Z7 := Aside0.mk (blk_below Z7.out hb); replace HX := Aside0.mk (blk_below HX.out hb); replace P70 := Aside0.mk (P70.out.below hb); replace P7 := Aside0.mk (P7.out.below hb); replace PA := Aside0.mk (PA.out.below hb); clear ca_0 ca_1 ca_2 ca_3 ca_4 ca_5 ca_6 ca_7 co_0 co_1 co_2 co_3 co_4 co_5 co_6 co_7 cn_0 cn_1 cn_2 cn_3 cn_4 cn_5 cn_6 cn_7; have ca_0 := blk_cell Z4.out 0; have ca_1 := blk_cell Z4.out 1; have ca_2 := blk_cell Z4.out 2; have ca_3 := blk_cell Z4.out 3; have ca_4 := blk_cell Z4.out 4; have ca_5 := blk_cell Z4.out 5; have ca_6 := blk_cell Z4.out 6; have ca_7 := blk_cell Z4.out 7; have co_0 := blk_cell Z7.out 0; have co_1 := blk_cell Z7.out 1; have co_2 := blk_cell Z7.out 2; have co_3 := blk_cell Z7.out 3; have co_4 := blk_cell Z7.out 4; have co_5 := blk_cell Z7.out 5; have co_6 := blk_cell Z7.out 6; have co_7 := blk_cell Z7.out 7; have cn_0 := blk_cell HX.out 0; have cn_1 := blk_cell HX.out 1; have cn_2 := blk_cell HX.out 2; have cn_3 := blk_cell HX.out 3; have cn_4 := blk_cell HX.out 4; have cn_5 := blk_cell HX.out 5; have cn_6 := blk_cell HX.out 6; have cn_7 := blk_cell HX.out 7; clear hb) | (go_at_call 17; (with_reducible refine (one_same_calls _ HPN2.out _ _ _ _ _ P7.out P70.out).mono ?_); rintro e w9 ⟨rfl, hb⟩; replace HW := Aside0.mk (below_then HW.out HW.out.size hb); replace Z4 := Aside0.mk (blk_below Z4.out hb); replace Z7 := Aside0.mk (blk_below Z7.out hb); replace HX := Aside0.mk (blk_below HX.out hb); replace P70 := Aside0.mk (P70.out.below hb); replace P7 := Aside0.mk (P7.out.below hb); replace PA := Aside0.mk (PA.out.below hb); clear ca_0 ca_1 ca_2 ca_3 ca_4 ca_5 ca_6 ca_7 co_0 co_1 co_2 co_3 co_4 co_5 co_6 co_7 cn_0 cn_1 cn_2 cn_3 cn_4 cn_5 cn_6 cn_7; have ca_0 := blk_cell Z4.out 0; have ca_1 := blk_cell Z4.out 1; have ca_2 := blk_cell Z4.out 2; have ca_3 := blk_cell Z4.out 3; have ca_4 := blk_cell Z4.out 4; have ca_5 := blk_cell Z4.out 5; have ca_6 := blk_cell Z4.out 6; have ca_7 := blk_cell Z4.out 7; have co_0 := blk_cell Z7.out 0; have co_1 := blk_cell Z7.out 1; have co_2 := blk_cell Z7.out 2; have co_3 := blk_cell Z7.out 3; have co_4 := blk_cell Z7.out 4; have co_5 := blk_cell Z7.out 5; have co_6 := blk_cell Z7.out 6; have co_7 := blk_cell Z7.out 7; have cn_0 := blk_cell HX.out 0; have cn_1 := blk_cell HX.out 1; have cn_2 := blk_cell HX.out 2; have cn_3 := blk_cell HX.out 3; have cn_4 := blk_cell HX.out 4; have cn_5 := blk_cell HX.out 5; have cn_6 := blk_cell HX.out 6; have cn_7 := blk_cell HX.out 7; clear hb))
            go_ret
            exact ⟨rfl, HW.out⟩
    | false =>
      rw [hs] at HAB HLB
      clear hs
      replace B0 := Aside0.mk (below_drew B0.out)
      replace Z4 := Aside0.mk (blk_drew Z4.out)
      replace Z5 := Aside0.mk (blk_drew Z5.out)
      refine start_ (n := 17) (S := fun w' => True) (ds := []) #[false, false, false, false, false, false, false, false, false, false, false, false, false, false, false, false, false] (by kernel_rfl) rfl rfl trivial (fun hHeld => ?_)
      refine with_tabW ahead3.tab3 ahead3.bits3 (fun HT_ HW_ => ?_)
      generalize w2.drew = wq at B0 Z4 Z5 hHeld ⊢
      refine inv_at [0, 1, 2, 3, 4, 5, 6, 7, 8, 9, 10, 11, 12, 13, 14, 15, 16] (fun a0_ b a w' => a = putSel a0_ b [(0, 27, .agg #[.int .u64 ra.f0, .int .u64 ra.f1, .int .i64 ra.f2, .int .i64 ra.f3, .int .u64 ra.f4, .bool ra.f5, .int .i64 ra.f6, .slice Aa ra.f7.length ca]), (1, 28, .agg #[.int .u64 rb.f0, .int .u64 rb.f1, .int .i64 rb.f2, .int .i64 rb.f3, .int .u64 rb.f4, .bool rb.f5, .int .i64 rb.f6, .slice Ab rb.f7.length cb]), (2, 29, .bool false), (3, 30, .agg #[.int .u64 ra.f0, .int .u64 ra.f1, .int .i64 ra.f2, .int .i64 ra.f3, .int .u64 ra.f4, .bool ra.f5, .int .i64 ra.f6, .slice Aa ra.f7.length ca]), (4, 31, .agg #[.int .u64 rb.f0, .int .u64 rb.f1, .int .i64 rb.f2, .int .i64 rb.f3, .int .u64 rb.f4, .bool rb.f5, .int .i64 rb.f6, .slice Ab rb.f7.length cb]), (5, 32, .bool false), (6, 33, .bool false), (7, 34, .bool false), (8, 35, .agg #[.int .u64 ra.f0, .int .u64 ra.f1, .int .i64 ra.f2, .int .i64 ra.f3, .int .u64 ra.f4, .bool ra.f5, .int .i64 ra.f6, .slice Aa ra.f7.length ca]), (9, 36, .agg #[.int .u64 rb.f0, .int .u64 rb.f1, .int .i64 rb.f2, .int .i64 rb.f3, .int .u64 rb.f4, .bool rb.f5, .int .i64 rb.f6, .slice Ab rb.f7.length cb]), (10, 37, .bool false), (11, 38, .bool false), (12, 39, undef), (13, 40, undef), (14, 41, undef), (15, 42, .bool false), (16, 43, .bool false)] ∧ (Below w.heap.size w w') ∧ (w'.heap[w.heap.size]? = some (.cells #[.int .u64 ra.f0, .int .u64 ra.f1, .int .i64 ra.f2, .int .i64 ra.f3, .int .u64 ra.f4, .bool ra.f5, .int .i64 ra.f6, .slice Aa ra.f7.length ca] 29 (0, 0))) ∧ (w'.heap[(w.heap.size + 1)]? = some (.cells #[.int .u64 rb.f0, .int .u64 rb.f1, .int .i64 rb.f2, .int .i64 rb.f3, .int .u64 rb.f4, .bool rb.f5, .int .i64 rb.f6, .slice Ab rb.f7.length cb] 29 (0, 0)))) HT_.out HW_.out (by kernel_rfl) (by kernel_rfl) ?_ ?_ ?_
      · exact ⟨by simp only [putSel, Bool.false_eq_true, if_false], B0.out, Z4.out, Z5.out⟩
      · skip
        clear B0 Z4 Z5
        refine steps_cons ?_ ?_
        · rintro b a w' ⟨ha, Q_B0, Q_Z4, Q_Z5⟩ hb_ hon hoff
          refine ⟨_, rfl, fun K hK => ?_⟩
          have e4 : a.tmps[4]? = some (.pointer (some ⟨w.heap.size, 0, none⟩)) := by rw [ha]; exact (putSel_off rfl).trans rfl
          replace ha := Aside0.mk ha
          have B0 := Aside0.mk Q_B0
          have Z4 := Aside0.mk Q_Z4
          have Z5 := Aside0.mk Q_Z5
          have c0_ := blk_cell Z4.out 0
          have c1_ := blk_cell Z4.out 1
          have c2_ := blk_cell Z4.out 2
          have c3_ := blk_cell Z4.out 3
          have c4_ := blk_cell Z4.out 4
          have c5_ := blk_cell Z4.out 5
          have c6_ := blk_cell Z4.out 6
          have c7_ := blk_cell Z4.out 7
          refine value_ (w1 := w') (v := .agg #[.int .u64 ra.f0, .int .u64 ra.f1, .int .i64 ra.f2, .int .i64 ra.f3, .int .u64 ra.f4, .bool ra.f5, .int .i64 ra.f6, .slice Aa ra.f7.length ca]) (by rfl) rfl ?_ ?_
          · go_simp
            (try simp only [i64_w])
            try rfl
          refine hK.out _ _ ⟨(by rw [ha.out]; exact putSel_upk 0 hb_ rfl rfl rfl), Q_B0, Q_Z4, Q_Z5⟩
        refine steps_cons ?_ ?_
        · rintro b a w' ⟨ha, Q_B0, Q_Z4, Q_Z5⟩ hb_ hon hoff
          refine ⟨_, rfl, fun K hK => ?_⟩
          have e5 : a.tmps[5]? = some (.pointer (some ⟨w.heap.size + 1, 0, none⟩)) := by rw [ha]; exact (putSel_off rfl).trans rfl
          replace ha := Aside0.mk ha
          have B0 := Aside0.mk Q_B0
          have Z4 := Aside0.mk Q_Z4
          have Z5 := Aside0.mk Q_Z5
          have c0_ := blk_cell Z5.out 0
          have c1_ := blk_cell Z5.out 1
          have c2_ := blk_cell Z5.out 2
          have c3_ := blk_cell Z5.out 3
          have c4_ := blk_cell Z5.out 4
          have c5_ := blk_cell Z5.out 5
          have c6_ := blk_cell Z5.out 6
          have c7_ := blk_cell Z5.out 7
          refine value_ (w1 := w') (v := .agg #[.int .u64 rb.f0, .int .u64 rb.f1, .int .i64 rb.f2, .int .i64 rb.f3, .int .u64 rb.f4, .bool rb.f5, .int .i64 rb.f6, .slice Ab rb.f7.length cb]) (by rfl) rfl ?_ ?_
          · go_simp
            (try simp only [i64_w])
            try rfl
          refine hK.out _ _ ⟨(by rw [ha.out]; exact putSel_upk 1 hb_ rfl rfl rfl), Q_B0, Q_Z4, Q_Z5⟩
        refine steps_cons ?_ ?_
        · rintro b a w' ⟨ha, Q_B0, Q_Z4, Q_Z5⟩ hb_ hon hoff
          refine ⟨_, rfl, fun K hK => ?_⟩
          have e27 : a.tmps[27]? = some (.agg #[.int .u64 ra.f0, .int .u64 ra.f1, .int .i64 ra.f2, .int .i64 ra.f3, .int .u64 ra.f4, .bool ra.f5, .int .i64 ra.f6, .slice Aa ra.f7.length ca]) := by rw [ha]; exact putSel_on (e := (0, 27, .agg #[.int .u64 ra.f0, .int .u64 ra.f1, .int .i64 ra.f2, .int .i64 ra.f3, .int .u64 ra.f4, .bool ra.f5, .int .i64 ra.f6, .slice Aa ra.f7.length ca])) 0 rfl rfl (hon 0 (by kernel_rfl)) rfl
          have e28 : a.tmps[28]? = some (.agg #[.int .u64 rb.f0, .int .u64 rb.f1, .int .i64 rb.f2, .int .i64 rb.f3, .int .u64 rb.f4, .bool rb.f5, .int .i64 rb.f6, .slice Ab rb.f7.length cb]) := by rw [ha]; exact putSel_on (e := (1, 28, .agg #[.int .u64 rb.f0, .int .u64 rb.f1, .int .i64 rb.f2, .int .i64 rb.f3, .int .u64 rb.f4, .bool rb.f5, .int .i64 rb.f6, .slice Ab rb.f7.length cb])) 1 rfl rfl (hon 1 (by kernel_rfl)) rfl
          replace ha := Aside0.mk ha
          have B0 := Aside0.mk Q_B0
          have Z4 := Aside0.mk Q_Z4
          have Z5 := Aside0.mk Q_Z5
          refine goes_ Try.func18 (by kernel_rfl) rfl #[.agg #[.int .u64 ra.f0, .int .u64 ra.f1, .int .i64 ra.f2, .int .i64 ra.f3, .int .u64 ra.f4, .bool ra.f5, .int .i64 ra.f6, .slice Aa ra.f7.length ca], .agg #[.int .u64 rb.f0, .int .u64 rb.f1, .int .i64 rb.f2, .int .i64 rb.f3, .int .u64 rb.f4, .bool rb.f5, .int .i64 rb.f6, .slice Ab rb.f7.length cb]] (by rfl) rfl rfl (by first | (simp only [List.map_toArray, List.map_cons, List.map_nil, Act.eval, Array.getD_eq_getD_getElem?, Option.getD_some, e27, e28]; done) | (simp only [List.map_toArray, List.map_cons, List.map_nil, Act.eval, Array.getD_eq_getD_getElem?, Option.getD_some, e27, e28]; rfl)) ?_
          with_reducible refine (HAB.out _ B0.out).mono ?_
          rintro e w2 ⟨rfl, hb⟩
          refine ⟨_, rfl, ?_⟩
          refine hK.out _ _ ⟨(by rw [ha.out]; exact putSel_upk 2 hb_ rfl rfl rfl), below_then B0.out B0.out.size hb, blk_below Z4.out hb, blk_below Z5.out hb⟩
        refine steps_cons ?_ ?_
        · rintro b a w' ⟨ha, Q_B0, Q_Z4, Q_Z5⟩ hb_ hon hoff
          refine ⟨_, rfl, fun K hK => ?_⟩
          have e4 : a.tmps[4]? = some (.pointer (some ⟨w.heap.size, 0, none⟩)) := by rw [ha]; exact (putSel_off rfl).trans rfl
          replace ha := Aside0.mk ha
          have B0 := Aside0.mk Q_B0
          have Z4 := Aside0.mk Q_Z4
          have Z5 := Aside0.mk Q_Z5
          have c0_ := blk_cell Z4.out 0
          have c1_ := blk_cell Z4.out 1
          have c2_ := blk_cell Z4.out 2
          have c3_ := blk_cell Z4.out 3
          have c4_ := blk_cell Z4.out 4
          have c5_ := blk_cell Z4.out 5
          have c6_ := blk_cell Z4.out 6
          have c7_ := blk_cell Z4.out 7
          refine value_ (w1 := w') (v := .agg #[.int .u64 ra.f0, .int .u64 ra.f1, .int .i64 ra.f2, .int .i64 ra.f3, .int .u64 ra.f4, .bool ra.f5, .int .i64 ra.f6, .slice Aa ra.f7.length ca]) (by rfl) rfl ?_ ?_
          · go_simp
            (try simp only [i64_w])
            try rfl
          refine hK.out _ _ ⟨(by rw [ha.out]; exact putSel_upk 3 hb_ rfl rfl rfl), Q_B0, Q_Z4, Q_Z5⟩
        refine steps_cons ?_ ?_
        · rintro b a w' ⟨ha, Q_B0, Q_Z4, Q_Z5⟩ hb_ hon hoff
          refine ⟨_, rfl, fun K hK => ?_⟩
          have e5 : a.tmps[5]? = some (.pointer (some ⟨w.heap.size + 1, 0, none⟩)) := by rw [ha]; exact (putSel_off rfl).trans rfl
          replace ha := Aside0.mk ha
          have B0 := Aside0.mk Q_B0
          have Z4 := Aside0.mk Q_Z4
          have Z5 := Aside0.mk Q_Z5
          have c0_ := blk_cell Z5.out 0
          have c1_ := blk_cell Z5.out 1
          have c2_ := blk_cell Z5.out 2
          have c3_ := blk_cell Z5.out 3
          have c4_ := blk_cell Z5.out 4
          have c5_ := blk_cell Z5.out 5
          have c6_ := blk_cell Z5.out 6
          have c7_ := blk_cell Z5.out 7
          refine value_ (w1 := w') (v := .agg #[.int .u64 rb.f0, .int .u64 rb.f1, .int .i64 rb.f2, .int .i64 rb.f3, .int .u64 rb.f4, .bool rb.f5, .int .i64 rb.f6, .slice Ab rb.f7.length cb]) (by rfl) rfl ?_ ?_
          · go_simp
            (try simp only [i64_w])
            try rfl
          refine hK.out _ _ ⟨(by rw [ha.out]; exact putSel_upk 4 hb_ rfl rfl rfl), Q_B0, Q_Z4, Q_Z5⟩
        refine steps_cons ?_ ?_
        · rintro b a w' ⟨ha, Q_B0, Q_Z4, Q_Z5⟩ hb_ hon hoff
          refine ⟨_, rfl, fun K hK => ?_⟩
          have e30 : a.tmps[30]? = some (.agg #[.int .u64 ra.f0, .int .u64 ra.f1, .int .i64 ra.f2, .int .i64 ra.f3, .int .u64 ra.f4, .bool ra.f5, .int .i64 ra.f6, .slice Aa ra.f7.length ca]) := by rw [ha]; exact putSel_on (e := (3, 30, .agg #[.int .u64 ra.f0, .int .u64 ra.f1, .int .i64 ra.f2, .int .i64 ra.f3, .int .u64 ra.f4, .bool ra.f5, .int .i64 ra.f6, .slice Aa ra.f7.length ca])) 3 rfl rfl (hon 3 (by kernel_rfl)) rfl
          have e31 : a.tmps[31]? = some (.agg #[.int .u64 rb.f0, .int .u64 rb.f1, .int .i64 rb.f2, .int .i64 rb.f3, .int .u64 rb.f4, .bool rb.f5, .int .i64 rb.f6, .slice Ab rb.f7.length cb]) := by rw [ha]; exact putSel_on (e := (4, 31, .agg #[.int .u64 rb.f0, .int .u64 rb.f1, .int .i64 rb.f2, .int .i64 rb.f3, .int .u64 rb.f4, .bool rb.f5, .int .i64 rb.f6, .slice Ab rb.f7.length cb])) 4 rfl rfl (hon 4 (by kernel_rfl)) rfl
          replace ha := Aside0.mk ha
          have B0 := Aside0.mk Q_B0
          have Z4 := Aside0.mk Q_Z4
          have Z5 := Aside0.mk Q_Z5
          refine goes_ Try.func21 (by kernel_rfl) rfl #[.agg #[.int .u64 ra.f0, .int .u64 ra.f1, .int .i64 ra.f2, .int .i64 ra.f3, .int .u64 ra.f4, .bool ra.f5, .int .i64 ra.f6, .slice Aa ra.f7.length ca], .agg #[.int .u64 rb.f0, .int .u64 rb.f1, .int .i64 rb.f2, .int .i64 rb.f3, .int .u64 rb.f4, .bool rb.f5, .int .i64 rb.f6, .slice Ab rb.f7.length cb]] (by rfl) rfl rfl (by first | (simp only [List.map_toArray, List.map_cons, List.map_nil, Act.eval, Array.getD_eq_getD_getElem?, Option.getD_some, e30, e31]; done) | (simp only [List.map_toArray, List.map_cons, List.map_nil, Act.eval, Array.getD_eq_getD_getElem?, Option.getD_some, e30, e31]; rfl)) ?_
          with_reducible refine (HLB.out _ B0.out).mono ?_
          rintro e w2 ⟨rfl, hb⟩
          refine ⟨_, rfl, ?_⟩
          refine hK.out _ _ ⟨(by rw [ha.out]; exact putSel_upk 5 hb_ rfl rfl rfl), below_then B0.out B0.out.size hb, blk_below Z4.out hb, blk_below Z5.out hb⟩
        refine steps_cons ?_ ?_
        · rintro b a w' ⟨ha, Q_B0, Q_Z4, Q_Z5⟩ hb_ hon hoff
          refine ⟨_, rfl, fun K hK => ?_⟩
          have e29 : a.tmps[29]? = some (.bool false) := by rw [ha]; exact putSel_on (e := (2, 29, .bool false)) 2 rfl rfl (hon 2 (by kernel_rfl)) rfl
          have e32 : a.tmps[32]? = some (.bool false) := by rw [ha]; exact putSel_on (e := (5, 32, .bool false)) 5 rfl rfl (hon 5 (by kernel_rfl)) rfl
          replace ha := Aside0.mk ha
          have B0 := Aside0.mk Q_B0
          have Z4 := Aside0.mk Q_Z4
          have Z5 := Aside0.mk Q_Z5
          refine value_ (w1 := w') (v := .bool false) (by rfl) rfl ?_ ?_
          · go_simp
            (try simp only [i64_w])
            try rfl
          refine hK.out _ _ ⟨(by rw [ha.out]; exact putSel_upk 6 hb_ rfl rfl rfl), Q_B0, Q_Z4, Q_Z5⟩
        refine steps_cons ?_ ?_
        · rintro b a w' ⟨ha, Q_B0, Q_Z4, Q_Z5⟩ hb_ hon hoff
          refine ⟨_, rfl, fun K hK => ?_⟩
          have e33 : a.tmps[33]? = some (.bool false) := by rw [ha]; exact putSel_on (e := (6, 33, .bool false)) 6 rfl rfl (hon 6 (by kernel_rfl)) rfl
          replace ha := Aside0.mk ha
          have B0 := Aside0.mk Q_B0
          have Z4 := Aside0.mk Q_Z4
          have Z5 := Aside0.mk Q_Z5
          refine value_ (w1 := w') (v := .bool false) (by rfl) rfl ?_ ?_
          · go_simp
            (try simp only [i64_w])
            try rfl
          refine hK.out _ _ ⟨(by rw [ha.out]; exact putSel_upk 7 hb_ rfl rfl rfl), Q_B0, Q_Z4, Q_Z5⟩
        refine steps_cons ?_ ?_
        · rintro b a w' ⟨ha, Q_B0, Q_Z4, Q_Z5⟩ hb_ hon hoff
          refine ⟨_, rfl, fun K hK => ?_⟩
          have e4 : a.tmps[4]? = some (.pointer (some ⟨w.heap.size, 0, none⟩)) := by rw [ha]; exact (putSel_off rfl).trans rfl
          have e34 : a.tmps[34]? = some (.bool false) := by rw [ha]; exact putSel_on (e := (7, 34, .bool false)) 7 rfl rfl (hon 7 (by kernel_rfl)) rfl
          replace ha := Aside0.mk ha
          have B0 := Aside0.mk Q_B0
          have Z4 := Aside0.mk Q_Z4
          have Z5 := Aside0.mk Q_Z5
          have c0_ := blk_cell Z4.out 0
          have c1_ := blk_cell Z4.out 1
          have c2_ := blk_cell Z4.out 2
          have c3_ := blk_cell Z4.out 3
          have c4_ := blk_cell Z4.out 4
          have c5_ := blk_cell Z4.out 5
          have c6_ := blk_cell Z4.out 6
          have c7_ := blk_cell Z4.out 7
          refine value_ (w1 := w') (v := .agg #[.int .u64 ra.f0, .int .u64 ra.f1, .int .i64 ra.f2, .int .i64 ra.f3, .int .u64 ra.f4, .bool ra.f5, .int .i64 ra.f6, .slice Aa ra.f7.length ca]) (wanted_on rfl rfl rfl (e34.trans (by first | rfl | (simp [*]; done)))) rfl ?_ ?_
          · go_simp
            (try simp only [i64_w])
            try rfl
          refine hK.out _ _ ⟨(by rw [ha.out]; exact putSel_upk 8 hb_ rfl rfl rfl), Q_B0, Q_Z4, Q_Z5⟩
        refine steps_cons ?_ ?_
        · rintro b a w' ⟨ha, Q_B0, Q_Z4, Q_Z5⟩ hb_ hon hoff
          refine ⟨_, rfl, fun K hK => ?_⟩
          have e5 : a.tmps[5]? = some (.pointer (some ⟨w.heap.size + 1, 0, none⟩)) := by rw [ha]; exact (putSel_off rfl).trans rfl
          have e34 : a.tmps[34]? = some (.bool false) := by rw [ha]; exact putSel_on (e := (7, 34, .bool false)) 7 rfl rfl (hon 7 (by kernel_rfl)) rfl
          replace ha := Aside0.mk ha
          have B0 := Aside0.mk Q_B0
          have Z4 := Aside0.mk Q_Z4
          have Z5 := Aside0.mk Q_Z5
          have c0_ := blk_cell Z5.out 0
          have c1_ := blk_cell Z5.out 1
          have c2_ := blk_cell Z5.out 2
          have c3_ := blk_cell Z5.out 3
          have c4_ := blk_cell Z5.out 4
          have c5_ := blk_cell Z5.out 5
          have c6_ := blk_cell Z5.out 6
          have c7_ := blk_cell Z5.out 7
          refine value_ (w1 := w') (v := .agg #[.int .u64 rb.f0, .int .u64 rb.f1, .int .i64 rb.f2, .int .i64 rb.f3, .int .u64 rb.f4, .bool rb.f5, .int .i64 rb.f6, .slice Ab rb.f7.length cb]) (wanted_on rfl rfl rfl (e34.trans (by first | rfl | (simp [*]; done)))) rfl ?_ ?_
          · go_simp
            (try simp only [i64_w])
            try rfl
          refine hK.out _ _ ⟨(by rw [ha.out]; exact putSel_upk 9 hb_ rfl rfl rfl), Q_B0, Q_Z4, Q_Z5⟩
        refine steps_cons ?_ ?_
        · rintro b a w' ⟨ha, Q_B0, Q_Z4, Q_Z5⟩ hb_ hon hoff
          refine ⟨_, rfl, fun K hK => ?_⟩
          have e35 : a.tmps[35]? = some (.agg #[.int .u64 ra.f0, .int .u64 ra.f1, .int .i64 ra.f2, .int .i64 ra.f3, .int .u64 ra.f4, .bool ra.f5, .int .i64 ra.f6, .slice Aa ra.f7.length ca]) := by rw [ha]; exact putSel_on (e := (8, 35, .agg #[.int .u64 ra.f0, .int .u64 ra.f1, .int .i64 ra.f2, .int .i64 ra.f3, .int .u64 ra.f4, .bool ra.f5, .int .i64 ra.f6, .slice Aa ra.f7.length ca])) 8 rfl rfl (hon 8 (by kernel_rfl)) rfl
          have e36 : a.tmps[36]? = some (.agg #[.int .u64 rb.f0, .int .u64 rb.f1, .int .i64 rb.f2, .int .i64 rb.f3, .int .u64 rb.f4, .bool rb.f5, .int .i64 rb.f6, .slice Ab rb.f7.length cb]) := by rw [ha]; exact putSel_on (e := (9, 36, .agg #[.int .u64 rb.f0, .int .u64 rb.f1, .int .i64 rb.f2, .int .i64 rb.f3, .int .u64 rb.f4, .bool rb.f5, .int .i64 rb.f6, .slice Ab rb.f7.length cb])) 9 rfl rfl (hon 9 (by kernel_rfl)) rfl
          have e34 : a.tmps[34]? = some (.bool false) := by rw [ha]; exact putSel_on (e := (7, 34, .bool false)) 7 rfl rfl (hon 7 (by kernel_rfl)) rfl
          replace ha := Aside0.mk ha
          have B0 := Aside0.mk Q_B0
          have Z4 := Aside0.mk Q_Z4
          have Z5 := Aside0.mk Q_Z5
          refine goes_ Try.func18 (by kernel_rfl) rfl #[.agg #[.int .u64 ra.f0, .int .u64 ra.f1, .int .i64 ra.f2, .int .i64 ra.f3, .int .u64 ra.f4, .bool ra.f5, .int .i64 ra.f6, .slice Aa ra.f7.length ca], .agg #[.int .u64 rb.f0, .int .u64 rb.f1, .int .i64 rb.f2, .int .i64 rb.f3, .int .u64 rb.f4, .bool rb.f5, .int .i64 rb.f6, .slice Ab rb.f7.length cb]] (wanted_on rfl rfl rfl (e34.trans rfl)) rfl rfl (by first | (simp only [List.map_toArray, List.map_cons, List.map_nil, Act.eval, Array.getD_eq_getD_getElem?, Option.getD_some, e35, e36, e34]; done) | (simp only [List.map_toArray, List.map_cons, List.map_nil, Act.eval, Array.getD_eq_getD_getElem?, Option.getD_some, e35, e36, e34]; rfl)) ?_
          with_reducible refine (HAB.out _ B0.out).mono ?_
          rintro e w2 ⟨rfl, hb⟩
          refine ⟨_, rfl, ?_⟩
          refine hK.out _ _ ⟨(by rw [ha.out]; exact putSel_upk 10 hb_ rfl rfl rfl), below_then B0.out B0.out.size hb, blk_below Z4.out hb, blk_below Z5.out hb⟩
        refine steps_cons ?_ ?_
        · rintro b a w' ⟨ha, Q_B0, Q_Z4, Q_Z5⟩ hb_ hon hoff
          refine ⟨_, rfl, fun K hK => ?_⟩
          have e37 : a.tmps[37]? = some (.bool false) := by rw [ha]; exact putSel_on (e := (10, 37, .bool false)) 10 rfl rfl (hon 10 (by kernel_rfl)) rfl
          have e34 : a.tmps[34]? = some (.bool false) := by rw [ha]; exact putSel_on (e := (7, 34, .bool false)) 7 rfl rfl (hon 7 (by kernel_rfl)) rfl
          replace ha := Aside0.mk ha
          have B0 := Aside0.mk Q_B0
          have Z4 := Aside0.mk Q_Z4
          have Z5 := Aside0.mk Q_Z5
          refine value_ (w1 := w') (v := .bool false) (wanted_on rfl rfl rfl (e34.trans (by first | rfl | (simp [*]; done)))) rfl ?_ ?_
          · go_simp
            (try simp only [i64_w])
            try rfl
          refine hK.out _ _ ⟨(by rw [ha.out]; exact putSel_upk 11 hb_ rfl rfl rfl), Q_B0, Q_Z4, Q_Z5⟩
        refine steps_cons ?_ ?_
        · rintro b a w' ⟨ha, Q_B0, Q_Z4, Q_Z5⟩ hb_ hon hoff
          refine ⟨_, rfl, fun K hK => ?_⟩
          have e38 : a.tmps[38]? = some (.bool false) := by rw [ha]; exact putSel_on (e := (11, 38, .bool false)) 11 rfl rfl (hon 11 (by kernel_rfl)) rfl
          replace ha := Aside0.mk ha
          have B0 := Aside0.mk Q_B0
          have Z4 := Aside0.mk Q_Z4
          have Z5 := Aside0.mk Q_Z5
          refine off_ (wanted_off rfl rfl rfl (e38.trans (by first | rfl | (simp [*]; done)))) ?_
          refine hK.out _ _ ⟨(by rw [ha.out]; exact putSel_upk 12 hb_ rfl rfl rfl), Q_B0, Q_Z4, Q_Z5⟩
        refine steps_cons ?_ ?_
        · rintro b a w' ⟨ha, Q_B0, Q_Z4, Q_Z5⟩ hb_ hon hoff
          refine ⟨_, rfl, fun K hK => ?_⟩
          have e38 : a.tmps[38]? = some (.bool false) := by rw [ha]; exact putSel_on (e := (11, 38, .bool false)) 11 rfl rfl (hon 11 (by kernel_rfl)) rfl
          replace ha := Aside0.mk ha
          have B0 := Aside0.mk Q_B0
          have Z4 := Aside0.mk Q_Z4
          have Z5 := Aside0.mk Q_Z5
          refine off_ (wanted_off rfl rfl rfl (e38.trans (by first | rfl | (simp [*]; done)))) ?_
          refine hK.out _ _ ⟨(by rw [ha.out]; exact putSel_upk 13 hb_ rfl rfl rfl), Q_B0, Q_Z4, Q_Z5⟩
        refine steps_cons ?_ ?_
        · rintro b a w' ⟨ha, Q_B0, Q_Z4, Q_Z5⟩ hb_ hon hoff
          refine ⟨_, rfl, fun K hK => ?_⟩
          have e38 : a.tmps[38]? = some (.bool false) := by rw [ha]; exact putSel_on (e := (11, 38, .bool false)) 11 rfl rfl (hon 11 (by kernel_rfl)) rfl
          replace ha := Aside0.mk ha
          have B0 := Aside0.mk Q_B0
          have Z4 := Aside0.mk Q_Z4
          have Z5 := Aside0.mk Q_Z5
          refine off_ (wanted_off rfl rfl rfl (e38.trans (by first | rfl | (simp [*]; done)))) ?_
          refine hK.out _ _ ⟨(by rw [ha.out]; exact putSel_upk 14 hb_ rfl rfl rfl), Q_B0, Q_Z4, Q_Z5⟩
        refine steps_cons ?_ ?_
        · rintro b a w' ⟨ha, Q_B0, Q_Z4, Q_Z5⟩ hb_ hon hoff
          refine ⟨_, rfl, fun K hK => ?_⟩
          have e38 : a.tmps[38]? = some (.bool false) := by rw [ha]; exact putSel_on (e := (11, 38, .bool false)) 11 rfl rfl (hon 11 (by kernel_rfl)) rfl
          have e41 : a.tmps[41]? = some (undef) := by rw [ha]; exact putSel_on (e := (14, 41, undef)) 14 rfl rfl (hon 14 (by kernel_rfl)) rfl
          have e34 : a.tmps[34]? = some (.bool false) := by rw [ha]; exact putSel_on (e := (7, 34, .bool false)) 7 rfl rfl (hon 7 (by kernel_rfl)) rfl
          replace ha := Aside0.mk ha
          have B0 := Aside0.mk Q_B0
          have Z4 := Aside0.mk Q_Z4
          have Z5 := Aside0.mk Q_Z5
          refine value_ (w1 := w') (v := .bool false) (wanted_on rfl rfl rfl (e34.trans (by first | rfl | (simp [*]; done)))) rfl ?_ ?_
          · go_simp
            (try simp only [i64_w])
            try rfl
          refine hK.out _ _ ⟨(by rw [ha.out]; exact putSel_upk 15 hb_ rfl rfl rfl), Q_B0, Q_Z4, Q_Z5⟩
        refine steps_cons ?_ ?_
        · rintro b a w' ⟨ha, Q_B0, Q_Z4, Q_Z5⟩ hb_ hon hoff
          refine ⟨_, rfl, fun K hK => ?_⟩
          have e34 : a.tmps[34]? = some (.bool false) := by rw [ha]; exact putSel_on (e := (7, 34, .bool false)) 7 rfl rfl (hon 7 (by kernel_rfl)) rfl
          have e42 : a.tmps[42]? = some (.bool false) := by rw [ha]; exact putSel_on (e := (15, 42, .bool false)) 15 rfl rfl (hon 15 (by kernel_rfl)) rfl
          replace ha := Aside0.mk ha
          have B0 := Aside0.mk Q_B0
          have Z4 := Aside0.mk Q_Z4
          have Z5 := Aside0.mk Q_Z5
          refine value_ (w1 := w') (v := .bool false) (by rfl) rfl ?_ ?_
          · go_simp
            (try simp only [i64_w])
            try rfl
          refine hK.out _ _ ⟨(by rw [ha.out]; exact putSel_upk 16 hb_ rfl rfl rfl), Q_B0, Q_Z4, Q_Z5⟩
        exact steps_nil
      rintro b a wl hall ⟨ha, Q_B0, Q_Z4, Q_Z5⟩
      clear B0 Z4 Z5
      have hb0_ := hall 0 (by kernel_rfl)
      have hb1_ := hall 1 (by kernel_rfl)
      have hb2_ := hall 2 (by kernel_rfl)
      have hb3_ := hall 3 (by kernel_rfl)
      have hb4_ := hall 4 (by kernel_rfl)
      have hb5_ := hall 5 (by kernel_rfl)
      have hb6_ := hall 6 (by kernel_rfl)
      have hb7_ := hall 7 (by kernel_rfl)
      have hb8_ := hall 8 (by kernel_rfl)
      have hb9_ := hall 9 (by kernel_rfl)
      have hb10_ := hall 10 (by kernel_rfl)
      have hb11_ := hall 11 (by kernel_rfl)
      have hb12_ := hall 12 (by kernel_rfl)
      have hb13_ := hall 13 (by kernel_rfl)
      have hb14_ := hall 14 (by kernel_rfl)
      have hb15_ := hall 15 (by kernel_rfl)
      have hb16_ := hall 16 (by kernel_rfl)
      subst ha
      simp only [putSel, hb0_, hb1_, hb2_, hb3_, hb4_, hb5_, hb6_, hb7_, hb8_, hb9_, hb10_, hb11_, hb12_, hb13_, hb14_, hb15_, hb16_, if_true, Act.put, List.setIfInBounds_toArray, List.set_cons_zero, List.set_cons_succ]
      have B0 := Aside0.mk Q_B0
      clear Q_B0
      have Z4 := Aside0.mk Q_Z4
      clear Q_Z4
      have Z5 := Aside0.mk Q_Z5
      clear Q_Z5
      clear hall hb0_ hb1_ hb2_ hb3_ hb4_ hb5_ hb6_ hb7_ hb8_ hb9_ hb10_ hb11_ hb12_ hb13_ hb14_ hb15_ hb16_
      clear HAB HLB HBA Z5
      have HNX := Aside0.mk (fun W hW => next_calls l HL.out.1 A cp W (Kd.C_below HR.out.2 hW) (headOr (orderOf l)) rfl)
      have HON := Aside0.mk (next_pure l ra)
      have HAL := Aside0.mk (fun x Ax cx y Ay cy W hx hy => less_calls x y Ax cx Ay cy W hx hy)
      obtain ⟨ro, ho⟩ : ∃ ro, ro = headOr (orderOf l) := ⟨_, rfl⟩
      obtain ⟨rn, hn⟩ : ∃ rn, rn = headOr (orderOf (l ++ [ra])) := ⟨_, rfl⟩
      obtain ⟨was, hwas⟩ : ∃ b, b = !(orderOf l).isEmpty := ⟨_, rfl⟩
      obtain ⟨isb, his⟩ : ∃ b, b = !(orderOf (l ++ [ra])).isEmpty := ⟨_, rfl⟩
      have HN2' : Aside0 (∀ W, lightL (l ++ [ra]) → ∀ A c, (l ++ [ra]).length ≤ c → Kd.C k29 W A (l ++ [ra]).length (l ++ [ra]) → _) := ⟨fun W h1 A c _ hC => next_calls2 (l ++ [ra]) h1 A c W hC rn hn⟩
      rw [← ho, ← hwas] at HNX
      rw [← his] at HN2'
      rw [← ho, ← hn, ← hwas, ← his] at HON
      have HPN : Aside0 (was = true → ro.f7.length ≤ 1000) := ⟨fun h => by
        rw [ho]
        exact head_light HL.out.1⟩
      have HPN2 : Aside0 (rn.f7.length ≤ 1000) := ⟨by
        rw [hn]
        exact head_light (light_snoc HL.out.1 (by have := HL.out.2.1; omega) HL.out.2.2.2)⟩
      clear ho hn hwas his
      go_upto_region 6 with (go_at_call 15; (with_reducible refine (HNX.out _ B0.out).mono ?_); rintro e w5 ⟨A7, c7, rfl, hl7, hC7, hb⟩; replace B0 := Aside0.mk (below_then B0.out B0.out.size hb); replace Z4 := Aside0.mk (blk_below Z4.out hb); have H7 := Aside0.mk (And.intro hl7 hC7); clear hb hl7 hC7)
      have hZ7 := heap_alloc_new w5 (.cells #[.int .u64 ro.f0, .int .u64 ro.f1, .int .i64 ro.f2, .int .i64 ro.f3, .int .u64 ro.f4, .bool ro.f5, .int .i64 ro.f6, .slice A7 ro.f7.length c7] 29)
      have hHW := below_alloc B0.out (.cells #[.int .u64 ro.f0, .int .u64 ro.f1, .int .i64 ro.f2, .int .i64 ro.f3, .int .u64 ro.f4, .bool ro.f5, .int .i64 ro.f6, .slice A7 ro.f7.length c7] 29)
      have hZ4 := blk_alloc Z4.out (.cells #[.int .u64 ro.f0, .int .u64 ro.f1, .int .i64 ro.f2, .int .i64 ro.f3, .int .u64 ro.f4, .bool ro.f5, .int .i64 ro.f6, .slice A7 ro.f7.length c7] 29)
      have hP70 : Pg (w5.alloc (.cells #[.int .u64 ro.f0, .int .u64 ro.f1, .int .i64 ro.f2, .int .i64 ro.f3, .int .u64 ro.f4, .bool ro.f5, .int .i64 ro.f6, .slice A7 ro.f7.length c7] 29)) ro A7 c7 := ⟨H7.out.1, Kd.C_below H7.out.2 (below_alloc (Below.refl _ _) _)⟩
      generalize w5.alloc (.cells #[.int .u64 ro.f0, .int .u64 ro.f1, .int .i64 ro.f2, .int .i64 ro.f3, .int .u64 ro.f4, .bool ro.f5, .int .i64 ro.f6, .slice A7 ro.f7.length c7] 29) = W0 at hZ7 hHW hZ4 hP70 ⊢
      generalize w5.heap.size = b7 at hZ7 ⊢
      obtain ⟨ps, hps, hgood, hnone, hcells⟩ := split_row (Kd.C_below HR.out.2 hHW)
      obtain ⟨HE, hHE⟩ : ∃ HE, HE = (ps.map recOf).flatMap Rec.enc := ⟨_, rfl⟩
      obtain ⟨HF, hHF⟩ : ∃ HF, HF = ((ps ++ [((ra, Aa, ca) : Rp)]).map recOf).flatMap Rec.enc := ⟨_, rfl⟩
      have hlen : ps.length = l.length := by rw [← hps, List.length_map]
      have hl60 := HL.out.2.2.2
      have HAP : Aside0 (∀ W, Below W0.heap.size W0 W → ∀ g, W.ownsRow W0.heap.size 29 8 (.slice (some ⟨g, 0, none⟩) 0 0) 0 [] → ∃ v' w', (Builtin.append_ #[22, 22] 22 #[.slice (some ⟨g, 0, none⟩) 0 0, .slice A l.length cp]).run Try.prog W = .ok v' w' ∧ w'.ownsRow W0.heap.size 29 8 v' l.length HE ∧ Below W.heap.size W w' ∧ (v'.ownBlock = some g ∨ v'.ownBlock = some W.heap.size)) := ⟨fun W hW g ho =>
        app_empty W0.heap.size 22 g ho A l.length cp HE (by rw [hHE, encs_len, List.length_map, hlen]) hnone (fun ad had j u hu => pw_cell_below hW (hcells ad had j u (by rw [← hHE]; exact hu))) (by rw [hHE]; intro u hu; obtain ⟨x, _, hx⟩ := List.mem_flatMap.1 hu; exact enc_one x u hx) (by omega) hW.size⟩
      have HAQ : Aside0 (∀ W, Below W0.heap.size W0 W → ∀ v gx, W.ownsRow W0.heap.size 29 8 v l.length HE → W.heap[gx]? = some (.cells #[.int .u64 ra.f0, .int .u64 ra.f1, .int .i64 ra.f2, .int .i64 ra.f3, .int .u64 ra.f4, .bool ra.f5, .int .i64 ra.f6, .slice Aa ra.f7.length ca] 29 (0, 0)) → ∃ v' w', (Builtin.append_ #[22, 22] 22 #[v, .slice (some ⟨gx, 0, none⟩) 1 1]).run Try.prog W = .ok v' w' ∧ w'.ownsRow W0.heap.size 29 8 v' (l.length + 1) HF ∧ W.grownBy w' v.ownBlock) := ⟨fun W hW v gx ho hz => by
        obtain ⟨v', w', h1, h2, h3, _⟩ := app_own W0.heap.size 22 v l.length HE ho ⟨gx, 0, none⟩ 1 1 (recOf (ra, Aa, ca)).enc rfl (fun j u hu => by rw [add_plain, blk_cell hz, ← hu]; show ((recOf (ra, Aa, ca)).enc.toArray)[j]? = _; rw [List.getElem?_toArray]) (enc_one _) (by omega) hW.size
        refine ⟨v', w', h1, ?_, h3⟩
        rw [hHF, List.map_append, List.flatMap_append, ← hHE]
        simpa using h2⟩
      have HN2 : Aside0 (∀ W, Below W0.heap.size W0 W → ∀ A c, W.ownsRow W0.heap.size 29 8 (.slice A (l.length + 1) c) (l.length + 1) HF → Calls Try.prog 15 #[.slice A (l.length + 1) c] W fun e w' => ∃ (A7 : Option Addr) (c7 : Nat), e = .returned (.tuple #[.agg #[.int .u64 rn.f0, .int .u64 rn.f1, .int .i64 rn.f2, .int .i64 rn.f3, .int .u64 rn.f4, .bool rn.f5, .int .i64 rn.f6, .slice A7 rn.f7.length c7], .bool isb]) ∧ Pg w' rn A7 c7 ∧ (∀ ad, 0 < rn.f7.length → A7 = some ad → W.heap.size < ad.block) ∧ Below W.heap.size W w') := ⟨fun W hW A c ho => by
        have hn1 : (ps ++ [((ra, Aa, ca) : Rp)]).length = l.length + 1 := by rw [List.length_append, hlen]; rfl
        rw [← hn1, hHF] at ho
        obtain ⟨A', c', hv, hc', hC'⟩ := own_C ho (fun p hp => by
          rcases List.mem_append.1 hp with h | h
          · exact (hgood p h).below hW
          · rw [List.mem_singleton.1 h]; exact HPA.out.below (hHW.trans (hW.mono hHW.size))) (by omega)
        rw [hn1] at hv hc'
        injection hv with h1 _ h3
        subst h1
        subst h3
        rw [List.map_append, hps] at hC'
        have hll : (l ++ [ra]).length = l.length + 1 := by rw [List.length_append]; rfl
        have := HN2'.out W (light_snoc HL.out.1 (by have := HL.out.2.1; omega) HL.out.2.2.2) A c (by rw [hll]; exact hc') hC'
        rw [hll] at this
        refine this.mono ?_
        rintro e w' ⟨A7, c7, h1, h2, h3, h4, h5⟩
        exact ⟨A7, c7, h1, ⟨h2, h3⟩, h4, h5⟩⟩
      have HW := Aside0.mk hHW
      replace Z4 := Aside0.mk hZ4
      have Z7 := Aside0.mk hZ7
      have P70 := Aside0.mk hP70
      have B0 := Aside0.mk (below_drew1 (Below.refl W0.heap.size W0))
      clear hZ7 hHW hZ4 hP70 hps hgood hnone hcells hHE hHF hlen hl60 HNX HN2' H7
      refine start_ (n := 13) (S := fun w' => True) (ds := []) #[false, false, false, false, false, false, false, false, false, false, false, false, false] (by kernel_rfl) rfl rfl trivial (fun hHeld => ?_)
      refine with_tabW ahead6.tab6 ahead6.bits6 (fun HT_ HW_ => ?_)
      generalize W0.drew = wq at B0 hHeld ⊢
      refine inv_at [0, 1, 2, 3, 4, 5, 6, 7, 8, 9, 10, 11, 12] (fun a0_ b a w' => ∃ (g0 : Nat) (gx : Nat) (g9 : Nat) (v52 : Value) (A55 : Option Addr) (c55 : Nat) (A9 : Option Addr) (c9 : Nat) (m0_ : Value) (m4_ : Value) (m5_ : Value) (m6_ : Value) (m7_ : Value) (m8_ : Value) (m10_ : Value), a = putSel a0_ b [(0, 50, m0_), (1, 51, .slice A l.length cp), (2, 52, v52), (3, 53, .agg #[.int .u64 ra.f0, .int .u64 ra.f1, .int .i64 ra.f2, .int .i64 ra.f3, .int .u64 ra.f4, .bool ra.f5, .int .i64 ra.f6, .slice Aa ra.f7.length ca]), (4, 54, m4_), (5, 55, m5_), (6, 56, m6_), (7, 49, m7_), (8, 57, m8_), (9, 58, .bool isb), (10, 9, m10_), (12, 10, .bool isb)] ∧ (Below W0.heap.size W0 w') ∧ (b 0 = true → b 2 = false → w'.ownsRow W0.heap.size 29 8 (.slice (some ⟨g0, 0, none⟩) 0 0) 0 []) ∧ (b 2 = true → b 5 = false → w'.ownsRow W0.heap.size 29 8 v52 l.length HE) ∧ (b 5 = true → b 6 = false → w'.ownsRow W0.heap.size 29 8 (.slice A55 (l.length + 1) c55) (l.length + 1) HF) ∧ (b 4 = true → b 5 = false → w'.heap[gx]? = some (.cells #[.int .u64 ra.f0, .int .u64 ra.f1, .int .i64 ra.f2, .int .i64 ra.f3, .int .u64 ra.f4, .bool ra.f5, .int .i64 ra.f6, .slice Aa ra.f7.length ca] 29 (0, 0))) ∧ (b 10 = true → b 11 = false → w'.heap[g9]? = some (.cells #[.int .u64 0, .int .u64 0, .int .i64 0, .int .i64 0, .int .u64 0, .bool false, .int .i64 0, .slice none 0 0] 29 (0, 0)) ∧ W0.heap.size ≤ g9) ∧ (b 11 = true → w'.heap[g9]? = some (.cells #[.int .u64 rn.f0, .int .u64 rn.f1, .int .i64 rn.f2, .int .i64 rn.f3, .int .u64 rn.f4, .bool rn.f5, .int .i64 rn.f6, .slice A9 rn.f7.length c9] 29 (0, 0))) ∧ (b 0 = true → b 10 = true → b 2 = false → g0 ≠ g9) ∧ (b 2 = true → b 10 = true → b 5 = false → v52.ownBlock ≠ some g9) ∧ (b 6 = true → Pg w' rn A9 c9) ∧ (b 6 = true → b 10 = true → ∀ ad, 0 < rn.f7.length → A9 = some ad → ad.block ≠ g9) ∧ (b 0 = true → (m0_ : Value) = .slice (some ⟨g0, 0, none⟩) 0 0) ∧ (b 4 = true → (m4_ : Value) = .slice (some ⟨gx, 0, none⟩) 1 1) ∧ (b 5 = true → (m5_ : Value) = .slice A55 (l.length + 1) c55) ∧ (b 6 = true → (m6_ : Value) = .tuple #[.agg #[.int .u64 rn.f0, .int .u64 rn.f1, .int .i64 rn.f2, .int .i64 rn.f3, .int .u64 rn.f4, .bool rn.f5, .int .i64 rn.f6, .slice A9 rn.f7.length c9], .bool isb]) ∧ (b 7 = true → (m7_ : Value) = .tuple #[.agg #[.int .u64 rn.f0, .int .u64 rn.f1, .int .i64 rn.f2, .int .i64 rn.f3, .int .u64 rn.f4, .bool rn.f5, .int .i64 rn.f6, .slice A9 rn.f7.length c9], .bool isb]) ∧ (b 8 = true → (m8_ : Value) = .agg #[.int .u64 rn.f0, .int .u64 rn.f1, .int .i64 rn.f2, .int .i64 rn.f3, .int .u64 rn.f4, .bool rn.f5, .int .i64 rn.f6, .slice A9 rn.f7.length c9]) ∧ (b 10 = true → (m10_ : Value) = .pointer (some ⟨g9, 0, none⟩))) HT_.out HW_.out (by kernel_rfl) (by kernel_rfl) ?_ ?_ ?_
      · exact ⟨0, 0, 0, .bool false, none, 0, none, 0, .bool false, .bool false, .bool false, .bool false, .bool false, .bool false, .bool false, by simp only [putSel, Bool.false_eq_true, if_false], B0.out, fun h_ => absurd h_ (by decide), fun h_ => absurd h_ (by decide), fun h_ => absurd h_ (by decide), fun h_ => absurd h_ (by decide), fun h_ => absurd h_ (by decide), fun h_ => absurd h_ (by decide), fun h_ => absurd h_ (by decide), fun h_ => absurd h_ (by decide), fun h_ => absurd h_ (by decide), fun h_ => absurd h_ (by decide), fun h_ => absurd h_ (by decide), fun h_ => absurd h_ (by decide), fun h_ => absurd h_ (by decide), fun h_ => absurd h_ (by decide), fun h_ => absurd h_ (by decide), fun h_ => absurd h_ (by decide), fun h_ => absurd h_ (by decide)⟩
      · skip
        clear B0
        refine steps_cons ?_ ?_
        · rintro b a w' ⟨g0, gx, g9, v52, A55, c55, A9, c9, m0_, m4_, m5_, m6_, m7_, m8_, m10_, ha, Q_B0, Q_O0, Q_O2, Q_O5, Q_G4, Q_H9, Q_HX, Q_N3, Q_N2, Q_P7, Q_N9, Q_X0_, Q_X4_, Q_X5_, Q_X6_, Q_X7_, Q_X8_, Q_X10_⟩ hb_ hon hoff
          refine ⟨_, rfl, fun K hK => ?_⟩
          replace ha := Aside0.mk ha
          have B0 := Aside0.mk Q_B0
          refine value_ (w1 := w'.alloc (Obj.cells #[] 29)) (v := .slice (some ⟨w'.heap.size, 0, none⟩) 0 0) (by rfl) rfl (by first | (go_simp; done) | (go_simp; rfl)) ?_
          have hb := below_alloc (Below.refl w'.heap.size w') (Obj.cells #[] 29)
          refine hK.out _ _ ⟨w'.heap.size, gx, g9, v52, A55, c55, A9, c9, (.slice (some ⟨w'.heap.size, 0, none⟩) 0 0), m4_, m5_, m6_, m7_, m8_, m10_, (by rw [ha.out]; exact putSel_upk 0 hb_ rfl rfl rfl), below_then B0.out B0.out.size hb, fun _ _ => World.ownsRow_made w' #[] 0 B0.out.size (Nat.zero_le _) rfl, fun h0_ _ => absurd ((hoff 2 (by kernel_rfl)).symm.trans h0_) (by decide), fun h0_ _ => absurd ((hoff 5 (by kernel_rfl)).symm.trans h0_) (by decide), fun h0_ h1_ => blk_below (Q_G4 h0_ h1_) hb, fun h0_ h1_ => ⟨blk_below (Q_H9 h0_ h1_).1 hb, (Q_H9 h0_ h1_).2⟩, fun h0_ => absurd ((hoff 11 (by kernel_rfl)).symm.trans h0_) (by decide), fun _ h1_ _ => Nat.ne_of_gt (blk_lt (Q_H9 h1_ (hoff 11 (by kernel_rfl))).1), fun h0_ _ _ => absurd ((hoff 2 (by kernel_rfl)).symm.trans h0_) (by decide), fun h0_ => absurd ((hoff 6 (by kernel_rfl)).symm.trans h0_) (by decide), fun h0_ _ => absurd ((hoff 6 (by kernel_rfl)).symm.trans h0_) (by decide), fun _ => rfl, Q_X4_, fun h0_ => absurd ((hoff 5 (by kernel_rfl)).symm.trans h0_) (by decide), fun h0_ => absurd ((hoff 6 (by kernel_rfl)).symm.trans h0_) (by decide), fun h0_ => absurd ((hoff 7 (by kernel_rfl)).symm.trans h0_) (by decide), fun h0_ => absurd ((hoff 8 (by kernel_rfl)).symm.trans h0_) (by decide), Q_X10_⟩
        refine steps_cons ?_ ?_
        · rintro b a w' ⟨g0, gx, g9, v52, A55, c55, A9, c9, m0_, m4_, m5_, m6_, m7_, m8_, m10_, ha, Q_B0, Q_O0, Q_O2, Q_O5, Q_G4, Q_H9, Q_HX, Q_N3, Q_N2, Q_P7, Q_N9, Q_X0_, Q_X4_, Q_X5_, Q_X6_, Q_X7_, Q_X8_, Q_X10_⟩ hb_ hon hoff
          refine ⟨_, rfl, fun K hK => ?_⟩
          have e0 : a.tmps[0]? = some (.slice A l.length cp) := by rw [ha]; exact (putSel_off rfl).trans rfl
          replace ha := Aside0.mk ha
          have B0 := Aside0.mk Q_B0
          refine value_ (w1 := w') (v := .slice A l.length cp) (by rfl) rfl ?_ ?_
          · go_simp
            (try simp only [i64_w])
            try rfl
          refine hK.out _ _ ⟨g0, gx, g9, v52, A55, c55, A9, c9, m0_, m4_, m5_, m6_, m7_, m8_, m10_, (by rw [ha.out]; exact putSel_upk 1 hb_ rfl rfl rfl), Q_B0, Q_O0, fun h0_ _ => absurd ((hoff 2 (by kernel_rfl)).symm.trans h0_) (by decide), fun h0_ _ => absurd ((hoff 5 (by kernel_rfl)).symm.trans h0_) (by decide), Q_G4, Q_H9, fun h0_ => absurd ((hoff 11 (by kernel_rfl)).symm.trans h0_) (by decide), Q_N3, fun h0_ _ _ => absurd ((hoff 2 (by kernel_rfl)).symm.trans h0_) (by decide), fun h0_ => absurd ((hoff 6 (by kernel_rfl)).symm.trans h0_) (by decide), fun h0_ _ => absurd ((hoff 6 (by kernel_rfl)).symm.trans h0_) (by decide), Q_X0_, Q_X4_, fun h0_ => absurd ((hoff 5 (by kernel_rfl)).symm.trans h0_) (by decide), fun h0_ => absurd ((hoff 6 (by kernel_rfl)).symm.trans h0_) (by decide), fun h0_ => absurd ((hoff 7 (by kernel_rfl)).symm.trans h0_) (by decide), fun h0_ => absurd ((hoff 8 (by kernel_rfl)).symm.trans h0_) (by decide), Q_X10_⟩
        refine steps_cons ?_ ?_
        · rintro b a w' ⟨g0, gx, g9, v52, A55, c55, A9, c9, m0_, m4_, m5_, m6_, m7_, m8_, m10_, ha, Q_B0, Q_O0, Q_O2, Q_O5, Q_G4, Q_H9, Q_HX, Q_N3, Q_N2, Q_P7, Q_N9, Q_X0_, Q_X4_, Q_X5_, Q_X6_, Q_X7_, Q_X8_, Q_X10_⟩ hb_ hon hoff
          refine ⟨_, rfl, fun K hK => ?_⟩
          have e50 : a.tmps[50]? = some (m0_) := by rw [ha]; exact putSel_on (e := (0, 50, m0_)) 0 rfl rfl (hon 0 (by kernel_rfl)) rfl
          rw [Q_X0_ (hon 0 (by kernel_rfl))] at e50
          have e51 : a.tmps[51]? = some (.slice A l.length cp) := by rw [ha]; exact putSel_on (e := (1, 51, .slice A l.length cp)) 1 rfl rfl (hon 1 (by kernel_rfl)) rfl
          replace ha := Aside0.mk ha
          have B0 := Aside0.mk Q_B0
          have O0 := Aside0.mk (Q_O0 (hon 0 (by kernel_rfl)) hb_)
          obtain ⟨v_, w2, hr_, ho_, hb, hat_⟩ := HAP.out _ B0.out g0 O0.out
          refine app_step (by rfl) rfl rfl e50 e51 hr_ ?_
          refine hK.out _ _ ⟨g0, gx, g9, v_, A55, c55, A9, c9, m0_, m4_, m5_, m6_, m7_, m8_, m10_, (by rw [ha.out]; exact putSel_upk 2 hb_ rfl rfl rfl), below_then B0.out B0.out.size hb, fun _ h1_ => absurd ((up_self b 2).symm.trans h1_) (by decide), fun _ _ => ho_, fun h0_ _ => absurd ((hoff 5 (by kernel_rfl)).symm.trans h0_) (by decide), fun h0_ h1_ => blk_below (Q_G4 h0_ h1_) hb, fun h0_ h1_ => ⟨blk_below (Q_H9 h0_ h1_).1 hb, (Q_H9 h0_ h1_).2⟩, fun h0_ => absurd ((hoff 11 (by kernel_rfl)).symm.trans h0_) (by decide), fun _ _ h2_ => absurd ((up_self b 2).symm.trans h2_) (by decide), fun _ h1_ _ => ne_of_hat hat_ (Q_N3 (hon 0 (by kernel_rfl)) h1_ hb_) (blk_lt (Q_H9 h1_ (hoff 11 (by kernel_rfl))).1), fun h0_ => absurd ((hoff 6 (by kernel_rfl)).symm.trans h0_) (by decide), fun h0_ _ => absurd ((hoff 6 (by kernel_rfl)).symm.trans h0_) (by decide), Q_X0_, Q_X4_, fun h0_ => absurd ((hoff 5 (by kernel_rfl)).symm.trans h0_) (by decide), fun h0_ => absurd ((hoff 6 (by kernel_rfl)).symm.trans h0_) (by decide), fun h0_ => absurd ((hoff 7 (by kernel_rfl)).symm.trans h0_) (by decide), fun h0_ => absurd ((hoff 8 (by kernel_rfl)).symm.trans h0_) (by decide), Q_X10_⟩
        refine steps_cons ?_ ?_
        · rintro b a w' ⟨g0, gx, g9, v52, A55, c55, A9, c9, m0_, m4_, m5_, m6_, m7_, m8_, m10_, ha, Q_B0, Q_O0, Q_O2, Q_O5, Q_G4, Q_H9, Q_HX, Q_N3, Q_N2, Q_P7, Q_N9, Q_X0_, Q_X4_, Q_X5_, Q_X6_, Q_X7_, Q_X8_, Q_X10_⟩ hb_ hon hoff
          refine ⟨_, rfl, fun K hK => ?_⟩
          have e4 : a.tmps[4]? = some (.pointer (some ⟨w.heap.size, 0, none⟩)) := by rw [ha]; exact (putSel_off rfl).trans rfl
          replace ha := Aside0.mk ha
          have B0 := Aside0.mk Q_B0
          have hz_ := blk_below Z4.out B0.out
          have c0_ := blk_cell hz_ 0
          have c1_ := blk_cell hz_ 1
          have c2_ := blk_cell hz_ 2
          have c3_ := blk_cell hz_ 3
          have c4_ := blk_cell hz_ 4
          have c5_ := blk_cell hz_ 5
          have c6_ := blk_cell hz_ 6
          have c7_ := blk_cell hz_ 7
          clear hz_
          refine value_ (w1 := w') (v := .agg #[.int .u64 ra.f0, .int .u64 ra.f1, .int .i64 ra.f2, .int .i64 ra.f3, .int .u64 ra.f4, .bool ra.f5, .int .i64 ra.f6, .slice Aa ra.f7.length ca]) (by rfl) rfl ?_ ?_
          · go_simp
            (try simp only [i64_w])
            try rfl
          refine hK.out _ _ ⟨g0, gx, g9, v52, A55, c55, A9, c9, m0_, m4_, m5_, m6_, m7_, m8_, m10_, (by rw [ha.out]; exact putSel_upk 3 hb_ rfl rfl rfl), Q_B0, Q_O0, Q_O2, fun h0_ _ => absurd ((hoff 5 (by kernel_rfl)).symm.trans h0_) (by decide), fun h0_ _ => absurd ((hoff 4 (by kernel_rfl)).symm.trans h0_) (by decide), Q_H9, fun h0_ => absurd ((hoff 11 (by kernel_rfl)).symm.trans h0_) (by decide), Q_N3, Q_N2, fun h0_ => absurd ((hoff 6 (by kernel_rfl)).symm.trans h0_) (by decide), fun h0_ _ => absurd ((hoff 6 (by kernel_rfl)).symm.trans h0_) (by decide), Q_X0_, fun h0_ => absurd ((hoff 4 (by kernel_rfl)).symm.trans h0_) (by decide), fun h0_ => absurd ((hoff 5 (by kernel_rfl)).symm.trans h0_) (by decide), fun h0_ => absurd ((hoff 6 (by kernel_rfl)).symm.trans h0_) (by decide), fun h0_ => absurd ((hoff 7 (by kernel_rfl)).symm.trans h0_) (by decide), fun h0_ => absurd ((hoff 8 (by kernel_rfl)).symm.trans h0_) (by decide), Q_X10_⟩
        refine steps_cons ?_ ?_
        · rintro b a w' ⟨g0, gx, g9, v52, A55, c55, A9, c9, m0_, m4_, m5_, m6_, m7_, m8_, m10_, ha, Q_B0, Q_O0, Q_O2, Q_O5, Q_G4, Q_H9, Q_HX, Q_N3, Q_N2, Q_P7, Q_N9, Q_X0_, Q_X4_, Q_X5_, Q_X6_, Q_X7_, Q_X8_, Q_X10_⟩ hb_ hon hoff
          refine ⟨_, rfl, fun K hK => ?_⟩
          have e53 : a.tmps[53]? = some (.agg #[.int .u64 ra.f0, .int .u64 ra.f1, .int .i64 ra.f2, .int .i64 ra.f3, .int .u64 ra.f4, .bool ra.f5, .int .i64 ra.f6, .slice Aa ra.f7.length ca]) := by rw [ha]; exact putSel_on (e := (3, 53, .agg #[.int .u64 ra.f0, .int .u64 ra.f1, .int .i64 ra.f2, .int .i64 ra.f3, .int .u64 ra.f4, .bool ra.f5, .int .i64 ra.f6, .slice Aa ra.f7.length ca])) 3 rfl rfl (hon 3 (by kernel_rfl)) rfl
          replace ha := Aside0.mk ha
          have B0 := Aside0.mk Q_B0
          refine value_ (w1 := w'.alloc (Obj.cells #[.int .u64 ra.f0, .int .u64 ra.f1, .int .i64 ra.f2, .int .i64 ra.f3, .int .u64 ra.f4, .bool ra.f5, .int .i64 ra.f6, .slice Aa ra.f7.length ca] 29)) (v := .slice (some ⟨w'.heap.size, 0, none⟩) 1 1) (by rfl) rfl (by first | (go_simp; done) | (go_simp; rfl)) ?_
          have hb := below_alloc (Below.refl w'.heap.size w') (Obj.cells #[.int .u64 ra.f0, .int .u64 ra.f1, .int .i64 ra.f2, .int .i64 ra.f3, .int .u64 ra.f4, .bool ra.f5, .int .i64 ra.f6, .slice Aa ra.f7.length ca] 29)
          refine hK.out _ _ ⟨g0, w'.heap.size, g9, v52, A55, c55, A9, c9, m0_, (.slice (some ⟨w'.heap.size, 0, none⟩) 1 1), m5_, m6_, m7_, m8_, m10_, (by rw [ha.out]; exact putSel_upk 4 hb_ rfl rfl rfl), below_then B0.out B0.out.size hb, fun h0_ h1_ => World.ownsRow.alloc ((Q_O0 h0_ h1_)) _, fun h0_ h1_ => World.ownsRow.alloc ((Q_O2 h0_ h1_)) _, fun h0_ _ => absurd ((hoff 5 (by kernel_rfl)).symm.trans h0_) (by decide), fun _ _ => heap_alloc_new w' _, fun h0_ h1_ => ⟨blk_below (Q_H9 h0_ h1_).1 hb, (Q_H9 h0_ h1_).2⟩, fun h0_ => absurd ((hoff 11 (by kernel_rfl)).symm.trans h0_) (by decide), Q_N3, Q_N2, fun h0_ => absurd ((hoff 6 (by kernel_rfl)).symm.trans h0_) (by decide), fun h0_ _ => absurd ((hoff 6 (by kernel_rfl)).symm.trans h0_) (by decide), Q_X0_, fun _ => rfl, fun h0_ => absurd ((hoff 5 (by kernel_rfl)).symm.trans h0_) (by decide), fun h0_ => absurd ((hoff 6 (by kernel_rfl)).symm.trans h0_) (by decide), fun h0_ => absurd ((hoff 7 (by kernel_rfl)).symm.trans h0_) (by decide), fun h0_ => absurd ((hoff 8 (by kernel_rfl)).symm.trans h0_) (by decide), Q_X10_⟩
        refine steps_cons ?_ ?_
        · rintro b a w' ⟨g0, gx, g9, v52, A55, c55, A9, c9, m0_, m4_, m5_, m6_, m7_, m8_, m10_, ha, Q_B0, Q_O0, Q_O2, Q_O5, Q_G4, Q_H9, Q_HX, Q_N3, Q_N2, Q_P7, Q_N9, Q_X0_, Q_X4_, Q_X5_, Q_X6_, Q_X7_, Q_X8_, Q_X10_⟩ hb_ hon hoff
          refine ⟨_, rfl, fun K hK => ?_⟩
          have e52 : a.tmps[52]? = some (v52) := by rw [ha]; exact putSel_on (e := (2, 52, v52)) 2 rfl rfl (hon 2 (by kernel_rfl)) rfl
          have e54 : a.tmps[54]? = some (m4_) := by rw [ha]; exact putSel_on (e := (4, 54, m4_)) 4 rfl rfl (hon 4 (by kernel_rfl)) rfl
          rw [Q_X4_ (hon 4 (by kernel_rfl))] at e54
          replace ha := Aside0.mk ha
          have B0 := Aside0.mk Q_B0
          have O2 := Aside0.mk (Q_O2 (hon 2 (by kernel_rfl)) hb_)
          have G4 := Aside0.mk (Q_G4 (hon 4 (by kernel_rfl)) hb_)
          obtain ⟨v_, w2, hr_, ho_, hg_⟩ := HAQ.out _ B0.out v52 gx O2.out G4.out
          obtain ⟨A_, c_, rfl⟩ := own_slice ho_
          refine app_step (by rfl) rfl rfl e52 e54 hr_ ?_
          refine hK.out _ _ ⟨g0, gx, g9, v52, A_, c_, A9, c9, m0_, m4_, (.slice A_ (l.length + 1) c_), m6_, m7_, m8_, m10_, (by rw [ha.out]; exact putSel_upk 5 hb_ rfl rfl rfl), pw_below_grown B0.out _ B0.out.size hg_ (own_base O2.out), fun _ h1_ => absurd ((hon 2 (by kernel_rfl)).symm.trans h1_) (by decide), fun _ h1_ => absurd ((up_self b 5).symm.trans h1_) (by decide), fun _ _ => ho_, fun _ h1_ => absurd ((up_self b 5).symm.trans h1_) (by decide), fun h0_ h1_ => ⟨blk_grown (Q_H9 h0_ h1_).1 hg_ (Ne.symm (Q_N2 (hon 2 (by kernel_rfl)) h0_ hb_)), (Q_H9 h0_ h1_).2⟩, fun h0_ => absurd ((hoff 11 (by kernel_rfl)).symm.trans h0_) (by decide), fun _ _ h2_ => absurd ((hon 2 (by kernel_rfl)).symm.trans h2_) (by decide), fun _ _ h2_ => absurd ((up_self b 5).symm.trans h2_) (by decide), fun h0_ => absurd ((hoff 6 (by kernel_rfl)).symm.trans h0_) (by decide), fun h0_ _ => absurd ((hoff 6 (by kernel_rfl)).symm.trans h0_) (by decide), Q_X0_, Q_X4_, fun _ => rfl, fun h0_ => absurd ((hoff 6 (by kernel_rfl)).symm.trans h0_) (by decide), fun h0_ => absurd ((hoff 7 (by kernel_rfl)).symm.trans h0_) (by decide), fun h0_ => absurd ((hoff 8 (by kernel_rfl)).symm.trans h0_) (by decide), Q_X10_⟩
        refine steps_cons ?_ ?_
        · rintro b a w' ⟨g0, gx, g9, v52, A55, c55, A9, c9, m0_, m4_, m5_, m6_, m7_, m8_, m10_, ha, Q_B0, Q_O0, Q_O2, Q_O5, Q_G4, Q_H9, Q_HX, Q_N3, Q_N2, Q_P7, Q_N9, Q_X0_, Q_X4_, Q_X5_, Q_X6_, Q_X7_, Q_X8_, Q_X10_⟩ hb_ hon hoff
          refine ⟨_, rfl, fun K hK => ?_⟩
          have e55 : a.tmps[55]? = some (m5_) := by rw [ha]; exact putSel_on (e := (5, 55, m5_)) 5 rfl rfl (hon 5 (by kernel_rfl)) rfl
          rw [Q_X5_ (hon 5 (by kernel_rfl))] at e55
          replace ha := Aside0.mk ha
          have B0 := Aside0.mk Q_B0
          have O5 := Aside0.mk (Q_O5 (hon 5 (by kernel_rfl)) hb_)
          refine goes_ Try.func15 (by kernel_rfl) rfl #[.slice A55 (l.length + 1) c55] (by rfl) rfl rfl (by first | (simp only [List.map_toArray, List.map_cons, List.map_nil, Act.eval, Array.getD_eq_getD_getElem?, Option.getD_some, e55]; done) | (simp only [List.map_toArray, List.map_cons, List.map_nil, Act.eval, Array.getD_eq_getD_getElem?, Option.getD_some, e55]; rfl)) ?_
          with_reducible refine (HN2.out _ B0.out A55 c55 O5.out).mono ?_
          rintro e w2 ⟨A_, c_, rfl, hP_, hn_, hb⟩
          refine ⟨_, rfl, ?_⟩
          refine hK.out _ _ ⟨g0, gx, g9, v52, A55, c55, A_, c_, m0_, m4_, m5_, (.tuple #[.agg #[.int .u64 rn.f0, .int .u64 rn.f1, .int .i64 rn.f2, .int .i64 rn.f3, .int .u64 rn.f4, .bool rn.f5, .int .i64 rn.f6, .slice A_ rn.f7.length c_], .bool isb]), m7_, m8_, m10_, (by rw [ha.out]; exact putSel_upk 6 hb_ rfl rfl rfl), below_then B0.out B0.out.size hb, fun _ h1_ => absurd ((hon 2 (by kernel_rfl)).symm.trans h1_) (by decide), fun _ h1_ => absurd ((hon 5 (by kernel_rfl)).symm.trans h1_) (by decide), fun _ h1_ => absurd ((up_self b 6).symm.trans h1_) (by decide), fun _ h1_ => absurd ((hon 5 (by kernel_rfl)).symm.trans h1_) (by decide), fun h0_ h1_ => ⟨blk_below (Q_H9 h0_ h1_).1 hb, (Q_H9 h0_ h1_).2⟩, fun h0_ => absurd ((hoff 11 (by kernel_rfl)).symm.trans h0_) (by decide), fun _ _ h2_ => absurd ((hon 2 (by kernel_rfl)).symm.trans h2_) (by decide), fun _ _ h2_ => absurd ((hon 5 (by kernel_rfl)).symm.trans h2_) (by decide), fun _ => hP_, fun _ h1_ ad k1 k2 => Nat.ne_of_gt (Nat.lt_trans (blk_lt (Q_H9 h1_ (hoff 11 (by kernel_rfl))).1) (hn_ ad k1 k2)), Q_X0_, Q_X4_, Q_X5_, fun _ => rfl, fun h0_ => absurd ((hoff 7 (by kernel_rfl)).symm.trans h0_) (by decide), fun h0_ => absurd ((hoff 8 (by kernel_rfl)).symm.trans h0_) (by decide), Q_X10_⟩
        refine steps_cons ?_ ?_
        · rintro b a w' ⟨g0, gx, g9, v52, A55, c55, A9, c9, m0_, m4_, m5_, m6_, m7_, m8_, m10_, ha, Q_B0, Q_O0, Q_O2, Q_O5, Q_G4, Q_H9, Q_HX, Q_N3, Q_N2, Q_P7, Q_N9, Q_X0_, Q_X4_, Q_X5_, Q_X6_, Q_X7_, Q_X8_, Q_X10_⟩ hb_ hon hoff
          refine ⟨_, rfl, fun K hK => ?_⟩
          have e56 : a.tmps[56]? = some (m6_) := by rw [ha]; exact putSel_on (e := (6, 56, m6_)) 6 rfl rfl (hon 6 (by kernel_rfl)) rfl
          rw [Q_X6_ (hon 6 (by kernel_rfl))] at e56
          replace ha := Aside0.mk ha
          have B0 := Aside0.mk Q_B0
          have P7 := Aside0.mk (Q_P7 (hon 6 (by kernel_rfl)))
          refine value_ (w1 := w') (v := .tuple #[.agg #[.int .u64 rn.f0, .int .u64 rn.f1, .int .i64 rn.f2, .int .i64 rn.f3, .int .u64 rn.f4, .bool rn.f5, .int .i64 rn.f6, .slice A9 rn.f7.length c9], .bool isb]) (by rfl) rfl ?_ ?_
          · go_simp
            (try simp only [i64_w])
            try rfl
          refine hK.out _ _ ⟨g0, gx, g9, v52, A55, c55, A9, c9, m0_, m4_, m5_, m6_, (.tuple #[.agg #[.int .u64 rn.f0, .int .u64 rn.f1, .int .i64 rn.f2, .int .i64 rn.f3, .int .u64 rn.f4, .bool rn.f5, .int .i64 rn.f6, .slice A9 rn.f7.length c9], .bool isb]), m8_, m10_, (by rw [ha.out]; exact putSel_upk 7 hb_ rfl rfl rfl), Q_B0, fun _ h1_ => absurd ((hon 2 (by kernel_rfl)).symm.trans h1_) (by decide), fun _ h1_ => absurd ((hon 5 (by kernel_rfl)).symm.trans h1_) (by decide), fun _ h1_ => absurd ((hon 6 (by kernel_rfl)).symm.trans h1_) (by decide), fun _ h1_ => absurd ((hon 5 (by kernel_rfl)).symm.trans h1_) (by decide), Q_H9, fun h0_ => absurd ((hoff 11 (by kernel_rfl)).symm.trans h0_) (by decide), fun _ _ h2_ => absurd ((hon 2 (by kernel_rfl)).symm.trans h2_) (by decide), fun _ _ h2_ => absurd ((hon 5 (by kernel_rfl)).symm.trans h2_) (by decide), Q_P7, Q_N9, Q_X0_, Q_X4_, Q_X5_, Q_X6_, fun _ => rfl, fun h0_ => absurd ((hoff 8 (by kernel_rfl)).symm.trans h0_) (by decide), Q_X10_⟩
        refine steps_cons ?_ ?_
        · rintro b a w' ⟨g0, gx, g9, v52, A55, c55, A9, c9, m0_, m4_, m5_, m6_, m7_, m8_, m10_, ha, Q_B0, Q_O0, Q_O2, Q_O5, Q_G4, Q_H9, Q_HX, Q_N3, Q_N2, Q_P7, Q_N9, Q_X0_, Q_X4_, Q_X5_, Q_X6_, Q_X7_, Q_X8_, Q_X10_⟩ hb_ hon hoff
          refine ⟨_, rfl, fun K hK => ?_⟩
          have e49 : a.tmps[49]? = some (m7_) := by rw [ha]; exact putSel_on (e := (7, 49, m7_)) 7 rfl rfl (hon 7 (by kernel_rfl)) rfl
          rw [Q_X7_ (hon 7 (by kernel_rfl))] at e49
          replace ha := Aside0.mk ha
          have B0 := Aside0.mk Q_B0
          have P7 := Aside0.mk (Q_P7 (hon 6 (by kernel_rfl)))
          refine value_ (w1 := w') (v := .agg #[.int .u64 rn.f0, .int .u64 rn.f1, .int .i64 rn.f2, .int .i64 rn.f3, .int .u64 rn.f4, .bool rn.f5, .int .i64 rn.f6, .slice A9 rn.f7.length c9]) (by rfl) rfl ?_ ?_
          · go_simp
            (try simp only [i64_w])
            try rfl
          refine hK.out _ _ ⟨g0, gx, g9, v52, A55, c55, A9, c9, m0_, m4_, m5_, m6_, m7_, (.agg #[.int .u64 rn.f0, .int .u64 rn.f1, .int .i64 rn.f2, .int .i64 rn.f3, .int .u64 rn.f4, .bool rn.f5, .int .i64 rn.f6, .slice A9 rn.f7.length c9]), m10_, (by rw [ha.out]; exact putSel_upk 8 hb_ rfl rfl rfl), Q_B0, fun _ h1_ => absurd ((hon 2 (by kernel_rfl)).symm.trans h1_) (by decide), fun _ h1_ => absurd ((hon 5 (by kernel_rfl)).symm.trans h1_) (by decide), fun _ h1_ => absurd ((hon 6 (by kernel_rfl)).symm.trans h1_) (by decide), fun _ h1_ => absurd ((hon 5 (by kernel_rfl)).symm.trans h1_) (by decide), Q_H9, fun h0_ => absurd ((hoff 11 (by kernel_rfl)).symm.trans h0_) (by decide), fun _ _ h2_ => absurd ((hon 2 (by kernel_rfl)).symm.trans h2_) (by decide), fun _ _ h2_ => absurd ((hon 5 (by kernel_rfl)).symm.trans h2_) (by decide), Q_P7, Q_N9, Q_X0_, Q_X4_, Q_X5_, Q_X6_, Q_X7_, fun _ => rfl, Q_X10_⟩
        refine steps_cons ?_ ?_
        · rintro b a w' ⟨g0, gx, g9, v52, A55, c55, A9, c9, m0_, m4_, m5_, m6_, m7_, m8_, m10_, ha, Q_B0, Q_O0, Q_O2, Q_O5, Q_G4, Q_H9, Q_HX, Q_N3, Q_N2, Q_P7, Q_N9, Q_X0_, Q_X4_, Q_X5_, Q_X6_, Q_X7_, Q_X8_, Q_X10_⟩ hb_ hon hoff
          refine ⟨_, rfl, fun K hK => ?_⟩
          have e49 : a.tmps[49]? = some (m7_) := by rw [ha]; exact putSel_on (e := (7, 49, m7_)) 7 rfl rfl (hon 7 (by kernel_rfl)) rfl
          rw [Q_X7_ (hon 7 (by kernel_rfl))] at e49
          replace ha := Aside0.mk ha
          have B0 := Aside0.mk Q_B0
          have P7 := Aside0.mk (Q_P7 (hon 6 (by kernel_rfl)))
          refine value_ (w1 := w') (v := .bool isb) (by rfl) rfl ?_ ?_
          · go_simp
            (try simp only [i64_w])
            try rfl
          refine hK.out _ _ ⟨g0, gx, g9, v52, A55, c55, A9, c9, m0_, m4_, m5_, m6_, m7_, m8_, m10_, (by rw [ha.out]; exact putSel_upk 9 hb_ rfl rfl rfl), Q_B0, fun _ h1_ => absurd ((hon 2 (by kernel_rfl)).symm.trans h1_) (by decide), fun _ h1_ => absurd ((hon 5 (by kernel_rfl)).symm.trans h1_) (by decide), fun _ h1_ => absurd ((hon 6 (by kernel_rfl)).symm.trans h1_) (by decide), fun _ h1_ => absurd ((hon 5 (by kernel_rfl)).symm.trans h1_) (by decide), Q_H9, Q_HX, fun _ _ h2_ => absurd ((hon 2 (by kernel_rfl)).symm.trans h2_) (by decide), fun _ _ h2_ => absurd ((hon 5 (by kernel_rfl)).symm.trans h2_) (by decide), Q_P7, Q_N9, Q_X0_, Q_X4_, Q_X5_, Q_X6_, Q_X7_, Q_X8_, Q_X10_⟩
        refine steps_cons ?_ ?_
        · rintro b a w' ⟨g0, gx, g9, v52, A55, c55, A9, c9, m0_, m4_, m5_, m6_, m7_, m8_, m10_, ha, Q_B0, Q_O0, Q_O2, Q_O5, Q_G4, Q_H9, Q_HX, Q_N3, Q_N2, Q_P7, Q_N9, Q_X0_, Q_X4_, Q_X5_, Q_X6_, Q_X7_, Q_X8_, Q_X10_⟩ hb_ hon hoff
          refine ⟨_, rfl, fun K hK => ?_⟩
          replace ha := Aside0.mk ha
          have B0 := Aside0.mk Q_B0
          refine value_ (w1 := w'.alloc (Obj.cells #[.int .u64 0, .int .u64 0, .int .i64 0, .int .i64 0, .int .u64 0, .bool false, .int .i64 0, .slice none 0 0] 29)) (v := .pointer (some ⟨w'.heap.size, 0, none⟩)) (by rfl) rfl (by first | (go_simp; done) | (go_simp; rfl)) ?_
          have hb := below_alloc (Below.refl w'.heap.size w') (Obj.cells #[.int .u64 0, .int .u64 0, .int .i64 0, .int .i64 0, .int .u64 0, .bool false, .int .i64 0, .slice none 0 0] 29)
          refine hK.out _ _ ⟨g0, gx, w'.heap.size, v52, A55, c55, A9, c9, m0_, m4_, m5_, m6_, m7_, m8_, (.pointer (some ⟨w'.heap.size, 0, none⟩)), (by rw [ha.out]; exact putSel_upk 10 hb_ rfl rfl rfl), below_then B0.out B0.out.size hb, fun h0_ h1_ => World.ownsRow.alloc ((Q_O0 h0_ h1_)) _, fun h0_ h1_ => World.ownsRow.alloc ((Q_O2 h0_ h1_)) _, fun h0_ h1_ => World.ownsRow.alloc ((Q_O5 h0_ h1_)) _, fun h0_ h1_ => blk_below (Q_G4 h0_ h1_) hb, fun _ _ => ⟨heap_alloc_new w' _, B0.out.size⟩, fun h0_ => absurd ((hoff 11 (by kernel_rfl)).symm.trans h0_) (by decide), fun h0_ _ h2_ => Nat.ne_of_lt (own_lt (Q_O0 h0_ h2_) _ rfl), fun h0_ _ h2_ e_ => absurd (own_lt (Q_O2 h0_ h2_) _ e_) (Nat.lt_irrefl _), fun h0_ => (Q_P7 h0_).below hb, fun h0_ _ ad k1 k2 => Nat.ne_of_lt (c_lt (Q_P7 h0_).2 k1 k2), Q_X0_, Q_X4_, Q_X5_, Q_X6_, Q_X7_, Q_X8_, fun _ => rfl⟩
        refine steps_cons ?_ ?_
        · rintro b a w' ⟨g0, gx, g9, v52, A55, c55, A9, c9, m0_, m4_, m5_, m6_, m7_, m8_, m10_, ha, Q_B0, Q_O0, Q_O2, Q_O5, Q_G4, Q_H9, Q_HX, Q_N3, Q_N2, Q_P7, Q_N9, Q_X0_, Q_X4_, Q_X5_, Q_X6_, Q_X7_, Q_X8_, Q_X10_⟩ hb_ hon hoff
          refine ⟨_, rfl, fun K hK => ?_⟩
          have e9 : a.tmps[9]? = some (m10_) := by rw [ha]; exact putSel_on (e := (10, 9, m10_)) 10 rfl rfl (hon 10 (by kernel_rfl)) rfl
          rw [Q_X10_ (hon 10 (by kernel_rfl))] at e9
          have e57 : a.tmps[57]? = some (m8_) := by rw [ha]; exact putSel_on (e := (8, 57, m8_)) 8 rfl rfl (hon 8 (by kernel_rfl)) rfl
          rw [Q_X8_ (hon 8 (by kernel_rfl))] at e57
          replace ha := Aside0.mk ha
          have B0 := Aside0.mk Q_B0
          have H9 := Aside0.mk (Q_H9 (hon 10 (by kernel_rfl)) hb_)
          have P7 := Aside0.mk (Q_P7 (hon 6 (by kernel_rfl)))
          have N9 := Aside0.mk (Q_N9 (hon 6 (by kernel_rfl)) (hon 10 (by kernel_rfl)))
          have d0 := blk_cell H9.out.1 0
          have d1 := blk_cell H9.out.1 1
          have d2 := blk_cell H9.out.1 2
          have d3 := blk_cell H9.out.1 3
          have d4 := blk_cell H9.out.1 4
          have d5 := blk_cell H9.out.1 5
          have d6 := blk_cell H9.out.1 6
          have d7 := blk_cell H9.out.1 7
          have f0 := blk_frozen H9.out.1 0
          have f1 := blk_frozen H9.out.1 1
          have f2 := blk_frozen H9.out.1 2
          have f3 := blk_frozen H9.out.1 3
          have f4 := blk_frozen H9.out.1 4
          have f5 := blk_frozen H9.out.1 5
          have f6 := blk_frozen H9.out.1 6
          have f7 := blk_frozen H9.out.1 7
          have hst := store8 rn A9 c9 H9.out B0.out
          refine skip_ (w1 := ?_) (by rfl) rfl ?_ ?_
          rotate_left
          · go_simp
            rfl
          refine hK.out _ _ ⟨g0, gx, g9, v52, A55, c55, A9, c9, m0_, m4_, m5_, m6_, m7_, m8_, m10_, (by rw [ha.out]; exact putSel_none (v := undef) rfl), hst.1, fun _ h1_ => absurd ((hon 2 (by kernel_rfl)).symm.trans h1_) (by decide), fun _ h1_ => absurd ((hon 5 (by kernel_rfl)).symm.trans h1_) (by decide), fun _ h1_ => absurd ((hon 6 (by kernel_rfl)).symm.trans h1_) (by decide), fun _ h1_ => absurd ((hon 5 (by kernel_rfl)).symm.trans h1_) (by decide), fun _ h1_ => absurd ((up_self b 11).symm.trans h1_) (by decide), fun _ => hst.2, fun _ _ h2_ => absurd ((hon 2 (by kernel_rfl)).symm.trans h2_) (by decide), fun _ _ h2_ => absurd ((hon 5 (by kernel_rfl)).symm.trans h2_) (by decide), fun _ => ⟨P7.out.1, c_far8 P7.out.2 N9.out _ _ _ _ _ _ _ _⟩, Q_N9, Q_X0_, Q_X4_, Q_X5_, Q_X6_, Q_X7_, Q_X8_, Q_X10_⟩
        refine steps_cons ?_ ?_
        · rintro b a w' ⟨g0, gx, g9, v52, A55, c55, A9, c9, m0_, m4_, m5_, m6_, m7_, m8_, m10_, ha, Q_B0, Q_O0, Q_O2, Q_O5, Q_G4, Q_H9, Q_HX, Q_N3, Q_N2, Q_P7, Q_N9, Q_X0_, Q_X4_, Q_X5_, Q_X6_, Q_X7_, Q_X8_, Q_X10_⟩ hb_ hon hoff
          refine ⟨_, rfl, fun K hK => ?_⟩
          have e58 : a.tmps[58]? = some (.bool isb) := by rw [ha]; exact putSel_on (e := (9, 58, .bool isb)) 9 rfl rfl (hon 9 (by kernel_rfl)) rfl
          replace ha := Aside0.mk ha
          have B0 := Aside0.mk Q_B0
          have HX := Aside0.mk (Q_HX (hon 11 (by kernel_rfl)))
          have P7 := Aside0.mk (Q_P7 (hon 6 (by kernel_rfl)))
          have N9 := Aside0.mk (Q_N9 (hon 6 (by kernel_rfl)) (hon 10 (by kernel_rfl)))
          refine value_ (w1 := w') (v := .bool isb) (by rfl) rfl ?_ ?_
          · go_simp
            (try simp only [i64_w])
            try rfl
          refine hK.out _ _ ⟨g0, gx, g9, v52, A55, c55, A9, c9, m0_, m4_, m5_, m6_, m7_, m8_, m10_, (by rw [ha.out]; exact putSel_upk 11 hb_ rfl rfl rfl), Q_B0, fun _ h1_ => absurd ((hon 2 (by kernel_rfl)).symm.trans h1_) (by decide), fun _ h1_ => absurd ((hon 5 (by kernel_rfl)).symm.trans h1_) (by decide), fun _ h1_ => absurd ((hon 6 (by kernel_rfl)).symm.trans h1_) (by decide), fun _ h1_ => absurd ((hon 5 (by kernel_rfl)).symm.trans h1_) (by decide), fun _ h1_ => absurd ((hon 11 (by kernel_rfl)).symm.trans h1_) (by decide), Q_HX, fun _ _ h2_ => absurd ((hon 2 (by kernel_rfl)).symm.trans h2_) (by decide), fun _ _ h2_ => absurd ((hon 5 (by kernel_rfl)).symm.trans h2_) (by decide), Q_P7, Q_N9, Q_X0_, Q_X4_, Q_X5_, Q_X6_, Q_X7_, Q_X8_, Q_X10_⟩
        exact steps_nil
      rintro b a wl hall ⟨g0, gx, g9, v52, A55, c55, A9, c9, m0_, m4_, m5_, m6_, m7_, m8_, m10_, ha, Q_B0, Q_O0, Q_O2, Q_O5, Q_G4, Q_H9, Q_HX, Q_N3, Q_N2, Q_P7, Q_N9, Q_X0_, Q_X4_, Q_X5_, Q_X6_, Q_X7_, Q_X8_, Q_X10_⟩
      clear B0
      have hb0_ := hall 0 (by kernel_rfl)
      have hb1_ := hall 1 (by kernel_rfl)
      have hb2_ := hall 2 (by kernel_rfl)
      have hb3_ := hall 3 (by kernel_rfl)
      have hb4_ := hall 4 (by kernel_rfl)
      have hb5_ := hall 5 (by kernel_rfl)
      have hb6_ := hall 6 (by kernel_rfl)
      have hb7_ := hall 7 (by kernel_rfl)
      have hb8_ := hall 8 (by kernel_rfl)
      have hb9_ := hall 9 (by kernel_rfl)
      have hb10_ := hall 10 (by kernel_rfl)
      have hb11_ := hall 11 (by kernel_rfl)
      have hb12_ := hall 12 (by kernel_rfl)
      subst ha
      obtain rfl := Q_X0_ hb0_
      obtain rfl := Q_X4_ hb4_
      obtain rfl := Q_X5_ hb5_
      obtain rfl := Q_X6_ hb6_
      obtain rfl := Q_X7_ hb7_
      obtain rfl := Q_X8_ hb8_
      obtain rfl := Q_X10_ hb10_
      simp only [putSel, hb0_, hb1_, hb2_, hb3_, hb4_, hb5_, hb6_, hb7_, hb8_, hb9_, hb10_, hb11_, hb12_, if_true, Act.put, List.setIfInBounds_toArray, List.set_cons_zero, List.set_cons_succ]
      have B0 := Aside0.mk Q_B0
      clear Q_B0
      clear Q_O0
      clear Q_O2
      clear Q_O5
      clear Q_G4
      clear Q_H9
      have HX := Aside0.mk (Q_HX hb11_)
      clear Q_HX
      clear Q_N3
      clear Q_N2
      have P7 := Aside0.mk (Q_P7 hb6_)
      clear Q_P7
      have N9 := Aside0.mk (Q_N9 hb6_ hb10_)
      clear Q_N9
      clear hall hb0_ hb1_ hb2_ hb3_ hb4_ hb5_ hb6_ hb7_ hb8_ hb9_ hb10_ hb11_ hb12_
      replace HW := Aside0.mk (below_then HW.out HW.out.size B0.out)
      replace Z4 := Aside0.mk (blk_below Z4.out B0.out)
      replace Z7 := Aside0.mk (blk_below Z7.out B0.out)
      replace P70 := Aside0.mk (P70.out.below B0.out)
      have PA := Aside0.mk (HPA.out.below HW.out)
      clear B0 HAP HAQ HN2 N9
      have ca_0 := blk_cell Z4.out 0
      have ca_1 := blk_cell Z4.out 1
      have ca_2 := blk_cell Z4.out 2
      have ca_3 := blk_cell Z4.out 3
      have ca_4 := blk_cell Z4.out 4
      have ca_5 := blk_cell Z4.out 5
      have ca_6 := blk_cell Z4.out 6
      have ca_7 := blk_cell Z4.out 7
      have co_0 := blk_cell Z7.out 0
      have co_1 := blk_cell Z7.out 1
      have co_2 := blk_cell Z7.out 2
      have co_3 := blk_cell Z7.out 3
      have co_4 := blk_cell Z7.out 4
      have co_5 := blk_cell Z7.out 5
      have co_6 := blk_cell Z7.out 6
      have co_7 := blk_cell Z7.out 7
      have cn_0 := blk_cell HX.out 0
      have cn_1 := blk_cell HX.out 1
      have cn_2 := blk_cell HX.out 2
      have cn_3 := blk_cell HX.out 3
      have cn_4 := blk_cell HX.out 4
      have cn_5 := blk_cell HX.out 5
      have cn_6 := blk_cell HX.out 6
      have cn_7 := blk_cell HX.out 7
      cases hpl : ra.f5 with
      | true =>
        obtain ⟨h1, h2⟩ := HON.out.1 hpl
        subst h1
        subst h2
        rw [hpl] at ca_5
        clear hpl
        cases hwas : isb with
        | true =>
          have HPN3 := Aside0.mk (HPN.out hwas)
          have tw : ((true : Bool) == true) = true := rfl
          subst hwas
          go_wp2_with (first | (go_at_call 12; (with_reducible refine (HAW.out _).mono ?_); rintro e w9 ⟨rfl, hb⟩; replace HW := Aside0.mk (below_then HW.out HW.out.size hb); replace Z4 := Aside0.mk (blk_below Z4.out hb); replace Z7 := Aside0.mk (blk_below Z7.out hb); replace HX := Aside0.mk (blk_below HX.out hb); replace P70 := Aside0.mk (P70.out.below hb); replace P7 := Aside0.mk (P7.out.below hb); replace PA := Aside0.mk (PA.out.below hb); clear ca_0 ca_1 ca_2 ca_3 ca_4 ca_5 ca_6 ca_7 co_0 co_1 co_2 co_3 co_4 co_5 co_6 co_7 cn_0 cn_1 cn_2 cn_3 cn_4 cn_5 cn_6 cn_7; have ca_0 := blk_cell Z4.out 0; have ca_1 := blk_cell Z4.out 1; have ca_2 := blk_cell Z4.out 2; have ca_3 := blk_cell Z4.out 3; have ca_4 := blk_cell Z4.out 4; have ca_5 := blk_cell Z4.out 5; have ca_6 := blk_cell Z4.out 6; have ca_7 := blk_cell Z4.out 7; have co_0 := blk_cell Z7.out 0; have co_1 := blk_cell Z7.out 1; have co_2 := blk_cell Z7.out 2; have co_3 := blk_cell Z7.out 3; have co_4 := blk_cell Z7.out 4; have co_5 := blk_cell Z7.out 5; have co_6 := blk_cell Z7.out 6; have co_7 := blk_cell Z7.out 7; have cn_0 := blk_cell HX.out 0; have cn_1 := blk_cell HX.out 1; have cn_2 := blk_cell HX.out 2; have cn_3 := blk_cell HX.out 3; have cn_4 := blk_cell HX.out 4; have cn_5 := blk_cell HX.out 5; have cn_6 := blk_cell HX.out 6; have cn_7 := blk_cell HX.out 7; clear hb) | (go_at_call 17; (with_reducible refine (one_same_calls _ HPN3.out _ _ _ _ _ P70.out P7.out).mono ?_); rintro e w9 ⟨rfl, hb⟩; replace HW := Aside0.mk (below_then HW.out HW.out.size hb); replace Z4 := Aside0.mk (blk_below Z4.out hb); replace Z7 := Aside0.mk (blk_below Z7.out hb); replace HX := Aside0.mk (blk_below HX.out hb); replace P70 := Aside0.mk (P70.out.below hb); replace P7 := Aside0.mk (P7.out.below hb); replace PA := Aside0.mk (PA.out.below hb); clear ca_0 ca_1 ca_2 ca_3 ca_4 ca_5 ca_6 ca_7 co_0 co_1 co_2 co_3 co_4 co_5 co_6 co_7 cn_0 cn_1 cn_2 cn_3 cn_4 cn_5 cn_6 cn_7; have ca_0 := blk_cell Z4.out 0; have ca_1 := blk_cell Z4.out 1; have ca_2 := blk_cell Z4.out 2; have ca_3 := blk_cell Z4.out 3; have ca_4 := blk_cell Z4.out 4; have ca_5 := blk_cell Z4.out 5; have ca_6 := blk_cell Z4.out 6; have ca_7 := blk_cell Z4.out 7; have co_0 := blk_cell Z7.out 0; have co_1 := blk_cell Z7.out 1; have co_2 := blk_cell Z7.out 2; have co_3 := blk_cell Z7.out 3; have co_4 := blk_cell Z7.out 4; have co_5 := blk_cell Z7.out 5; have co_6 := blk_cell Z7.out 6; have co_7 := blk_cell Z7.out 7; have cn_0 := blk_cell HX.out 0; have cn_1 := blk_cell HX.out 1; have cn_2 := blk_cell HX.out 2; have cn_3 := blk_cell HX.out 3; have cn_4 := blk_cell HX.out 4; have cn_5 := blk_cell HX.out 5; have cn_6 := blk_cell HX.out 6; have cn_7 := blk_cell HX.out 7; clear hb))
          go_ret
          exact ⟨rfl, HW.out⟩
        | false =>
          subst hwas
          go_wp2_with (go_at_call 12; (with_reducible refine (HAW.out _).mono ?_); rintro e w9 ⟨rfl, hb⟩; replace HW := Aside0.mk (below_then HW.out HW.out.size hb); replace Z4 := Aside0.mk (blk_below Z4.out hb); replace Z7 := Aside0.mk (blk_below Z7.out hb); replace HX := Aside0.mk (blk_below HX.out hb); replace P70 := Aside0.mk (P70.out.below hb); replace P7 := Aside0.mk (P7.out.below hb); replace PA := Aside0.mk (PA.out.below hb); clear ca_0 ca_1 ca_2 ca_3 ca_4 ca_5 ca_6 ca_7 co_0 co_1 co_2 co_3 co_4 co_5 co_6 co_7 cn_0 cn_1 cn_2 cn_3 cn_4 cn_5 cn_6 cn_7; have ca_0 := blk_cell Z4.out 0; have ca_1 := blk_cell Z4.out 1; have ca_2 := blk_cell Z4.out 2; have ca_3 := blk_cell Z4.out 3; have ca_4 := blk_cell Z4.out 4; have ca_5 := blk_cell Z4.out 5; have ca_6 := blk_cell Z4.out 6; have ca_7 := blk_cell Z4.out 7; have co_0 := blk_cell Z7.out 0; have co_1 := blk_cell Z7.out 1; have co_2 := blk_cell Z7.out 2; have co_3 := blk_cell Z7.out 3; have co_4 := blk_cell Z7.out 4; have co_5 := blk_cell Z7.out 5; have co_6 := blk_cell Z7.out 6; have co_7 := blk_cell Z7.out 7; have cn_0 := blk_cell HX.out 0; have cn_1 := blk_cell HX.out 1; have cn_2 := blk_cell HX.out 2; have cn_3 := blk_cell HX.out 3; have cn_4 := blk_cell HX.out 4; have cn_5 := blk_cell HX.out 5; have cn_6 := blk_cell HX.out 6; have cn_7 := blk_cell HX.out 7; clear hb)
          go_ret
          exact ⟨rfl, HW.out⟩
      | false =>
        obtain ⟨h1, h2, h3⟩ := HON.out.2 hpl
        subst h1
        have HLSA := Aside0.mk (fun W h1 h2 => HAL.out ra Aa ca ro A7 c7 W h1 h2)
        rw [hpl] at ca_5 HLSA
        clear hpl
        cases hwas : was with
        | false =>
          obtain rfl := h3 (.inl hwas)
          subst hwas
          clear h2 h3
          go_wp2_with (first | (go_at_call 12; (with_reducible refine (HAW.out _).mono ?_); rintro e w9 ⟨rfl, hb⟩; replace HW := Aside0.mk (below_then HW.out HW.out.size hb); replace Z4 := Aside0.mk (blk_below Z4.out hb); replace Z7 := Aside0.mk (blk_below Z7.out hb); replace HX := Aside0.mk (blk_below HX.out hb); replace P70 := Aside0.mk (P70.out.below hb); replace P7 := Aside0.mk (P7.out.below hb); replace PA := Aside0.mk (PA.out.below hb); clear ca_0 ca_1 ca_2 ca_3 ca_4 ca_5 ca_6 ca_7 co_0 co_1 co_2 co_3 co_4 co_5 co_6 co_7 cn_0 cn_1 cn_2 cn_3 cn_4 cn_5 cn_6 cn_7; have ca_0 := blk_cell Z4.out 0; have ca_1 := blk_cell Z4.out 1; have ca_2 := blk_cell Z4.out 2; have ca_3 := blk_cell Z4.out 3; have ca_4 := blk_cell Z4.out 4; have ca_5 := blk_cell Z4.out 5; have ca_6 := blk_cell Z4.out 6; have ca_7 := blk_cell Z4.out 7; have co_0 := blk_cell Z7.out 0; have co_1 := blk_cell Z7.out 1; have co_2 := blk_cell Z7.out 2; have co_3 := blk_cell Z7.out 3; have co_4 := blk_cell Z7.out 4; have co_5 := blk_cell Z7.out 5; have co_6 := blk_cell Z7.out 6; have co_7 := blk_cell Z7.out 7; have cn_0 := blk_cell HX.out 0; have cn_1 := blk_cell HX.out 1; have cn_2 := blk_cell HX.out 2; have cn_3 := blk_cell HX.out 3; have cn_4 := blk_cell HX.out 4; have cn_5 := blk_cell HX.out 5; have cn_6 := blk_cell HX.out 6; have cn_7 := blk_cell HX.out 7; clear hb) | (go_at_call 17; (with_reducible refine (one_same_calls _ HPN2.out _ _ _ _ _ P7.out PA.out).mono ?_); rintro e w9 ⟨rfl, hb⟩; replace HW := Aside0.mk (below_then HW.out HW.out.size hb); replace Z4 := Aside0.mk (blk_below Z4.out hb); replace Z7 := Aside0.mk (blk_below Z7.out hb); replace HX := Aside0.mk (blk_below HX.out hb); replace P70 := Aside0.mk (P70.out.below hb); replace P7 := Aside0.mk (P7.out.below hb); replace PA := Aside0.mk (PA.out.below hb); clear ca_0 ca_1 ca_2 ca_3 ca_4 ca_5 ca_6 ca_7 co_0 co_1 co_2 co_3 co_4 co_5 co_6 co_7 cn_0 cn_1 cn_2 cn_3 cn_4 cn_5 cn_6 cn_7; have ca_0 := blk_cell Z4.out 0; have ca_1 := blk_cell Z4.out 1; have ca_2 := blk_cell Z4.out 2; have ca_3 := blk_cell Z4.out 3; have ca_4 := blk_cell Z4.out 4; have ca_5 := blk_cell Z4.out 5; have ca_6 := blk_cell Z4.out 6; have ca_7 := blk_cell Z4.out 7; have co_0 := blk_cell Z7.out 0; have co_1 := blk_cell Z7.out 1; have co_2 := blk_cell Z7.out 2; have co_3 := blk_cell Z7.out 3; have co_4 := blk_cell Z7.out 4; have co_5 := blk_cell Z7.out 5; have co_6 := blk_cell Z7.out 6; have co_7 := blk_cell Z7.out 7; have cn_0 := blk_cell HX.out 0; have cn_1 := blk_cell HX.out 1; have cn_2 := blk_cell HX.out 2; have cn_3 := blk_cell HX.out 3; have cn_4 := blk_cell HX.out 4; have cn_5 := blk_cell HX.out 5; have cn_6 := blk_cell HX.out 6; have cn_7 := blk_cell HX.out 7; clear hb))
          go_ret
          exact ⟨rfl, HW.out⟩
        | true =>
          cases hlt : ltS ra ro with
          | true =>
            obtain rfl := h3 (.inr hlt)
            rw [hlt] at HLSA
            subst hwas
            clear h2 h3 hlt
            go_wp2_with (first | (go_at_call 12; (with_reducible refine (HAW.out _).mono ?_); rintro e w9 ⟨rfl, hb⟩; replace HW := Aside0.mk (below_then HW.out HW.out.size hb); replace Z4 := Aside0.mk (blk_below Z4.out hb); replace Z7 := Aside0.mk (blk_below Z7.out hb); replace HX := Aside0.mk (blk_below HX.out hb); replace P70 := Aside0.mk (P70.out.below hb); replace P7 := Aside0.mk (P7.out.below hb); replace PA := Aside0.mk (PA.out.below hb); clear ca_0 ca_1 ca_2 ca_3 ca_4 ca_5 ca_6 ca_7 co_0 co_1 co_2 co_3 co_4 co_5 co_6 co_7 cn_0 cn_1 cn_2 cn_3 cn_4 cn_5 cn_6 cn_7; have ca_0 := blk_cell Z4.out 0; have ca_1 := blk_cell Z4.out 1; have ca_2 := blk_cell Z4.out 2; have ca_3 := blk_cell Z4.out 3; have ca_4 := blk_cell Z4.out 4; have ca_5 := blk_cell Z4.out 5; have ca_6 := blk_cell Z4.out 6; have ca_7 := blk_cell Z4.out 7; have co_0 := blk_cell Z7.out 0; have co_1 := blk_cell Z7.out 1; have co_2 := blk_cell Z7.out 2; have co_3 := blk_cell Z7.out 3; have co_4 := blk_cell Z7.out 4; have co_5 := blk_cell Z7.out 5; have co_6 := blk_cell Z7.out 6; have co_7 := blk_cell Z7.out 7; have cn_0 := blk_cell HX.out 0; have cn_1 := blk_cell HX.out 1; have cn_2 := blk_cell HX.out 2; have cn_3 := blk_cell HX.out 3; have cn_4 := blk_cell HX.out 4; have cn_5 := blk_cell HX.out 5; have cn_6 := blk_cell HX.out 6; have cn_7 := blk_cell HX.out 7; clear hb) | (go_at_call 21; (with_reducible refine (HLSA.out _ PA.out P70.out).mono ?_); rintro e w9 ⟨rfl, hb⟩; replace HW := Aside0.mk (below_then HW.out HW.out.size hb); replace Z4 := Aside0.mk (blk_below Z4.out hb); replace Z7 := Aside0.mk (blk_below Z7.out hb); replace HX := Aside0.mk (blk_below HX.out hb); replace P70 := Aside0.mk (P70.out.below hb); replace P7 := Aside0.mk (P7.out.below hb); replace PA := Aside0.mk (PA.out.below hb); clear ca_0 ca_1 ca_2 ca_3 ca_4 ca_5 ca_6 ca_7 co_0 co_1 co_2 co_3 co_4 co_5 co_6 co_7 cn_0 cn_1 cn_2 cn_3 cn_4 cn_5 cn_6 cn_7; have ca_0 := blk_cell Z4.out 0; have ca_1 := blk_cell Z4.out 1; have ca_2 := blk_cell Z4.out 2; have ca_3 := blk_cell Z4.out 3; have ca_4 := blk_cell Z4.out 4; have ca_5 := blk_cell Z4.out 5; have ca_6 := blk_cell Z4.out 6; have ca_7 := blk_cell Z4.out 7; have co_0 := blk_cell Z7.out 0; have co_1 := blk_cell Z7.out 1; have co_2 := blk_cell Z7.out 2; have co_3 := blk_cell Z7.out 3; have co_4 := blk_cell Z7.out 4; have co_5 := blk_cell Z7.out 5; have co_6 := blk_cell Z7.out 6; have co_7 := blk_cell Z7.out 7; have cn_0 := blk_cell HX.out 0; have cn_1 := blk_cell HX.out 1; have cn_2 := blk_cell HX.out 2; have cn_3 := blk_cell HX.out 3; have cn_4 := blk_cell HX.out 4; have cn_5 := blk_cell HX.out 5; have cn_6 := blk_cell HX.out 6; have cn_7 := blk_cell HX.out 7; clear hb) | (go_at_call 17; (with_reducible refine (one_same_calls _ HPN2.out _ _ _ _ _ P7.out PA.out).mono ?_); rintro e w9 ⟨rfl, hb⟩; replace HW := Aside0.mk (below_then HW.out HW.out.size hb); replace Z4 := Aside0.mk (blk_below Z4.out hb); replace Z7 := Aside0.mk (blk_below Z7.out hb); replace HX := Aside0.mk (blk_below HX.out hb); replace P70 := Aside0.mk (P70.out.below hb); replace P7 := Aside0.mk (P7.out.below hb); replace PA := Aside0.mk (PA.out.below hb); clear ca_0 ca_1 ca_2 ca_3 ca_4 ca_5 ca_6 ca_7 co_0 co_1 co_2 co_3 co_4 co_5 co_6 co_7 cn_0 cn_1 cn_2 cn_3 cn_4 cn_5 cn_6 cn_7; have ca_0 := blk_cell Z4.out 0; have ca_1 := blk_cell Z4.out 1; have ca_2 := blk_cell Z4.out 2; have ca_3 := blk_cell Z4.out 3; have ca_4 := blk_cell Z4.out 4; have ca_5 := blk_cell Z4.out 5; have ca_6 := blk_cell Z4.out 6; have ca_7 := blk_cell Z4.out 7; have co_0 := blk_cell Z7.out 0; have co_1 := blk_cell Z7.out 1; have co_2 := blk_cell Z7.out 2; have co_3 := blk_cell Z7.out 3; have co_4 := blk_cell Z7.out 4; have co_5 := blk_cell Z7.out 5; have co_6 := blk_cell Z7.out 6; have co_7 := blk_cell Z7.out 7; have cn_0 := blk_cell HX.out 0; have cn_1 := blk_cell HX.out 1; have cn_2 := blk_cell HX.out 2; have cn_3 := blk_cell HX.out 3; have cn_4 := blk_cell HX.out 4; have cn_5 := blk_cell HX.out 5; have cn_6 := blk_cell HX.out 6; have cn_7 := blk_cell HX.out 7; clear hb))
            go_ret
            exact ⟨rfl, HW.out⟩
          | false =>
            obtain rfl := h2 hwas hlt
            rw [hlt] at HLSA
            subst hwas
            clear h2 h3 hlt
            go_wp2_with (first | (go_at_call 12; (with_reducible refine (HAW.out _).mono ?_); rintro e w9 ⟨rfl, hb⟩; replace HW := Aside0.mk (below_then HW.out HW.out.size hb); replace Z4 := Aside0.mk (blk_below Z4.out hb); replace Z7 := Aside0.mk (blk_below Z7.out hb); replace HX := Aside0.mk (blk_below HX.out hb); replace P70 := Aside0.mk (P70.out.below hb); replace P7 := Aside0.mk (P7.out.below hb); replace PA := Aside0.mk (PA.out.below hb); clear ca_0 ca_1 ca_2 ca_3 ca_4 ca_5 ca_6 ca_7 co_0 co_1 co_2 co_3 co_4 co_5 co_6 co_7 cn_0 cn_1 cn_2 cn_3 cn_4 cn_5 cn_6 cn_7; have ca_0 := blk_cell Z4.out 0; have ca_1 := blk_cell Z4.out 1; have ca_2 := blk_cell Z4.out 2; have ca_3 := blk_cell Z4.out 3; have ca_4 := blk_cell Z4.out 4; have ca_5 := blk_cell Z4.out 5; have ca_6 := blk_cell Z4.out 6; have ca_7 := blk_cell Z4.out 7; have co_0 := blk_cell Z7.out 0; have co_1 := blk_cell Z7.out 1; have co_2 := blk_cell Z7.out 2; have co_3 := blk_cell Z7.out 3; have co_4 := blk_cell Z7.out 4; have co_5 := blk_cell Z7.out 5; have co_6 := blk_cell Z7.out 6; have co_7 := blk_cell Z7.out 7; have cn_0 := blk_cell HX.out 0; have cn_1 := blk_cell HX.out 1; have cn_2 := blk_cell HX.out 2; have cn_3 := blk_cell HX.out 3; have cn_4 := blk_cell HX.out 4; have cn_5 := blk_cell HX.out 5; have cn_6 := blk_cell HX.out 6; have cn_7 := blk_cell HX.out 7; clear hb) | (go_at_call 21; (with_reducible refine (HLSA.out _ PA.out P70.out).mono ?_); rintro e w9 ⟨rfl, hb⟩; replace HW := Aside0.mk (below_then HW.out HW.out.size hb); replace Z4 := Aside0.mk (blk_below Z4.out hb); replace Z7 := Aside0.mk (blk_below Z7.out hb); replace HX := Aside0.mk (blk_below HX.out hb); replace P70 := Aside0.mk (P70.out.below hb); replace P7 := Aside0.mk (P7.out.below hb); replace PA := Aside0.mk (PA.out.below hb); clear ca_0 ca_1 ca_2 ca_3 ca_4 ca_5 ca_6 ca_7 co_0 co_1 co_2 co_3 co_4 co_5 co_6 co_7 cn_0 cn_1 cn_2 cn_3 cn_4 cn_5 cn_6 cn_7; have ca_0 := blk_cell Z4.out 0; have ca_1 := blk_cell Z4.out 1; have ca_2 := blk_cell Z4.out 2; have ca_3 := blk_cell Z4.out 3; have ca_4 := blk_cell Z4.out 4; have ca_5 := blk_cell Z4.out 5; have ca_6 := blk_cell Z4.out 6; have ca_7 := blk_cell Z4.out 7; have co_0 := blk_cell Z7.out 0; have co_1 := blk_cell Z7.out 1; have co_2 := blk_cell Z7.out 2; have co_3 := blk_cell Z7.out 3; have co_4 := blk_cell Z7.out 4; have co_5 := blk_cell Z7.out 5; have co_6 := blk_cell Z7.out 6; have co_7 := blk_cell Z7.out 7; have cn_0 := blk_cell HX.out 0; have cn_1 := blk_cell HX.out 1; have cn_2 := blk_cell HX.out 2; have cn_3 := blk_cell HX.out 3; have cn_4 := blk_cell HX.out 4; have cn_5 := blk_cell HX.out 5; have cn_6 := blk_cell HX.out 6; have cn_7 := blk_cell HX.out 7; clear hb) | (go_at_call 17; (with_reducible refine (one_same_calls _ HPN2.out _ _ _ _ _ P7.out P70.out).mono ?_); rintro e w9 ⟨rfl, hb⟩; replace HW := Aside0.mk (below_then HW.out HW.out.size hb); replace Z4 := Aside0.mk (blk_below Z4.out hb); replace Z7 := Aside0.mk (blk_below Z7.out hb); replace HX := Aside0.mk (blk_below HX.out hb); replace P70 := Aside0.mk (P70.out.below hb); replace P7 := Aside0.mk (P7.out.below hb); replace PA := Aside0.mk (PA.out.below hb); clear ca_0 ca_1 ca_2 ca_3 ca_4 ca_5 ca_6 ca_7 co_0 co_1 co_2 co_3 co_4 co_5 co_6 co_7 cn_0 cn_1 cn_2 cn_3 cn_4 cn_5 cn_6 cn_7; have ca_0 := blk_cell Z4.out 0; have ca_1 := blk_cell Z4.out 1; have ca_2 := blk_cell Z4.out 2; have ca_3 := blk_cell Z4.out 3; have ca_4 := blk_cell Z4.out 4; have ca_5 := blk_cell Z4.out 5; have ca_6 := blk_cell Z4.out 6; have ca_7 := blk_cell Z4.out 7; have co_0 := blk_cell Z7.out 0; have co_1 := blk_cell Z7.out 1; have co_2 := blk_cell Z7.out 2; have co_3 := blk_cell Z7.out 3; have co_4 := blk_cell Z7.out 4; have co_5 := blk_cell Z7.out 5; have co_6 := blk_cell Z7.out 6; have co_7 := blk_cell Z7.out 7; have cn_0 := blk_cell HX.out 0; have cn_1 := blk_cell HX.out 1; have cn_2 := blk_cell HX.out 2; have cn_3 := blk_cell HX.out 3; have cn_4 := blk_cell HX.out 4; have cn_5 := blk_cell HX.out 5; have cn_6 := blk_cell HX.out 6; have cn_7 := blk_cell HX.out 7; clear hb))
            go_ret
            exact ⟨rfl, HW.out⟩
end Go.Proofs.Ytnopjcakilfepaa.QS
