-- Laid by this workplace's own program hprint.py (functions marked by hand are ours; the others are printed out of the translation). Not trusted: Lean checks it.
import Derived.Test.YtmlkkdopogcggaaHp0
import Derived.Test.YtmlkkdopogcggaaHp25
import Derived.Test.YtmlkkdopogcggaaHp37
import Derived.Test.YtmlkkdopogcggaaHp43
import Derived.Test.YtmlkkdopogcggaaHp44
import Derived.Test.YtmlkkdopogcggaaPC
import Derived.Test.YtmlkkdopogcggaaPGW
namespace Go.Proofs.Ytmlkkdopogcggaa.Hp
open Go.RowKit Go.Proofs.YtmlkkdopogcggaaW.PrintWords Go.Proofs.YtmlkkdopogcggaaW.PrintLast Go.Proofs.YtmlkkdopogcggaaW.PrintMore
attribute [local go_sem] max2_int min2_int max_two min_two max_three min_three max_four min_four   -- for this text's walks alone
set_option linter.unusedVariables false
set_option linter.unusedSimpArgs false

/-! ### wagtaillaw15_PageTorn: function 11 -/
-- a function whose text and proof are by hand
-- IMPORT PC
-- IMPORT PGW
def wagtaillaw15_PageTorn.f (k i c b o l n : Int) (d : ByteArray) (m : List (List Int)) : Option Bool := if 0 ≤ b ∧ 0 ≤ o ∧ ∀ x ∈ m, isBytes x then some true else none
theorem wagtaillaw15_PageTorn.mask_at {w : World} {A : Option Addr} {l : List (List Int)} (h : Kd.C (Kd.slice 5 (Kd.int .u8)) w A l.length l) (j : Nat) (hj : j < l.length) :
    ∃ ad Am cm, A = some ad ∧ w.cell? (ad.add j) = some (.slice Am (l[j]).length cm) ∧ (l[j]).length ≤ cm ∧ Kd.C (Kd.int .u8) w Am (l[j]).length l[j] := by
  obtain ⟨ad, e, hc⟩ := h.2.2 (by omega)
  obtain ⟨cs, hl, ⟨Am, cm, rfl, hle, hC⟩, hcell⟩ := hc j _ (List.getElem?_eq_getElem hj)
  refine ⟨ad, Am, cm, e, ?_, hle, hC⟩
  have := hcell 0 _ rfl
  rwa [show j * (Kd.slice 5 (Kd.int .u8)).sz + 0 = j from by show j * 1 + 0 = j; omega] at this
theorem wagtaillaw15_PageTorn.part_calls (x s m : List Int) (hx : isBytes x) (hs : isBytes s) (hm : isBytes m) (lx : x.length = 256) (ls : s.length = 256) (A As Am : Option Addr) (c cs cm : Nat) (hc : 256 ≤ c) (hcs : 256 ≤ cs) (hcm : m.length ≤ cm) (y : List Int) (hy : y = progRow x s m) (W : World)
    (hC : Kd.C (Kd.int .u8) W A 256 x) (hCs : Kd.C (Kd.int .u8) W As 256 s) (hCm : Kd.C (Kd.int .u8) W Am m.length m) :
    Calls Try.prog 45 #[.slice A 256 c, .slice As 256 cs, .slice Am m.length cm] W fun e w' => ∃ A' c', e = .returned (.slice A' 256 c') ∧ 256 ≤ c' ∧ Kd.C (Kd.int .u8) w' A' 256 y ∧ Below W.heap.size W w' := by
  obtain ⟨K, hK⟩ := PG.part_ev x s m hx hs hm (by omega) (by omega)
  have h := wagtailref14_Part.calls K A c x As cs s Am cm m y W (by rw [lx]; exact hC) (by omega) (by rw [ls]; exact hCs) (by omega) hCm hcm (by rw [hy]; exact hK K (Nat.le_refl _))
  rw [lx, ls] at h
  refine h.mono ?_
  rintro e w' ⟨v, rfl, hr, hb⟩
  obtain ⟨A', c', rfl, hl, hC'⟩ := Kd.R_reads hr
  have hyl : y.length = 256 := by rw [hy, PG.progRow_len, lx]
  rw [hyl] at hl hC' ⊢
  exact ⟨A', c', rfl, hl, hC', hb⟩
theorem wagtaillaw15_PageTorn.wipe_calls (x m : List Int) (hx : isBytes x) (hm : isBytes m) (lx : x.length = 256) (A Am : Option Addr) (c cm : Nat) (hc : 256 ≤ c) (hcm : m.length ≤ cm) (y : List Int) (hy : y = wipeRow x m) (W : World)
    (hC : Kd.C (Kd.int .u8) W A 256 x) (hCm : Kd.C (Kd.int .u8) W Am m.length m) :
    Calls Try.prog 46 #[.slice A 256 c, .slice Am m.length cm] W fun e w' => ∃ A' c', e = .returned (.slice A' 256 c') ∧ 256 ≤ c' ∧ Kd.C (Kd.int .u8) w' A' 256 y ∧ Below W.heap.size W w' := by
  obtain ⟨K, hK⟩ := PG.rwipe_ev x m hx hm (by omega)
  have h := wagtailref14_Wipe.calls K A c x Am cm m y W (by rw [lx]; exact hC) (by omega) hCm hcm (by rw [hy]; exact hK K (Nat.le_refl _))
  rw [lx] at h
  refine h.mono ?_
  rintro e w' ⟨v, rfl, hr, hb⟩
  obtain ⟨A', c', rfl, hl, hC'⟩ := Kd.R_reads hr
  have hyl : y.length = 256 := by rw [hy, PG.wipeRow_len, lx]
  rw [hyl] at hl hC' ⊢
  exact ⟨A', c', rfl, hl, hC', hb⟩
theorem wagtaillaw15_PageTorn.covers_calls (x s : List Int) (hx : isBytes x) (hs : isBytes s) (lx : x.length = 256) (ls : s.length = 256) (hc : PG.coverL x s) (A As : Option Addr) (c cs : Nat) (hcc : 256 ≤ c) (hcs : 256 ≤ cs) (W : World)
    (hC : Kd.C (Kd.int .u8) W A 256 x) (hCs : Kd.C (Kd.int .u8) W As 256 s) :
    Calls Try.prog 35 #[.slice A 256 c, .slice As 256 cs] W fun e w' => e = .returned (.bool true) ∧ Below W.heap.size W w' := by
  obtain ⟨K, hK⟩ := PG.rcovers_ev x s hx hs (by omega)
  have h := wagtailref02_Covers.calls K A c x As cs s true W (by rw [lx]; exact hC) (by omega) (by rw [ls]; exact hCs) (by omega) (by rw [← decide_eq_true hc]; exact hK K (Nat.le_refl _))
  rw [lx, ls] at h
  refine h.mono ?_
  rintro e w' ⟨rfl, ⟨n, rfl⟩⟩
  exact ⟨rfl, pw_below_drewN (Below.refl _ _) n⟩
theorem wagtaillaw15_PageTorn.class_calls (x : List Int) (hx : isBytes x) (lx : x.length = 256) (r : Int) (hr : PG.cls x = r) (A : Option Addr) (c : Nat) (hcc : 256 ≤ c) (W : World) (hC : Kd.C (Kd.int .u8) W A 256 x) :
    Calls Try.prog 42 #[.slice A 256 c] W fun e w' => e = .returned (.int .i64 r) ∧ Below W.heap.size W w' := by
  have h := PG.class_calls x hx (by omega) A c (by omega) r hr W (by rw [lx]; exact hC)
  rw [lx] at h
  exact h
set_option maxHeartbeats 8000000 in
set_option maxRecDepth 100000 in
theorem wagtaillaw15_PageTorn.calls (a0_0 : Int) (a0_1 : Int) (a0_2 : Int) (a0_3 : Int) (a0_4 : Int) (a0_5 : Int) (a0_6 : Int) (a1 : ByteArray) (A2 : Option Addr) (c2 : Nat) (l2 : List (List Int)) (r : Bool) (w : World) (hr2 : Kd.C (Kd.slice 5 (Kd.int .u8)) w A2 l2.length l2) (hc2 : l2.length ≤ c2) (h : wagtaillaw15_PageTorn.f a0_0 a0_1 a0_2 a0_3 a0_4 a0_5 a0_6 a1 l2 = some r) :
    Calls Try.prog 11 #[.agg #[.int .i64 a0_0, .int .i64 a0_1, .int .i64 a0_2, .int .u64 a0_3, .int .u64 a0_4, .int .i64 a0_5, .int .i64 a0_6], .string a1, .slice A2 l2.length c2] w fun e w' => e = .returned (.bool r) ∧ Below w.heap.size w w' := by
  unfold wagtaillaw15_PageTorn.f at h
  by_cases hc : 0 ≤ a0_3 ∧ 0 ≤ a0_4 ∧ ∀ x ∈ l2, isBytes x
  case neg => rw [if_neg hc] at h; cases h
  rw [if_pos hc] at h
  obtain rfl := Option.some.inj h
  obtain ⟨hb0, ho0, hmk⟩ := hc
  clear h
  have HR2 := Aside0.mk hr2
  have HMK := Aside0.mk hmk
  clear hr2 hc2 hmk
  go_enter Try.func11, Try.ntmps11
  go_upto_region 1 with fail
  have BB := Aside0.mk (below_alloc (Below.refl w.heap.size w) (Obj.cells #[Value.int IntKind.i64 a0_0, Value.int IntKind.i64 a0_1, Value.int IntKind.i64 a0_2, Value.int IntKind.u64 a0_3, Value.int IntKind.u64 a0_4, Value.int IntKind.i64 a0_5, Value.int IntKind.i64 a0_6] 50))
  have hz := Aside0.mk (heap_alloc_new w (Obj.cells #[Value.int IntKind.i64 a0_0, Value.int IntKind.i64 a0_1, Value.int IntKind.i64 a0_2, Value.int IntKind.u64 a0_3, Value.int IntKind.u64 a0_4, Value.int IntKind.i64 a0_5, Value.int IntKind.i64 a0_6] 50))
  generalize (w.alloc (Obj.cells #[Value.int IntKind.i64 a0_0, Value.int IntKind.i64 a0_1, Value.int IntKind.i64 a0_2, Value.int IntKind.u64 a0_3, Value.int IntKind.u64 a0_4, Value.int IntKind.i64 a0_5, Value.int IntKind.i64 a0_6] 50)) = W1 at BB hz ⊢
  have c0 := blk_cell hz.out 0
  have c1 := blk_cell hz.out 1
  have c2 := blk_cell hz.out 2
  have c3 := blk_cell hz.out 3
  have c4 := blk_cell hz.out 4
  have c5 := blk_cell hz.out 5
  have c6 := blk_cell hz.out 6
  by_cases hok : (headMay a0_0 a0_1 a0_2 a0_3 a0_4 a0_5 a0_6 = true ∧ (a1.size : Int) = a0_6) ∧ l2.length ≤ 6
  case neg =>
    by_cases hm : headMay a0_0 a0_1 a0_2 a0_3 a0_4 a0_5 a0_6 = true
    case neg =>
      have hmf : headMay a0_0 a0_1 a0_2 a0_3 a0_4 a0_5 a0_6 = false := by simpa using hm
      have HM := Aside0.mk (PG.may_calls a0_0 a0_1 a0_2 a0_3 a0_4 a0_5 a0_6 false hmf)
      clear hm hmf hb0 ho0 hok
      go_wp2_with (first
        | ((go_at_call 38); (with_reducible refine (HM.out _).mono ?_); rintro e w2 ⟨rfl, hb⟩; clear c0 c1 c2 c3 c4 c5 c6; replace hz := Aside0.mk (blk_below hz.out hb); replace BB := Aside0.mk (below_then BB.out BB.out.size hb); have c0 := blk_cell hz.out 0; have c1 := blk_cell hz.out 1; have c2 := blk_cell hz.out 2; have c3 := blk_cell hz.out 3; have c4 := blk_cell hz.out 4; have c5 := blk_cell hz.out 5; have c6 := blk_cell hz.out 6; clear hb)
        | ((go_at_call 36); (with_reducible refine (PG.awake_calls _).mono ?_); rintro e w9 ⟨rfl, hb⟩; replace BB := Aside0.mk (below_then BB.out BB.out.size hb); clear hb))
      go_ret
      exact ⟨rfl, BB.out⟩
    case pos =>
      have HM := Aside0.mk (PG.may_calls a0_0 a0_1 a0_2 a0_3 a0_4 a0_5 a0_6 true hm)
      by_cases hd : (a1.size : Int) = a0_6
      case neg =>
        have d1 : ((a1.size : Int) != a0_6) = true := by simpa using hd
        have d2 : ((a1.size : Int) == a0_6) = false := by simpa using hd
        clear hm hd hb0 ho0 hok
        go_wp2_with (first
          | ((go_at_call 38); (with_reducible refine (HM.out _).mono ?_); rintro e w2 ⟨rfl, hb⟩; clear c0 c1 c2 c3 c4 c5 c6; replace hz := Aside0.mk (blk_below hz.out hb); replace BB := Aside0.mk (below_then BB.out BB.out.size hb); have c0 := blk_cell hz.out 0; have c1 := blk_cell hz.out 1; have c2 := blk_cell hz.out 2; have c3 := blk_cell hz.out 3; have c4 := blk_cell hz.out 4; have c5 := blk_cell hz.out 5; have c6 := blk_cell hz.out 6; clear hb)
          | ((go_at_call 36); (with_reducible refine (PG.awake_calls _).mono ?_); rintro e w9 ⟨rfl, hb⟩; replace BB := Aside0.mk (below_then BB.out BB.out.size hb); clear hb))
        go_ret
        exact ⟨rfl, BB.out⟩
      case pos =>
        have hl6 : 6 < l2.length := by
          rcases Nat.lt_or_ge 6 l2.length with h | h
          · exact h
          · exact absurd ⟨⟨hm, hd⟩, h⟩ hok
        have d1 : ((a1.size : Int) != a0_6) = false := by simpa using hd
        have d2 : ((a1.size : Int) == a0_6) = true := by simpa using hd
        have d3 : decide (6 < (l2.length : Int)) = true := decide_eq_true (by omega)
        have d4 : decide (6 < l2.length) = true := decide_eq_true hl6
        clear hm hd hb0 ho0 hok hl6
        go_wp2_with (first
          | ((go_at_call 38); (with_reducible refine (HM.out _).mono ?_); rintro e w2 ⟨rfl, hb⟩; clear c0 c1 c2 c3 c4 c5 c6; replace hz := Aside0.mk (blk_below hz.out hb); replace BB := Aside0.mk (below_then BB.out BB.out.size hb); have c0 := blk_cell hz.out 0; have c1 := blk_cell hz.out 1; have c2 := blk_cell hz.out 2; have c3 := blk_cell hz.out 3; have c4 := blk_cell hz.out 4; have c5 := blk_cell hz.out 5; have c6 := blk_cell hz.out 6; clear hb)
          | ((go_at_call 36); (with_reducible refine (PG.awake_calls _).mono ?_); rintro e w9 ⟨rfl, hb⟩; replace BB := Aside0.mk (below_then BB.out BB.out.size hb); clear hb))
        go_ret
        exact ⟨rfl, BB.out⟩
  case pos =>
    obtain ⟨⟨hm, hd⟩, hl6⟩ := hok
    have hrg := wagtailref15_Put.headMay_range hm
    have hdl : (bytesOf a1).length ≤ 228 := by rw [bytesOf_length]; omega
    have hdb := wagtailref15_Put.bytes_isBytes a1
    have HTORN := Aside0.mk (fun (x : List Int) => PG.torn a0_0 a0_1 a0_2 a0_3 a0_4 a0_5 a0_6 (bytesOf a1) x hdb hdl)
    have hby := PG.page_bytes a0_0 a0_1 a0_2 a0_3 a0_4 a0_5 a0_6 (bytesOf a1) hdb
    have hlen := PG.page_len a0_0 a0_1 a0_2 a0_3 a0_4 a0_5 a0_6 (bytesOf a1) hdl
    have hcl := PG.page_cls a0_0 a0_1 a0_2 a0_3 a0_4 a0_5 a0_6 (bytesOf a1) hm hb0 ho0 (by rw [bytesOf_length]; exact hd)
    obtain ⟨xp, hxp⟩ : ∃ x, x = strOfNums (PG.pageL a0_0 a0_1 a0_2 a0_3 a0_4 a0_5 a0_6 (bytesOf a1)) := ⟨_, rfl⟩
    have HPUT := Aside0.mk (PG.rput_calls a0_0 a0_1 a0_2 a0_3 a0_4 a0_5 a0_6 a1 hm hb0 ho0 hd xp hxp)
    generalize PG.pageL a0_0 a0_1 a0_2 a0_3 a0_4 a0_5 a0_6 (bytesOf a1) = S at HTORN hby hlen hcl hxp
    have HM := Aside0.mk (PG.may_calls a0_0 a0_1 a0_2 a0_3 a0_4 a0_5 a0_6 true hm)
    have d1 : ((a1.size : Int) != a0_6) = false := by simpa using hd
    have d2 : ((a1.size : Int) == a0_6) = true := by simpa using hd
    have d3 : decide (6 < (l2.length : Int)) = false := decide_eq_false (by omega)
    have d4 : decide (6 < l2.length) = false := decide_eq_false (by omega)
    have HS := Aside0.mk (show isBytes S ∧ S.length = 256 ∧ PG.cls S = 1 ∧ xp = strOfNums S from ⟨hby, hlen, hcl, hxp⟩)
    have hxs : xp.size = 256 := by rw [hxp, wagtailref15_Put.str_size, hlen]
    have hxb : bytesOf xp = S := by rw [hxp, wagtailref15_Put.bytesOf_str S hby]
    have HXS := Aside0.mk hxs
    have HXB := Aside0.mk hxb
    have HL6 := Aside0.mk hl6
    clear hm hd hb0 ho0 hl6 hrg hdl hdb hby hlen hcl hxp hxs hxb
    go_upto_region 3 with ((go_at_call 38); (with_reducible refine (HM.out _).mono ?_); rintro e w2 ⟨rfl, hb⟩; clear c0 c1 c2 c3 c4 c5 c6; replace hz := Aside0.mk (blk_below hz.out hb); replace BB := Aside0.mk (below_then BB.out BB.out.size hb); have c0 := blk_cell hz.out 0; have c1 := blk_cell hz.out 1; have c2 := blk_cell hz.out 2; have c3 := blk_cell hz.out 3; have c4 := blk_cell hz.out 4; have c5 := blk_cell hz.out 5; have c6 := blk_cell hz.out 6; clear hb)
    clear d1 d2 d3 d4 HM
    have kb := fun W => print_bytes (P := Try.prog) 9 35 5 Try.underlying9 Try.underlying35 Try.underlying5 xp W
    go_upto_region 4 with ((go_at_call 41); (with_reducible refine (HPUT.out _).mono ?_); rintro e w3 ⟨rfl, hb⟩; clear c0 c1 c2 c3 c4 c5 c6; replace BB := Aside0.mk (below_then BB.out BB.out.size hb); clear hb)
    clear kb HPUT hz
    have HC := Aside0.mk (Kd.C_of_reads (enc := Value.int .u8) (h1 := fun _ => rfl) (bytes_reads w3 5 xp (by have := HXS.out; omega)))
    replace BB := Aside0.mk (bytes_below BB.out BB.out.size 5 xp)
    have hcp := grownCap_ge w3 xp.size 0 5
    generalize grownCap w3 xp.size 0 5 = cs at hcp ⊢
    generalize w3.heap.size = nb at HC ⊢
    generalize Lib.bytesWorld w3 5 xp = Ws at HC BB ⊢
    rw [HXS.out] at hcp ⊢
    have HCS := Aside0.mk (show Kd.C (Kd.int .u8) Ws (some ⟨nb, 0, none⟩) 256 S by have h := HC.out; rw [HXS.out, HXB.out] at h; exact h)
    have HCP := Aside0.mk hcp
    clear HC hcp
    go_upto_region 5 with ((go_at_call 28); (with_reducible refine (PG.ones_calls 256 (by omega) 256 rfl _).mono ?_); rintro e w4 ⟨Ao, co, rfl, hco, hCo, hb⟩; have HCO := Aside0.mk (And.intro hco hCo); have BS := Aside0.mk hb; replace BB := Aside0.mk (below_then BB.out BB.out.size hb); clear hco hCo hb)
    go_wp2_with fail
    go_loopg [8, 9] (l2.length + 1) (fun kq v8 v9 w' => ∃ (i : Nat) (A : Option Addr) (c : Nat) (x : List Int), v8 = .slice A 256 c ∧ v9 = .int .i64 i ∧ Aside0 (256 ≤ c ∧ Kd.C (Kd.int .u8) w' A 256 x ∧ isBytes x ∧ x.length = 256 ∧ (i = 0 → x = List.replicate 256 255) ∧ (0 < i → PG.coverL x S)) ∧ Aside0 (i ≤ l2.length) ∧ Aside0 (kq + i = l2.length + 1) ∧ Aside0 (Below w.heap.size w w') ∧ Aside0 (Below Ws.heap.size Ws w'))
    case atStart =>
      refine ⟨0, Ao, co, List.replicate 256 255, rfl, rfl, ⟨HCO.out.1, ?_, fun x hx => by rw [List.eq_of_mem_replicate hx]; omega, by rw [List.length_replicate], fun _ => rfl, fun h => absurd h (by omega)⟩, ⟨by omega⟩, ⟨by omega⟩, BB, BS⟩
      exact HCO.out.2
    case round =>
      clear BB BS HCO
      obtain ⟨i, A, c, x, rfl, rfl, HX, HI, HQ, BB, BS⟩ := hrel
      by_cases hi : i < l2.length
      case neg =>
        have hie : i = l2.length := by have := HI.out; omega
        have t1 : decide ((i : Int) < (l2.length : Int)) = false := decide_eq_false (by omega)
        have t2 : decide (i < l2.length) = false := decide_eq_false (by omega)
        subst hie
        clear hi
        go_wp2_with (((go_at_call 36); (with_reducible refine (PG.awake_calls _).mono ?_); rintro e w9 ⟨rfl, hb⟩; replace BB := Aside0.mk (below_then BB.out BB.out.size hb); clear hb))
        go_ret
        exact ⟨rfl, BB.out⟩
      case pos =>
        have t1 : decide ((i : Int) < (l2.length : Int)) = true := decide_eq_true (by omega)
        have t2 : decide (i < l2.length) = true := decide_eq_true hi
        obtain ⟨ad, Am, cm, rfl, hcell, hcm, hCm⟩ := wagtaillaw15_PageTorn.mask_at (Kd.C_below HR2.out BB.out) i hi
        have hmb := HMK.out _ (List.getElem_mem hi)
        generalize l2[i] = mk at hcell hcm hCm hmb
        have p1 : (0 : Int) ≤ (i : Int) := by omega
        have q1 : (i : Int) < (l2.length : Int) := by omega
        replace p1 := eq_true p1
        replace q1 := eq_true q1
        have HI2 := Aside0.mk hi
        have HCM := Aside0.mk (And.intro hcm (And.intro hCm hmb))
        clear hi hcm hCm hmb
        by_cases h3 : 300 < mk.length
        case pos =>
          have u1 : decide (300 < (mk.length : Int)) = true := decide_eq_true (by omega)
          have u2 : decide (300 < mk.length) = true := decide_eq_true h3
          clear h3
          go_wp2_with (((go_at_call 36); (with_reducible refine (PG.awake_calls _).mono ?_); rintro e w9 ⟨rfl, hb⟩; replace BB := Aside0.mk (below_then BB.out BB.out.size hb); clear hb))
          go_ret
          exact ⟨rfl, BB.out⟩
        case neg =>
          have u1 : decide (300 < (mk.length : Int)) = false := decide_eq_false (by omega)
          have u2 : decide (300 < mk.length) = false := decide_eq_false h3
          clear h3
          have HCSW := Aside0.mk (Kd.C_below HCS.out BS.out)
          by_cases hi0 : i = 0
          case pos =>
            have v1 : decide ((i : Int) = 0) = true := decide_eq_true (by omega)
            have v2 : ((i : Int) == 0) = true := by simp; omega
            have hx0 := HX.out.2.2.2.2.1 hi0
            obtain ⟨y, hy⟩ : ∃ y, y = progRow x S mk := ⟨_, rfl⟩
            have HCALL := Aside0.mk (wagtaillaw15_PageTorn.part_calls x S mk HX.out.2.2.1 HS.out.1 HCM.out.2.2 HX.out.2.2.2.1 HS.out.2.1 A (some ⟨nb, 0, none⟩) Am c cs cm HX.out.1 HCP.out HCM.out.1 y hy wr HX.out.2.1 HCSW.out HCM.out.2.1)
            have HY := Aside0.mk (show isBytes y ∧ y.length = 256 ∧ PG.coverL y S by
              refine ⟨by rw [hy]; exact PG.progRow_bytes _ _ _ HX.out.2.2.1, by rw [hy, PG.progRow_len]; exact HX.out.2.2.2.1, ?_⟩
              have h := PG.prog_covers S mk HS.out.1 HCM.out.2.2
              rw [HS.out.2.1] at h
              rw [hy, hx0]
              exact h)
            have HI0 := Aside0.mk hi0
            clear hx0 hy hi0
            have HCL := Aside0.mk (wagtaillaw15_PageTorn.covers_calls y S HY.out.1 HS.out.1 HY.out.2.1 HS.out.2.1 HY.out.2.2)
            have STEP : ∀ {A' : Option Addr} {c' : Nat} {W : World}, Kd.C (Kd.int .u8) W A' 256 y → Str W (.slice A' 256 c') (strOfNums y) := fun h => PG.str_of_C h _ rfl
            have STES : ∀ {A' : Option Addr} {c' : Nat} {W : World}, Kd.C (Kd.int .u8) W A' 256 S → Str W (.slice A' 256 c') xp := fun h => PG.str_of_C h _ HS.out.2.2.2
            by_cases hyS : y = S
            case pos =>
              have hsy : strOfNums y = xp := by rw [hyS]; exact HS.out.2.2.2.symm
              have HK1 := Aside0.mk (wagtaillaw15_PageTorn.class_calls y HY.out.1 HY.out.2.1 1 (by rw [hyS]; exact HS.out.2.2.1))
              rw [hsy] at STEP
              clear hyS hsy
              go_wp2_with (first
                | ((go_at_call 45); (with_reducible refine HCALL.out.mono ?_); rintro e w5 ⟨Ay, cy, rfl, hcy, hCy, hb⟩; have HCY := Aside0.mk (And.intro hcy hCy); replace HCSW := Aside0.mk (Kd.C_below HCSW.out hb); replace BB := Aside0.mk (below_then BB.out BB.out.size hb); replace BS := Aside0.mk (below_then BS.out BS.out.size hb); clear hcy hCy hb)
                | ((go_at_call 35); (with_reducible refine (HCL.out _ _ _ _ HCY.out.1 HCP.out _ HCY.out.2 HCSW.out).mono ?_); rintro e w6 ⟨rfl, hb⟩; replace HCY := Aside0.mk (And.intro HCY.out.1 (Kd.C_below HCY.out.2 hb)); replace HCSW := Aside0.mk (Kd.C_below HCSW.out hb); replace BB := Aside0.mk (below_then BB.out BB.out.size hb); replace BS := Aside0.mk (below_then BS.out BS.out.size hb); clear hb; have sy := (STEP HCY.out.2 (c' := cy)).here; have ss := (STES HCSW.out (c' := cs)).here)
                | ((go_at_call 42); (with_reducible refine (HK1.out _ _ HCY.out.1 _ HCY.out.2).mono ?_); rintro e w7 ⟨rfl, hb⟩; replace HCY := Aside0.mk (And.intro HCY.out.1 (Kd.C_below HCY.out.2 hb)); replace HCSW := Aside0.mk (Kd.C_below HCSW.out hb); replace BB := Aside0.mk (below_then BB.out BB.out.size hb); replace BS := Aside0.mk (below_then BS.out BS.out.size hb); clear hb; have sy := (STEP HCY.out.2 (c' := cy)).here; have ss := (STES HCSW.out (c' := cs)).here))
              go_roundg (l2.length - i)
              case measure => have := HQ.out; have := HI2.out; omega
              case rel => exact ⟨i + 1, Ay, cy, y, rfl, by first | rfl | (simp; unfold wrap64; have := HI2.out; have := HL6.out; omega), ⟨HCY.out.1, HCY.out.2, HY.out.1, HY.out.2.1, fun h => absurd h (by omega), fun _ => HY.out.2.2⟩, ⟨by have := HI2.out; omega⟩, ⟨by have := HQ.out; have := HI2.out; omega⟩, BB, BS⟩
            case neg =>
              have hk1 : PG.cls y ≠ 1 := fun h => hyS (HTORN.out y HY.out.1 HY.out.2.2 h)
              have k1 : (PG.cls y == 1) = false := by simpa using hk1
              have k2 : decide (PG.cls y = 1) = false := decide_eq_false hk1
              have k3 : (PG.cls y != 1) = true := by simpa using hk1
              have k4 : (((strOfNums y).toList == xp.toList) : Bool) = false := by
                rw [beq_eq_false_iff_ne, ne_eq]
                intro h
                have h2 := PG.toList_inj h
                rw [HS.out.2.2.2] at h2
                exact hyS (PG.str_inj HY.out.1 HS.out.1 h2)
              have HK1 := Aside0.mk (wagtaillaw15_PageTorn.class_calls y HY.out.1 HY.out.2.1 (PG.cls y) rfl)
              clear hyS hk1
              go_wp2_with (first
                | ((go_at_call 45); (with_reducible refine HCALL.out.mono ?_); rintro e w5 ⟨Ay, cy, rfl, hcy, hCy, hb⟩; have HCY := Aside0.mk (And.intro hcy hCy); replace HCSW := Aside0.mk (Kd.C_below HCSW.out hb); replace BB := Aside0.mk (below_then BB.out BB.out.size hb); replace BS := Aside0.mk (below_then BS.out BS.out.size hb); clear hcy hCy hb)
                | ((go_at_call 35); (with_reducible refine (HCL.out _ _ _ _ HCY.out.1 HCP.out _ HCY.out.2 HCSW.out).mono ?_); rintro e w6 ⟨rfl, hb⟩; replace HCY := Aside0.mk (And.intro HCY.out.1 (Kd.C_below HCY.out.2 hb)); replace HCSW := Aside0.mk (Kd.C_below HCSW.out hb); replace BB := Aside0.mk (below_then BB.out BB.out.size hb); replace BS := Aside0.mk (below_then BS.out BS.out.size hb); clear hb; have sy := (STEP HCY.out.2 (c' := cy)).here; have ss := (STES HCSW.out (c' := cs)).here)
                | ((go_at_call 42); (with_reducible refine (HK1.out _ _ HCY.out.1 _ HCY.out.2).mono ?_); rintro e w7 ⟨rfl, hb⟩; replace HCY := Aside0.mk (And.intro HCY.out.1 (Kd.C_below HCY.out.2 hb)); replace HCSW := Aside0.mk (Kd.C_below HCSW.out hb); replace BB := Aside0.mk (below_then BB.out BB.out.size hb); replace BS := Aside0.mk (below_then BS.out BS.out.size hb); clear hb; have sy := (STEP HCY.out.2 (c' := cy)).here; have ss := (STES HCSW.out (c' := cs)).here))
              go_roundg (l2.length - i)
              case measure => have := HQ.out; have := HI2.out; omega
              case rel => exact ⟨i + 1, Ay, cy, y, rfl, by first | rfl | (simp; unfold wrap64; have := HI2.out; have := HL6.out; omega), ⟨HCY.out.1, HCY.out.2, HY.out.1, HY.out.2.1, fun h => absurd h (by omega), fun _ => HY.out.2.2⟩, ⟨by have := HI2.out; omega⟩, ⟨by have := HQ.out; have := HI2.out; omega⟩, BB, BS⟩
          case neg =>
            have v1 : decide ((i : Int) = 0) = false := decide_eq_false (by omega)
            have v2 : ((i : Int) == 0) = false := by simp; omega
            obtain ⟨y, hy⟩ : ∃ y, y = wipeRow x mk := ⟨_, rfl⟩
            have HCALL := Aside0.mk (wagtaillaw15_PageTorn.wipe_calls x mk HX.out.2.2.1 HCM.out.2.2 HX.out.2.2.2.1 A Am c cm HX.out.1 HCM.out.1 y hy wr HX.out.2.1 HCM.out.2.1)
            have HY := Aside0.mk (show isBytes y ∧ y.length = 256 ∧ PG.coverL y S by
              have hby : isBytes y := by rw [hy]; exact PG.wipeRow_bytes _ _ HX.out.2.2.1 HCM.out.2.2
              refine ⟨hby, by rw [hy, PG.wipeRow_len]; exact HX.out.2.2.2.1, ?_⟩
              refine PG.coverL_trans y x S hby HX.out.2.2.1 HS.out.1 ?_ (HX.out.2.2.2.2.2 (by omega))
              rw [hy]
              exact PG.wipe_covers x mk HX.out.2.2.1 HCM.out.2.2)
            have HI0 := Aside0.mk hi0
            clear hy hi0
            have HCL := Aside0.mk (wagtaillaw15_PageTorn.covers_calls y S HY.out.1 HS.out.1 HY.out.2.1 HS.out.2.1 HY.out.2.2)
            have STEP : ∀ {A' : Option Addr} {c' : Nat} {W : World}, Kd.C (Kd.int .u8) W A' 256 y → Str W (.slice A' 256 c') (strOfNums y) := fun h => PG.str_of_C h _ rfl
            have STES : ∀ {A' : Option Addr} {c' : Nat} {W : World}, Kd.C (Kd.int .u8) W A' 256 S → Str W (.slice A' 256 c') xp := fun h => PG.str_of_C h _ HS.out.2.2.2
            by_cases hyS : y = S
            case pos =>
              have hsy : strOfNums y = xp := by rw [hyS]; exact HS.out.2.2.2.symm
              have HK1 := Aside0.mk (wagtaillaw15_PageTorn.class_calls y HY.out.1 HY.out.2.1 1 (by rw [hyS]; exact HS.out.2.2.1))
              rw [hsy] at STEP
              clear hyS hsy
              go_wp2_with (first
                | ((go_at_call 46); (with_reducible refine HCALL.out.mono ?_); rintro e w5 ⟨Ay, cy, rfl, hcy, hCy, hb⟩; have HCY := Aside0.mk (And.intro hcy hCy); replace HCSW := Aside0.mk (Kd.C_below HCSW.out hb); replace BB := Aside0.mk (below_then BB.out BB.out.size hb); replace BS := Aside0.mk (below_then BS.out BS.out.size hb); clear hcy hCy hb)
                | ((go_at_call 35); (with_reducible refine (HCL.out _ _ _ _ HCY.out.1 HCP.out _ HCY.out.2 HCSW.out).mono ?_); rintro e w6 ⟨rfl, hb⟩; replace HCY := Aside0.mk (And.intro HCY.out.1 (Kd.C_below HCY.out.2 hb)); replace HCSW := Aside0.mk (Kd.C_below HCSW.out hb); replace BB := Aside0.mk (below_then BB.out BB.out.size hb); replace BS := Aside0.mk (below_then BS.out BS.out.size hb); clear hb; have sy := (STEP HCY.out.2 (c' := cy)).here; have ss := (STES HCSW.out (c' := cs)).here)
                | ((go_at_call 42); (with_reducible refine (HK1.out _ _ HCY.out.1 _ HCY.out.2).mono ?_); rintro e w7 ⟨rfl, hb⟩; replace HCY := Aside0.mk (And.intro HCY.out.1 (Kd.C_below HCY.out.2 hb)); replace HCSW := Aside0.mk (Kd.C_below HCSW.out hb); replace BB := Aside0.mk (below_then BB.out BB.out.size hb); replace BS := Aside0.mk (below_then BS.out BS.out.size hb); clear hb; have sy := (STEP HCY.out.2 (c' := cy)).here; have ss := (STES HCSW.out (c' := cs)).here))
              go_roundg (l2.length - i)
              case measure => have := HQ.out; have := HI2.out; omega
              case rel => exact ⟨i + 1, Ay, cy, y, rfl, by first | rfl | (simp; unfold wrap64; have := HI2.out; have := HL6.out; omega), ⟨HCY.out.1, HCY.out.2, HY.out.1, HY.out.2.1, fun h => absurd h (by omega), fun _ => HY.out.2.2⟩, ⟨by have := HI2.out; omega⟩, ⟨by have := HQ.out; have := HI2.out; omega⟩, BB, BS⟩
            case neg =>
              have hk1 : PG.cls y ≠ 1 := fun h => hyS (HTORN.out y HY.out.1 HY.out.2.2 h)
              have k1 : (PG.cls y == 1) = false := by simpa using hk1
              have k2 : decide (PG.cls y = 1) = false := decide_eq_false hk1
              have k3 : (PG.cls y != 1) = true := by simpa using hk1
              have k4 : (((strOfNums y).toList == xp.toList) : Bool) = false := by
                rw [beq_eq_false_iff_ne, ne_eq]
                intro h
                have h2 := PG.toList_inj h
                rw [HS.out.2.2.2] at h2
                exact hyS (PG.str_inj HY.out.1 HS.out.1 h2)
              have HK1 := Aside0.mk (wagtaillaw15_PageTorn.class_calls y HY.out.1 HY.out.2.1 (PG.cls y) rfl)
              clear hyS hk1
              go_wp2_with (first
                | ((go_at_call 46); (with_reducible refine HCALL.out.mono ?_); rintro e w5 ⟨Ay, cy, rfl, hcy, hCy, hb⟩; have HCY := Aside0.mk (And.intro hcy hCy); replace HCSW := Aside0.mk (Kd.C_below HCSW.out hb); replace BB := Aside0.mk (below_then BB.out BB.out.size hb); replace BS := Aside0.mk (below_then BS.out BS.out.size hb); clear hcy hCy hb)
                | ((go_at_call 35); (with_reducible refine (HCL.out _ _ _ _ HCY.out.1 HCP.out _ HCY.out.2 HCSW.out).mono ?_); rintro e w6 ⟨rfl, hb⟩; replace HCY := Aside0.mk (And.intro HCY.out.1 (Kd.C_below HCY.out.2 hb)); replace HCSW := Aside0.mk (Kd.C_below HCSW.out hb); replace BB := Aside0.mk (below_then BB.out BB.out.size hb); replace BS := Aside0.mk (below_then BS.out BS.out.size hb); clear hb; have sy := (STEP HCY.out.2 (c' := cy)).here; have ss := (STES HCSW.out (c' := cs)).here)
                | ((go_at_call 42); (with_reducible refine (HK1.out _ _ HCY.out.1 _ HCY.out.2).mono ?_); rintro e w7 ⟨rfl, hb⟩; replace HCY := Aside0.mk (And.intro HCY.out.1 (Kd.C_below HCY.out.2 hb)); replace HCSW := Aside0.mk (Kd.C_below HCSW.out hb); replace BB := Aside0.mk (below_then BB.out BB.out.size hb); replace BS := Aside0.mk (below_then BS.out BS.out.size hb); clear hb; have sy := (STEP HCY.out.2 (c' := cy)).here; have ss := (STES HCSW.out (c' := cs)).here))
              go_roundg (l2.length - i)
              case measure => have := HQ.out; have := HI2.out; omega
              case rel => exact ⟨i + 1, Ay, cy, y, rfl, by first | rfl | (simp; unfold wrap64; have := HI2.out; have := HL6.out; omega), ⟨HCY.out.1, HCY.out.2, HY.out.1, HY.out.2.1, fun h => absurd h (by omega), fun _ => HY.out.2.2⟩, ⟨by have := HI2.out; omega⟩, ⟨by have := HQ.out; have := HI2.out; omega⟩, BB, BS⟩

end Go.Proofs.Ytmlkkdopogcggaa.Hp
