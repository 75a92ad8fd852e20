-- Laid by this workplace's own program hprint.py (functions marked by hand are ours; the others are printed out of the translation). Not trusted: Lean checks it.
import Derived.Test.YtmlkkdopogcggaaHp0
import Derived.Test.YtmlkkdopogcggaaHp30
import Derived.Test.YtmlkkdopogcggaaHp37
import Derived.Test.YtmlkkdopogcggaaPGW
namespace Go.Proofs.Ytmlkkdopogcggaa.Hp
open Go.RowKit Go.Proofs.YtmlkkdopogcggaaW.PrintWords Go.Proofs.YtmlkkdopogcggaaW.PrintLast Go.Proofs.YtmlkkdopogcggaaW.PrintMore
attribute [local go_sem] max2_int min2_int max_two min_two max_three min_three max_four min_four   -- for this text's walks alone
set_option linter.unusedVariables false
set_option linter.unusedSimpArgs false

/-! ### page_Reopen: function 50 -/
-- a function whose text and proof are by hand
-- IMPORT PGW
def page_Reopen.f (l : List Int) (op : Int) : Option (List Int × Int) :=
  if isBytes l ∧ l.length ≤ 100000 ∧ 0 ≤ op then (if PG.cls l = 1 then (if op < 2147483648 then some (PG.pageL (rd l 0) (rd l 1) (rd l 2) (beNum l 4 8) op (beNum l 20 2) (beNum l 22 2) (PG.datL l), 0) else some ([], 3)) else some ([], 6)) else none
theorem page_Reopen.may_open {k i c b o l n op : Int} (h : headMay k i c b o l n = true) : headMay k i c b op l n = decide (op < 2147483648) := by
  unfold headMay at h ⊢
  simp only [Bool.and_eq_true] at h
  obtain ⟨⟨h1, h2, h3⟩, h4, h5, h6, h7⟩ := h
  rw [h1, h2, h3, h4, h6, h7]
  simp
theorem page_Reopen.right {l : List Int} (h : PG.cls l = 1) : l.length = 256 ∧ PG.mayL l = true := by
  unfold PG.cls at h
  by_cases hl : l.length = 256
  · rw [if_pos hl] at h
    by_cases hz : l = List.replicate 256 255
    · rw [if_pos hz] at h; exact absurd h (by decide)
    · rw [if_neg hz] at h
      by_cases hr : PG.rightL l = true
      · unfold PG.rightL at hr
        simp only [Bool.and_eq_true] at hr
        exact ⟨hl, hr.1⟩
      · rw [if_neg hr] at h; exact absurd h (by decide)
  · rw [if_neg hl] at h; exact absurd h (by decide)
set_option maxHeartbeats 8000000 in
set_option maxRecDepth 100000 in
theorem page_Reopen.calls (A0 : Option Addr) (c0 : Nat) (l0 : List Int) (a1 : Int) (r1 : List Int) (r2 : Int) (w : World) (hr0 : Kd.C (Kd.int .u8) w A0 l0.length l0) (hc0 : l0.length ≤ c0) (h : page_Reopen.f l0 a1 = some (r1, r2)) :
    Calls Try.prog 50 #[.slice A0 l0.length c0, .int .u64 a1] w fun e w' => ∃ v0_ : Value, e = .returned (.tuple #[v0_, .int .i64 r2]) ∧ Kd.R (Kd.int .u8) 5 w' w.heap.size (fun _ => True) v0_ r1 ∧ Below w.heap.size w w' := by
  unfold page_Reopen.f at h
  by_cases hc : isBytes l0 ∧ l0.length ≤ 100000 ∧ 0 ≤ a1
  case neg => rw [if_neg hc] at h; cases h
  rw [if_pos hc] at h
  obtain ⟨hb, hl, ho⟩ := hc
  by_cases h1 : PG.cls l0 = 1
  case neg =>
    rw [if_neg h1] at h
    simp only [Option.some.injEq, Prod.mk.injEq] at h
    obtain ⟨rfl, rfl⟩ := h
    have hg : ∃ r9 : Int, (r9 == 0) = false ∧ (r9 != 0) = true ∧ decide (r9 = 0) = false ∧ PG.getOf l0 = (0, 0, 0, 0, 0, 0, 0, (⟨#[]⟩ : ByteArray), r9) := by
      unfold PG.getOf
      by_cases h0 : PG.cls l0 = 0
      · exact ⟨8, by decide, by decide, by decide, by rw [if_pos h0]⟩
      · have h2 : PG.cls l0 = 2 := by
          unfold PG.cls at h0 h1 ⊢
          split at h0
          · rename_i e1
            rw [if_pos e1] at h1 ⊢
            split at h0
            · exact absurd rfl h0
            · rename_i e2
              rw [if_neg e2] at h1 ⊢
              split at h0
              · rename_i e3
                rw [if_pos e3] at h1
                exact absurd rfl h1
              · rename_i e3
                rw [if_neg e3]
          · rename_i e1
            rw [if_neg e1]
        exact ⟨6, by decide, by decide, by decide, by rw [if_neg h0, if_pos h2]⟩
    obtain ⟨r9, q1, q2, q3, hgo⟩ := hg
    have HG := Aside0.mk (PG.get_calls l0 hb hl A0 c0 hc0 _ _ _ _ _ _ _ _ _ hgo w hr0)
    clear hb hl ho h1 hgo hr0
    go_enter Try.func50, Try.ntmps50
    go_upto_region 2 with ((go_at_call 40); (with_reducible refine HG.out.mono ?_); rintro e w2 ⟨rfl, hb⟩; have HB := Aside0.mk hb; clear hb)
    have hst := Aside0.mk (And.intro (below_alloc (Below.refl w2.heap.size w2) (Obj.cells #[Value.int IntKind.i64 0, Value.int IntKind.i64 0, Value.int IntKind.i64 0, Value.int IntKind.u64 0, Value.int IntKind.u64 0, Value.int IntKind.i64 0, Value.int IntKind.i64 0] 50)) trivial)
    go_wp2_with fail
    go_ret2
    exact ⟨_, rfl, Kd.R_nil _ _ _ _ _, below_then HB.out HB.out.size hst.out.1⟩
  case pos =>
    rw [if_pos h1] at h
    obtain ⟨hlen, hmay⟩ := page_Reopen.right h1
    have hgo : PG.getOf l0 = (rd l0 0, rd l0 1, rd l0 2, beNum l0 4 8, beNum l0 12 8, beNum l0 20 2, beNum l0 22 2, strOfNums (PG.datL l0), 0) := by
      unfold PG.getOf
      rw [if_neg (by rw [h1]; decide), if_neg (by rw [h1]; decide)]
    have HG := Aside0.mk (PG.get_calls l0 hb hl A0 c0 hc0 _ _ _ _ _ _ _ _ _ hgo w hr0)
    have hdl := PG.datL_len l0 hlen hmay
    have hdb := PG.datL_bytes l0 hb
    have hn8 := PG.num_wide l0 hb 4
    unfold PG.mayL at hmay
    have hm2 := page_Reopen.may_open (op := a1) hmay
    have hput : ∃ K, page_Put.f K (rd l0 0) (rd l0 1) (rd l0 2) (beNum l0 4 8) a1 (beNum l0 20 2) (beNum l0 22 2) (strOfNums (PG.datL l0)) = some (r1, r2) := by
      by_cases h31 : a1 < 2147483648
      · rw [if_pos h31] at h
        simp only [Option.some.injEq, Prod.mk.injEq] at h
        obtain ⟨rfl, rfl⟩ := h
        obtain ⟨K, hK⟩ := PG.pput_ev (rd l0 0) (rd l0 1) (rd l0 2) (beNum l0 4 8) a1 (beNum l0 20 2) (beNum l0 22 2) (strOfNums (PG.datL l0)) (by rw [hm2]; exact decide_eq_true h31) hn8 ho (by rw [wagtailref15_Put.str_size]; exact hdl)
        rw [wagtailref15_Put.bytesOf_str _ hdb] at hK
        exact ⟨K, hK K (Nat.le_refl _)⟩
      · rw [if_neg h31] at h
        simp only [Option.some.injEq, Prod.mk.injEq] at h
        obtain ⟨rfl, rfl⟩ := h
        obtain ⟨K, hK⟩ := PG.pput_bad (rd l0 0) (rd l0 1) (rd l0 2) (beNum l0 4 8) a1 (beNum l0 20 2) (beNum l0 22 2) (strOfNums (PG.datL l0)) (.inl (by rw [hm2]; exact decide_eq_false h31))
        exact ⟨K, hK K (Nat.le_refl _)⟩
    obtain ⟨K, hK⟩ := hput
    generalize rd l0 0 = k0 at HG hK
    generalize rd l0 1 = k1 at HG hK
    generalize rd l0 2 = k2 at HG hK
    generalize beNum l0 4 8 = k3 at HG hK
    generalize beNum l0 12 8 = k4 at HG hK
    generalize beNum l0 20 2 = k5 at HG hK
    generalize beNum l0 22 2 = k6 at HG hK
    generalize strOfNums (PG.datL l0) = d at HG hK
    have HP := Aside0.mk (fun W => page_Put.calls K k0 k1 k2 k3 a1 k5 k6 d r1 r2 W hK)
    clear hb hl ho h1 hgo hr0 h hlen hmay hdl hdb hn8 hm2 hK
    go_enter Try.func50, Try.ntmps50
    go_upto_region 2 with ((go_at_call 40); (with_reducible refine HG.out.mono ?_); rintro e w2 ⟨rfl, hb⟩; have HB := Aside0.mk hb; clear hb)
    have hst := And.intro (below_alloc (Below.refl w2.heap.size w2) (Obj.cells #[Value.int IntKind.i64 k0, Value.int IntKind.i64 k1, Value.int IntKind.i64 k2, Value.int IntKind.u64 k3, Value.int IntKind.u64 k4, Value.int IntKind.i64 k5, Value.int IntKind.i64 k6] 50)) (And.intro (heap_alloc_new w2 (Obj.cells #[Value.int IntKind.i64 k0, Value.int IntKind.i64 k1, Value.int IntKind.i64 k2, Value.int IntKind.u64 k3, Value.int IntKind.u64 k4, Value.int IntKind.i64 k5, Value.int IntKind.i64 k6] 50)) trivial)
    generalize w2.alloc (Obj.cells #[Value.int IntKind.i64 k0, Value.int IntKind.i64 k1, Value.int IntKind.i64 k2, Value.int IntKind.u64 k3, Value.int IntKind.u64 k4, Value.int IntKind.i64 k5, Value.int IntKind.i64 k6] 50) = W0 at hst ⊢
    have hz := hst.2.1
    have hB2 := below_then HB.out HB.out.size hst.1
    have hge := HB.out.size
    generalize w2.heap.size = gb at hz hge ⊢
    have d0 := blk_cell hz 4
    have e0 := blk_frozen hz 4
    have hz2 := blk_set hz 4 (.int .u64 a1)
    have hB3 := Aside0.mk (hB2.setCell (p := ⟨gb, 4, none⟩) hge (.int .u64 a1))
    replace hz := Aside0.mk hz
    replace hst := Aside0.mk hst
    replace hB2 := Aside0.mk hB2
    replace hz2 := Aside0.mk hz2
    clear HG
    go_upto_region 5 with fail
    generalize W0.setCell ⟨gb, 4, none⟩ (.int .u64 a1) = W2 at hz2 hB3 ⊢
    have hz3 : W2.heap[gb]? = some (.cells #[.int .i64 k0, .int .i64 k1, .int .i64 k2, .int .u64 k3, .int .u64 a1, .int .i64 k5, .int .i64 k6] 50 (0, 0)) := by simpa using hz2.out
    have c0 := blk_cell hz3 0
    have c1 := blk_cell hz3 1
    have c2 := blk_cell hz3 2
    have c3 := blk_cell hz3 3
    have c4 := blk_cell hz3 4
    have c5 := blk_cell hz3 5
    have c6 := blk_cell hz3 6
    clear hz3 d0 e0
    go_wp2_with ((go_at_call 37); (with_reducible refine (HP.out _).mono ?_); rintro e w4 ⟨v, rfl, hr, hb⟩; have HR := Aside0.mk (Kd.R_lower hr hB3.out.size); have HBF := Aside0.mk (below_then hB3.out hB3.out.size hb); clear hr hb)
    go_ret2
    exact ⟨_, rfl, HR.out, HBF.out⟩

end Go.Proofs.Ytmlkkdopogcggaa.Hp
