-- Laid by this workplace's own program hprint.py (functions marked by hand are ours; the others are printed out of the translation). Not trusted: Lean checks it.
import Derived.Test.YtmlkkdopogcggaaHp0
import Derived.Test.YtmlkkdopogcggaaHp28
namespace Go.Proofs.Ytmlkkdopogcggaa.Hp
open Go.RowKit Go.Proofs.YtmlkkdopogcggaaW.PrintWords Go.Proofs.YtmlkkdopogcggaaW.PrintLast Go.Proofs.YtmlkkdopogcggaaW.PrintMore
attribute [local go_sem] max2_int min2_int max_two min_two max_three min_three max_four min_four   -- for this text's walks alone
set_option linter.unusedVariables false
set_option linter.unusedSimpArgs false

/-! ### be_Row: function 62 -/
-- a function whose text and proof are by hand
theorem put_loop (n : Int) (h0 : 0 ≤ n) (h1 : n < 18446744073709551616) (w : Nat) : ∀ (k : Nat) (out : List Int), out.length + w ≤ 2000000 → w ≤ 8 → w < k → be_Put.l0 k n out ((w : Int) - 1) = some (out ++ beBytes w n) := by
  induction w with
  | zero =>
    intro k out ho hw hk
    obtain ⟨k, rfl⟩ : ∃ m, k = m + 1 := ⟨k - 1, by omega⟩
    simp only [be_Put.l0]
    rw [if_neg (by omega)]
    simp [beBytes]
  | succ w ih =>
    intro k out ho hw hk
    obtain ⟨k, rfl⟩ : ∃ m, k = m + 1 := ⟨k - 1, by omega⟩
    simp only [be_Put.l0]
    have e1 : wrap64 (8 * (((w + 1 : Nat) : Int) - 1)) = 8 * (w : Int) := by unfold wrap64; omega
    have e2 : wrap64 ((((w + 1 : Nat) : Int) - 1) - 1) = (w : Int) - 1 := by unfold wrap64; omega
    rw [if_pos (by omega), e1, if_pos (by omega), if_pos (by omega), e2, shr_byte n h0 h1 w (by omega), ih k _ (by rw [List.length_append]; simp; omega) (by omega) (by omega), beBytes_succ]
    simp
theorem put_is (l : List Int) (w n : Int) (hl : l.length ≤ 1000000) (h0 : 0 ≤ n) (h1 : n < 18446744073709551616) : be_Put.f 10 l w n = some (l ++ beBytes (wid w) n) := by
  unfold be_Put.f be_width.f
  have e : mn (mx w 0) 8 = ((wid w : Nat) : Int) := by unfold wid mn mx; (repeat' split) <;> omega
  have e1 : wrap64 (((wid w : Nat) : Int) - 1) = ((wid w : Nat) : Int) - 1 := by have := wid_le w; unfold wrap64; omega
  have e2 : ([] : List Int).length + l.length < 140737488355328 := by simp; omega
  rw [if_pos e2]
  simp only [Option.bind_some]
  rw [e, e1, put_loop n h0 h1 (wid w) 10 _ (by have := wid_le w; simp; omega) (wid_le w) (by have := wid_le w; omega)]
  simp

set_option maxHeartbeats 1000000 in
theorem lay_calls (wv n : Int) (g : Nat) (v : Value) (xs : List Int) (w0 W : World) (hg : W.heap[g]? = some (.cells #[v] 35 (0, 0))) (hR : Kd.R (Kd.int .u8) 5 W w0.heap.size (fun _ => True) v xs) (hB : Below w0.heap.size w0 W) (hgb : w0.heap.size ≤ g)
    (hlen : xs.length ≤ 100000) (hn : 0 ≤ n ∧ n < 18446744073709551616) (hwv : 0 ≤ wv) (hw8 : wv ≤ 8) :
    Calls Try.prog 69 #[.int .u64 wv, .int .u64 n, .pointer (some ⟨g, 0, none⟩)] W fun e W' => e = .returned (.tuple #[]) ∧ ∃ v', W'.heap[g]? = some (.cells #[v'] 35 (0, 0)) ∧ Kd.R (Kd.int .u8) 5 W' w0.heap.size (fun _ => True) v' (xs ++ beBytes (wid wv) n) ∧ Below w0.heap.size w0 W' := by
  obtain ⟨A, c, rfl, hc, hC⟩ := Kd.R_reads hR
  have hcell : W.cell? ⟨g, 0, none⟩ = some (.slice A xs.length c) := by simp [World.cell?, hg]
  have hput := put_is xs wv n (by omega) hn.1 hn.2
  generalize xs ++ beBytes (wid wv) n = ys at hput ⊢
  have HP := Aside0.mk hput
  clear hput
  have HC := Aside0.mk hC
  have Hc := Aside0.mk hc
  have HG := Aside0.mk hg
  have HB := Aside0.mk hB
  have Hgb := Aside0.mk hgb
  clear hg hR hC hc hB hgb hlen hn
  go_enter Try.func69, Try.ntmps69
  go_wp2_with fail
  refine (be_Put.calls 10 A c xs wv n _ W HC.out Hc.out HP.out).mono ?_
  rintro e W1 ⟨v1, rfl, ho, hb⟩
  obtain ⟨A1, c1, hv1⟩ := Kd.R_slice ho
  have hglt : g < W.heap.size := by
    have := HG.out
    exact (Array.getElem?_eq_some_iff.1 this).1
  have hg1 : W1.heap[g]? = some (.cells #[.slice A xs.length c] 35 (0, 0)) := (hb.block g hglt).trans HG.out
  have hcell1 : W1.cell? ⟨g, 0, none⟩ = some (.slice A xs.length c) := by simp [World.cell?, hg1]
  have hfr1 : W1.frozen? ⟨g, 0, none⟩ = false := by simp [World.frozen?, hg1]
  have ho2 := Kd.R_lower ho HB.out.size
  have HF := Aside0.mk (show ∃ v', (W1.setCell ⟨g, 0, none⟩ v1).heap[g]? = some (.cells #[v'] 35 (0, 0)) ∧ Kd.R (Kd.int .u8) 5 (W1.setCell ⟨g, 0, none⟩ v1) w0.heap.size (fun _ => True) v' ys ∧ Below w0.heap.size w0 (W1.setCell ⟨g, 0, none⟩ v1) from
    ⟨v1, by simpa using blk_set hg1 0 v1, Kd.R_set ho2 hg1 (by decide) 0 v1, (below_then HB.out HB.out.size hb).setCell Hgb.out _⟩)
  clear ho hb hg1 ho2
  subst hv1
  go_wp2
  go_end0
  exact ⟨rfl, HF.out⟩

def be_Row.f (l : List Int) : Option (List Int) := if l.length ≤ 1000 ∧ rowOk l then some (beRow l) else none
set_option maxHeartbeats 8000000 in
set_option maxRecDepth 100000 in
theorem be_Row.calls (A0 : Option Addr) (c0 : Nat) (l0 : List Int) (r : List Int) (w : World) (hr0 : Kd.C (Kd.int .u64) w A0 l0.length l0) (hc0 : l0.length ≤ c0) (h : be_Row.f l0 = some r) :
    Calls Try.prog 62 #[.slice A0 l0.length c0] w fun e w' => ∃ v0_ : Value, e = .returned (v0_) ∧ Kd.R (Kd.int .u8) 5 w' w.heap.size (fun _ => True) v0_ r ∧ Below w.heap.size w w' := by
  unfold be_Row.f at h
  by_cases hb : l0.length ≤ 1000 ∧ rowOk l0
  case neg => rw [if_neg hb] at h; cases h
  rw [if_pos hb] at h
  obtain rfl := Option.some.inj h
  obtain ⟨hl, hok⟩ := hb
  have HR0 := Aside0.mk hr0
  have HL := Aside0.mk hl
  have HK := Aside0.mk hok
  clear h hr0 hc0 hl hok
  have hmf : ∀ (fn : Fn) (first cap : Array Value) (w : World), (Instr.makeFunc fn first cap).run Try.prog w = .ok (.func fn first cap) w := fun _ _ _ _ => rfl
  go_enter Try.func62, Try.ntmps62
  go_wp2
  go_loopg [5] (l0.length + 1) (fun kq v5 w' => ∃ (i j : Nat) (v : Value), v5 = .int .i64 (i : Int) ∧ Aside0 (i = 2 * j) ∧ Aside0 (i ≤ l0.length) ∧ Aside0 (kq + j = l0.length + 1) ∧ Aside0 (w'.heap[w.heap.size]? = some (.cells #[v] 35 (0, 0))) ∧ Aside0 (Kd.R (Kd.int .u8) 5 w' w.heap.size (fun _ => True) v (beRow (l0.take i))) ∧ Aside0 (Below w.heap.size w w'))
  case atStart => exact ⟨0, 0, .slice none 0 0, rfl, ⟨rfl⟩, ⟨by omega⟩, ⟨by omega⟩, ⟨heap_alloc_new w _⟩, ⟨Kd.R_nil _ _ _ _ _⟩, ⟨by repeat (first | exact Below.refl _ _ | apply below_alloc | apply pw_below_drewN | apply below_drew1)⟩⟩
  case round =>
    obtain ⟨i, j, v, rfl, HI, HJ, HQ, HG, HO, HB⟩ := hrel
    have hwr : wrap64 ((i : Int) + 1) = (i : Int) + 1 := by have := HL.out; have := HJ.out; unfold wrap64; omega
    have hwr2 : wrap64 ((i : Int) + 2) = (i : Int) + 2 := by have := HL.out; have := HJ.out; unfold wrap64; omega
    by_cases hj : i + 1 < l0.length
    · have t1 : decide ((i : Int) + 1 < (l0.length : Int)) = true := decide_eq_true (by omega)
      have p1 : 0 ≤ (i : Int) := by omega
      have q1 : (i : Int) < (l0.length : Int) := by omega
      have p2 : 0 ≤ (i : Int) + 1 := by omega
      have q2 : (i : Int) + 1 < (l0.length : Int) := by omega
      obtain ⟨ad, ead, hx⟩ := Kd.at_int HR0.out (i : Int) p1 q1
      cases ead
      obtain ⟨ad2, ead2, hy⟩ := Kd.at_int HR0.out ((i : Int) + 1) p2 q2
      cases ead2
      rw [Int.toNat_natCast] at hx
      replace hx := (HB.out.cell (World.block_lt_of_cell? w _ hx)).trans hx
      replace hy := (HB.out.cell (World.block_lt_of_cell? w _ hy)).trans hy
      have hy2 : wr.cell? (ad.add (i + 1)) = some (.int .u64 (rd l0 ((i : Int) + 1))) := by rw [← hy]; congr 2
      go_wp2
      refine region_still_tail_w 10 (by kernel_rfl) (by kernel_rfl) (fun w2 hw2 => ?_)
      have hx3 : w2.cell? (ad.add i) = some (.int .u64 (rd l0 (i : Int))) := by rw [hw2]; exact hx
      have hy3 : w2.cell? (ad.add (i + 1)) = some (.int .u64 (rd l0 ((i : Int) + 1))) := by rw [hw2]; exact hy2
      have HG2 := Aside0.mk (show w2.heap[w.heap.size]? = some (.cells #[v] 35 (0, 0)) by rw [hw2]; exact HG.out)
      have HO2 := Aside0.mk (show Kd.R (Kd.int .u8) 5 w2 w.heap.size (fun _ => True) v (beRow (l0.take i)) by rw [hw2]; exact Kd.R_drew HO.out)
      have HB2 := Aside0.mk (show Below w.heap.size w w2 by rw [hw2]; exact below_drew HB.out)
      have hy4 : w2.cell? ⟨ad.block, ad.off + (i + 1), none⟩ = some (.int .u64 (rd l0 ((i : Int) + 1))) := by rw [← hy3]; simp [Addr.add]
      clear hx hy hy2 hw2 HG HO HB
      have hwk : IntKind.i64.wrap ((i : Int) + 1) = (i : Int) + 1 := (i64_w _).trans hwr
      simp only [List.take_succ_cons, List.take_zero, List.drop_succ_cons, List.drop_zero]
      repeat still_step
      refine wpStill_nil ?_
      have hk1 := HK.out.2 i (by omega)
      have hk2 := HK.out.2 (i + 1) (by omega)
      have hrow : (beRow (l0.take i)).length ≤ 100000 := by have := beRow_len (l0.take i); have := HL.out; rw [List.length_take] at *; omega
      have hr1 : rd l0 (i : Int) = l0.getD i 0 := by unfold rd; rw [Int.toNat_natCast]
      have hr2 : rd l0 ((i : Int) + 1) = l0.getD (i + 1) 0 := by unfold rd; congr 1
      have HN := Aside0.mk (show beRow (l0.take (i + 2)) = beRow (l0.take i) ++ beBytes (wid (rd l0 (i : Int))) (rd l0 ((i : Int) + 1)) by
        have h1 := HI.out
        have h2 := beRow_take l0 j (by omega)
        rw [hr1, hr2, show i + 2 = 2 * (j + 1) by omega, h1, h2]
        have h3 := hk1.2.2 (by omega)
        rw [h1] at h3
        congr 2
        unfold mn
        rw [if_neg (by omega)])
      have HC := Aside0.mk (lay_calls (rd l0 (i : Int)) (rd l0 ((i : Int) + 1)) w.heap.size v (beRow (l0.take i)) w w2 HG2.out HO2.out HB2.out (Nat.le_refl _) hrow (by rw [hr2]; exact ⟨hk2.1, hk2.2.1⟩) (by rw [hr1]; exact hk1.1) (by rw [hr1]; exact hk1.2.2 (by have := HI.out; omega)))
      clear hk1 hk2 hr1 hr2 hrow HG2 HO2 HB2
      go_wp2_with fail
      refine HC.out.mono ?_
      rintro e W' ⟨rfl, v', hg', ho', hb'⟩
      rw [← HN.out] at ho'
      have HG3 := Aside0.mk hg'
      have HO3 := Aside0.mk ho'
      have HB3 := Aside0.mk hb'
      clear hg' ho' hb' HC hy4
      go_wp2
      go_roundg (l0.length - j)
      case measure => have := HQ.out; have := HI.out; have := HJ.out; omega
      case rel => exact ⟨i + 2, j + 1, v', by first | rfl | (simp; done) | (congr 1; done) | (congr 1; omega), ⟨by have := HI.out; omega⟩, ⟨by omega⟩, ⟨by have := HI.out; have := HJ.out; omega⟩, HG3, HO3, HB3⟩
    · have t1 : decide ((i : Int) + 1 < (l0.length : Int)) = false := decide_eq_false (by omega)
      obtain ⟨A1, c1, hv1⟩ := Kd.R_slice HO.out
      have hcell : wr.cell? ⟨w.heap.size, 0, none⟩ = some v := by have := HG.out; simp [World.cell?, this]
      have HE := Aside0.mk (show Kd.R (Kd.int .u8) 5 wr w.heap.size (fun _ => True) v (beRow l0) by
        have h1 := HI.out
        have h2 := HJ.out
        have h3 := HK.out.1
        have h4 := HO.out
        rwa [show i = l0.length by omega, List.take_length] at h4)
      subst hv1
      clear HO
      go_wp2
      go_ret
      exact ⟨_, rfl, HE.out, HB.out⟩

end Go.Proofs.Ytmlkkdopogcggaa.Hp
