import Derived.Test.YtnopjcakilfepaaC12
namespace Go.Proofs.Ytnopjcakilfepaa.QS
set_option linter.unusedVariables false
set_option linter.unusedSimpArgs false
open Go.RowKit Go.Proofs.Ytnopjcakilfepaa.SS Go.Proofs.Ytnopjcakilfepaa.Hp Go.Proofs.YtnopjcakilfepaaW.PrintWords Go.Proofs.YtnopjcakilfepaaW.PrintLast Go.Proofs.YtnopjcakilfepaaW.PrintMore
theorem find_at {so : R0 → Bool} : ∀ (l : List R0) (i : Nat) (h : i < l.length), (∀ x ∈ l.take i, so x = false) → so l[i] = true → l.find? so = some l[i]
  | [], i, h, _, _ => by simp at h
  | y :: r, 0, h, _, h2 => by
    have h2' : so y = true := h2
    simp [h2']
  | y :: r, i + 1, h, h1, h2 => by
    have hy : so y = false := h1 y (by simp)
    have ih := find_at (so := so) r i (by simpa using h) (fun x hx => h1 x (by simp [hx])) (by simpa using h2)
    rw [List.find?_cons, hy]
    simpa using ih
theorem find_at' {so : R0 → Bool} {l : List R0} {i : Nat} {x : R0} (hx : l[i]? = some x) (h1 : ∀ y ∈ l.take i, so y = false) (h2 : so x = true) : l.find? so = some x := by
  obtain ⟨h, e⟩ := List.getElem?_eq_some_iff.1 hx
  rw [← e]
  exact find_at l i h h1 (by rw [e]; exact h2)
set_option maxHeartbeats 4000000 in
set_option maxRecDepth 100000 in
theorem ixf_calls (K : FuncId) (fn : Func) (caps : Array Value) (hK : Try.prog.funcs[K]? = some fn) (hname : (fn.name == "runtime.NumGoroutine") = false) (hbody : fn.body.isSome = true) (so : R0 → Bool) (l : List R0) (A : Option Addr) (cp : Nat) (w : World) (hn : l.length ≤ 1000) (hC : Kd.C k29 w A l.length l)
    (hso : ∀ W, Below w.heap.size w W → ∀ (x : R0) (Ap : Option Addr) (cpp : Nat), Calls Try.prog K (#[.agg #[.int .u64 x.f0, .int .u64 x.f1, .int .i64 x.f2, .int .i64 x.f3, .int .u64 x.f4, .bool x.f5, .int .i64 x.f6, .slice Ap x.f7.length cpp]] ++ caps) W fun e w' => e = .returned (.bool (so x)) ∧ Below W.heap.size W w') :
    Calls Try.prog 74 #[.slice A l.length cp, .func (.func K) #[] caps] w fun e w' => ∃ i : Int, e = .returned (.int .i64 i) ∧ ((i = -1 ∧ l.find? so = none) ∨ ∃ (k : Nat) (x : R0), i = (k : Int) ∧ l[k]? = some x ∧ l.find? so = some x) ∧ Below w.heap.size w w' := by
  have HR := Aside0.mk hC
  have HN := Aside0.mk hn
  have HSO := Aside0.mk hso
  have hcf := fun (args : Array Value) (W : World) => enters_ (P := Try.prog) hK hname hbody args W
  clear hC hn hso hK hname hbody
  go_enter Try.func74, Try.ntmps74
  go_wp2_with fail
  go_loopg [8] (l.length + 1) (fun kq v8 w' => ∃ i : Nat, v8 = .int .i64 (i : Int) ∧ Aside0 (i ≤ l.length ∧ kq + i = l.length + 1) ∧ Aside0 (∀ x ∈ l.take i, so x = false) ∧ Aside0 (Below w.heap.size w w'))
  case atStart => exact ⟨0, rfl, ⟨Nat.zero_le _, rfl⟩, ⟨by simp⟩, ⟨Below.refl _ _⟩⟩
  case round =>
    obtain ⟨i, rfl, HI, HO, BB⟩ := hrel
    by_cases hi : i < l.length
    case neg =>
      have hie : i = l.length := by have := HI.out; omega
      subst hie
      have t1 : decide ((l.length : Int) < (l.length : Int)) = false := decide_eq_false (by omega)
      have ho : l.find? so = none := by rw [List.find?_eq_none]; intro x hx; have := HO.out x (by rw [List.take_length]; exact hx); rw [this]; decide
      replace ho := Aside0.mk ho
      clear HO hi
      go_wp2_with fail
      go_ret
      exact ⟨-1, rfl, .inl ⟨rfl, ho.out⟩, BB.out⟩
    case pos =>
      have t1 : decide ((i : Int) < (l.length : Int)) = true := decide_eq_true (by omega)
      have t2 : decide (i < l.length) = true := decide_eq_true hi
      obtain ⟨ad, Ap, cpp, rfl, hx0, hx1, hx2, hx3, hx4, hx5, hx6, hx7, hlp, hCp⟩ := at_T29 (Kd.C_below HR.out BB.out) (i : Int) (by omega) (by omega)
      obtain ⟨x, hxe⟩ : ∃ x, x = l[i] := ⟨_, rfl⟩
      have hrd : rd_T29 l (i : Int) = x := by
        unfold rd_T29
        rw [hxe, Int.toNat_natCast, List.getD_eq_getElem?_getD, List.getElem?_eq_getElem hi]
        rfl
      rw [hrd] at hx0 hx1 hx2 hx3 hx4 hx5 hx6 hx7 hlp hCp
      rw [Int.toNat_natCast] at hx0 hx1 hx2 hx3 hx4 hx5 hx6 hx7
      have p1 := eq_true (show (0 : Int) ≤ (i : Int) by omega)
      have q1 := eq_true (show (i : Int) < (l.length : Int) by omega)
      have hsc := HSO.out wr BB.out x Ap cpp
      have HI2 := Aside0.mk hi
      have HXE := Aside0.mk (show l[i]? = some x by rw [List.getElem?_eq_getElem hi, hxe])
      have HWI : IntKind.i64.wrap ((i : Int) + 1) = ((i + 1 : Nat) : Int) := by rw [i64_w]; unfold wrap64; have := HN.out; omega
      clear hlp hCp hrd hxe hi
      cases hsx : so x with
      | false =>
        rw [hsx] at hsc
        replace hsc := Aside0.mk hsc
        have HO2 : Aside0 (∀ y ∈ l.take (i + 1), so y = false) := ⟨fun y hy => by
          rw [List.take_add_one, HXE.out, List.mem_append] at hy
          rcases hy with hy | hy
          · exact HO.out y hy
          · have : y = x := by simpa using hy
            rw [this]; exact hsx⟩
        clear hsx
        go_wp2_with (refine hsc.out.mono ?_; rintro e w2 ⟨rfl, hb⟩; replace hb := Aside0.mk hb)
        go_roundg (l.length - i)
        case measure => have := HI.out; have := HI2.out; omega
        case rel => exact ⟨i + 1, by first | rfl | (rw [← i64_w, HWI]) | (simp; unfold wrap64; have := HI2.out; have := HN.out; omega), ⟨by have := HI2.out; omega, by have := HI.out; have := HI2.out; omega⟩, HO2, ⟨below_then BB.out BB.out.size hb.out⟩⟩
      | true =>
        rw [hsx] at hsc
        replace hsc := Aside0.mk hsc
        have HF := Aside0.mk (find_at' HXE.out HO.out hsx)
        clear hsx
        go_wp2_with (refine hsc.out.mono ?_; rintro e w2 ⟨rfl, hb⟩; replace hb := Aside0.mk hb)
        go_ret
        exact ⟨(i : Int), rfl, .inr ⟨i, x, rfl, HXE.out, HF.out⟩, below_then BB.out BB.out.size hb.out⟩
theorem put8_blk {W : World} {g : Nat} {d0 d1 d2 d3 d4 d5 d6 d7 : Value} {t : TypeId} (hz : W.heap[g]? = some (.cells #[d0, d1, d2, d3, d4, d5, d6, d7] t (0, 0))) (y : R0) (A7 : Option Addr) (c7 : Nat) :
    ((((((((W.setCell ⟨g, 0, none⟩ (.int .u64 y.f0)).setCell ⟨g, 1, none⟩ (.int .u64 y.f1)).setCell ⟨g, 2, none⟩ (.int .i64 y.f2)).setCell ⟨g, 3, none⟩ (.int .i64 y.f3)).setCell ⟨g, 4, none⟩ (.int .u64 y.f4)).setCell ⟨g, 5, none⟩ (.bool y.f5)).setCell ⟨g, 6, none⟩ (.int .i64 y.f6)).setCell ⟨g, 7, none⟩ (.slice A7 y.f7.length c7)).heap[g]? = some (.cells #[.int .u64 y.f0, .int .u64 y.f1, .int .i64 y.f2, .int .i64 y.f3, .int .u64 y.f4, .bool y.f5, .int .i64 y.f6, .slice A7 y.f7.length c7] t (0, 0)) := by
  have h0 := blk_put hz 0 (.int .u64 y.f0) (cs' := #[.int .u64 y.f0, d1, d2, d3, d4, d5, d6, d7]) rfl
  have h1 := blk_put h0 1 (.int .u64 y.f1) (cs' := #[.int .u64 y.f0, .int .u64 y.f1, d2, d3, d4, d5, d6, d7]) rfl
  have h2 := blk_put h1 2 (.int .i64 y.f2) (cs' := #[.int .u64 y.f0, .int .u64 y.f1, .int .i64 y.f2, d3, d4, d5, d6, d7]) rfl
  have h3 := blk_put h2 3 (.int .i64 y.f3) (cs' := #[.int .u64 y.f0, .int .u64 y.f1, .int .i64 y.f2, .int .i64 y.f3, d4, d5, d6, d7]) rfl
  have h4 := blk_put h3 4 (.int .u64 y.f4) (cs' := #[.int .u64 y.f0, .int .u64 y.f1, .int .i64 y.f2, .int .i64 y.f3, .int .u64 y.f4, d5, d6, d7]) rfl
  have h5 := blk_put h4 5 (.bool y.f5) (cs' := #[.int .u64 y.f0, .int .u64 y.f1, .int .i64 y.f2, .int .i64 y.f3, .int .u64 y.f4, .bool y.f5, d6, d7]) rfl
  have h6 := blk_put h5 6 (.int .i64 y.f6) (cs' := #[.int .u64 y.f0, .int .u64 y.f1, .int .i64 y.f2, .int .i64 y.f3, .int .u64 y.f4, .bool y.f5, .int .i64 y.f6, d7]) rfl
  have h7 := blk_put h6 7 (.slice A7 y.f7.length c7) (cs' := #[.int .u64 y.f0, .int .u64 y.f1, .int .i64 y.f2, .int .i64 y.f3, .int .u64 y.f4, .bool y.f5, .int .i64 y.f6, .slice A7 y.f7.length c7]) rfl
  exact h7
theorem put8_below {b : Nat} {W0 W : World} {g : Nat} (hb : Below b W0 W) (hg : b ≤ g) (y : R0) (A7 : Option Addr) (c7 : Nat) : Below b W0 ((((((((W.setCell ⟨g, 0, none⟩ (.int .u64 y.f0)).setCell ⟨g, 1, none⟩ (.int .u64 y.f1)).setCell ⟨g, 2, none⟩ (.int .i64 y.f2)).setCell ⟨g, 3, none⟩ (.int .i64 y.f3)).setCell ⟨g, 4, none⟩ (.int .u64 y.f4)).setCell ⟨g, 5, none⟩ (.bool y.f5)).setCell ⟨g, 6, none⟩ (.int .i64 y.f6)).setCell ⟨g, 7, none⟩ (.slice A7 y.f7.length c7)) :=
  ((((((((hb.setCell (p := ⟨g, 0, none⟩) hg (.int .u64 y.f0)).setCell (p := ⟨g, 1, none⟩) hg (.int .u64 y.f1)).setCell (p := ⟨g, 2, none⟩) hg (.int .i64 y.f2)).setCell (p := ⟨g, 3, none⟩) hg (.int .i64 y.f3)).setCell (p := ⟨g, 4, none⟩) hg (.int .u64 y.f4)).setCell (p := ⟨g, 5, none⟩) hg (.bool y.f5)).setCell (p := ⟨g, 6, none⟩) hg (.int .i64 y.f6)).setCell (p := ⟨g, 7, none⟩) hg (.slice A7 y.f7.length c7))
def mineOf (on : Bool) (id I : Int) (l : List R0) : Option R0 := l.find? (mineB on id I)
set_option maxHeartbeats 8000000 in
set_option maxRecDepth 100000 in
theorem mine_calls (l : List R0) (hl : lightL l) (on pa : Bool) (id I : Int) (A : Option Addr) (cp : Nat) (w : World) (hC : Kd.C k29 w A l.length l) :
    Calls Try.prog 62 #[.agg #[.bool on, .bool pa, .int .u64 id, .int .i64 I], .slice A l.length cp] w fun e w' => ∃ (A7 : Option Addr) (c7 : Nat) (x : R0), e = .returned (.tuple #[.agg #[.int .u64 x.f0, .int .u64 x.f1, .int .i64 x.f2, .int .i64 x.f3, .int .u64 x.f4, .bool x.f5, .int .i64 x.f6, .slice A7 x.f7.length c7], .bool (mineOf on id I l).isSome]) ∧ x = (mineOf on id I l).getD z29 ∧
      x.f7.length ≤ c7 ∧ Kd.C (Kd.int .i64) w' A7 x.f7.length x.f7 ∧ (∀ ad, 0 < x.f7.length → A7 = some ad → w.heap.size ≤ ad.block) ∧ Below w.heap.size w w' := by
  have hmf : ∀ (fn : Fn) (first cap : Array Value) (w : World), (Instr.makeFunc fn first cap).run Try.prog w = .ok (.func fn first cap) w := fun _ _ _ _ => rfl
  have hz0 := heap_alloc_new w (.cells #[.bool on, .bool pa, .int .u64 id, .int .i64 I] 65)
  have hb0 := below_alloc (Below.refl w.heap.size w) (.cells #[.bool on, .bool pa, .int .u64 id, .int .i64 I] 65)
  have hz1 := heap_alloc_new (w.alloc (.cells #[.bool on, .bool pa, .int .u64 id, .int .i64 I] 65)) (.cells #[.int .u64 0, .int .u64 0, .int .i64 0, .int .i64 0, .int .u64 0, .bool false, .int .i64 0, .slice none 0 0] 29)
  have hb1 := below_alloc hb0 (.cells #[.int .u64 0, .int .u64 0, .int .i64 0, .int .i64 0, .int .u64 0, .bool false, .int .i64 0, .slice none 0 0] 29)
  have hz0' := blk_alloc hz0 (.cells #[.int .u64 0, .int .u64 0, .int .i64 0, .int .i64 0, .int .u64 0, .bool false, .int .i64 0, .slice none 0 0] 29)
  have hsz : (w.alloc (.cells #[.bool on, .bool pa, .int .u64 id, .int .i64 I] 65)).heap.size = w.heap.size + 1 := by simp
  rw [hsz] at hz1
  have hix := ixf_calls 75 _ #[.pointer (some ⟨w.heap.size, 0, none⟩)] Try.func75 (by kernel_rfl) rfl (mineB on id I) l A cp ((w.alloc (.cells #[.bool on, .bool pa, .int .u64 id, .int .i64 I] 65)).alloc (.cells #[.int .u64 0, .int .u64 0, .int .i64 0, .int .i64 0, .int .u64 0, .bool false, .int .i64 0, .slice none 0 0] 29)) hl.1 (Kd.C_below hC hb1) (fun W hW x Ap cpp => mine1_calls x Ap cpp on pa id I w.heap.size W (blk_below hz0' hW))
  replace hix := Aside0.mk hix
  have HR := Aside0.mk hC
  have HL := Aside0.mk hl
  obtain ⟨g, hg⟩ : ∃ g, g = w.heap.size + 1 := ⟨_, rfl⟩
  rw [← hg] at hz1
  have HZ := Aside0.mk hz1
  have HB1 := Aside0.mk hb1
  clear hC hl hz0 hz0' hb0 hz1 hb1 hsz
  go_enter Try.func62, Try.ntmps62
  go_upto_region 2 with (go_at_call 74; refine hix.out.mono ?_; rintro e w2 ⟨i, rfl, hi, hb⟩)
  have hz2 := blk_below HZ.out hb
  have hb2 := below_then HB1.out HB1.out.size hb
  have hgs : w.heap.size ≤ g := by omega
  have hgw : g < w2.heap.size := by
    have h1 := hb.size
    have h2 : g < ((w.alloc (.cells #[.bool on, .bool pa, .int .u64 id, .int .i64 I] 65)).alloc (.cells #[.int .u64 0, .int .u64 0, .int .i64 0, .int .i64 0, .int .u64 0, .bool false, .int .i64 0, .slice none 0 0] 29)).heap.size := by simp [hg]
    omega
  have e0 := blk_frozen hz2 0
  have d0 := blk_cell hz2 0
  have e1 := blk_frozen hz2 1
  have d1 := blk_cell hz2 1
  have e2 := blk_frozen hz2 2
  have d2 := blk_cell hz2 2
  have e3 := blk_frozen hz2 3
  have d3 := blk_cell hz2 3
  have e4 := blk_frozen hz2 4
  have d4 := blk_cell hz2 4
  have e5 := blk_frozen hz2 5
  have d5 := blk_cell hz2 5
  have e6 := blk_frozen hz2 6
  have d6 := blk_cell hz2 6
  have e7 := blk_frozen hz2 7
  have d7 := blk_cell hz2 7
  rw [← hg]
  clear hg
  rcases hi with ⟨rfl, hf⟩ | ⟨k, x, rfl, hkx, hf⟩
  case inl =>
    have HST := Aside0.mk (put8_blk hz2 z29 none 0)
    have HBS := Aside0.mk (put8_below hb2 hgs z29 none 0)
    have HM := Aside0.mk (show mineOf on id I l = none from hf)
    clear hz2 hb2 hb hf hgs hgw
    go_wp2_with fail
    refine bodyPost_ret (results_ct rfl _ _ g 29 _ (0, 0) _ _ rfl rfl HST.out Try.underlying29 rfl (by kernel_rfl)) rfl ?_
    exact ⟨none, 0, z29, by rw [HM.out] <;> rfl, by rw [HM.out] <;> rfl, Nat.le_refl _, Kd.C_nil _ _, fun ad h_ _ => absurd h_ (by decide), HBS.out⟩
  case inr =>
    obtain ⟨hk, hxe⟩ := List.getElem?_eq_some_iff.1 hkx
    obtain ⟨ad, Ap, cpp, rfl, hx0, hx1, hx2, hx3, hx4, hx5, hx6, hx7, hlp, hCp⟩ := at_T29 (Kd.C_below HR.out hb2) (k : Int) (by omega) (by omega)
    have hrd : rd_T29 l (k : Int) = x := by
      unfold rd_T29
      rw [Int.toNat_natCast, List.getD_eq_getElem?_getD, hkx]
      rfl
    rw [hrd] at hx0 hx1 hx2 hx3 hx4 hx5 hx6 hx7 hlp hCp
    rw [Int.toNat_natCast] at hx0 hx1 hx2 hx3 hx4 hx5 hx6 hx7
    have hxp := HL.out.2 x (by rw [← hxe]; exact List.getElem_mem hk)
    have t0 : decide ((k : Int) < 0) = false := decide_eq_false (by omega)
    have p1 := eq_true (show (0 : Int) ≤ (k : Int) by omega)
    have q1 := eq_true (show (k : Int) < (l.length : Int) by omega)
    have t2 : decide (k < l.length) = true := decide_eq_true hk
    have HM := Aside0.mk (show mineOf on id I l = some x from hf)
    have HB3 := Aside0.mk (below_alloc hb2 (.cells #[.int .u64 x.f0, .int .u64 x.f1, .int .i64 x.f2, .int .i64 x.f3, .int .u64 x.f4, .bool x.f5, .int .i64 x.f6, .slice Ap x.f7.length cpp] 29))
    have HZ3 := Aside0.mk (blk_alloc hz2 (.cells #[.int .u64 x.f0, .int .u64 x.f1, .int .i64 x.f2, .int .i64 x.f3, .int .u64 x.f4, .bool x.f5, .int .i64 x.f6, .slice Ap x.f7.length cpp] 29))
    have HN3 := Aside0.mk (heap_alloc_new w2 (.cells #[.int .u64 x.f0, .int .u64 x.f1, .int .i64 x.f2, .int .i64 x.f3, .int .u64 x.f4, .bool x.f5, .int .i64 x.f6, .slice Ap x.f7.length cpp] 29))
    have hC3 := Kd.C_below hCp (below_alloc (Below.refl w2.heap.size w2) (.cells #[.int .u64 x.f0, .int .u64 x.f1, .int .i64 x.f2, .int .i64 x.f3, .int .u64 x.f4, .bool x.f5, .int .i64 x.f6, .slice Ap x.f7.length cpp] 29))
    have HIC : Aside0 (∀ W, Below (w2.alloc (.cells #[.int .u64 x.f0, .int .u64 x.f1, .int .i64 x.f2, .int .i64 x.f3, .int .u64 x.f4, .bool x.f5, .int .i64 x.f6, .slice Ap x.f7.length cpp] 29)).heap.size (w2.alloc (.cells #[.int .u64 x.f0, .int .u64 x.f1, .int .i64 x.f2, .int .i64 x.f3, .int .u64 x.f4, .bool x.f5, .int .i64 x.f6, .slice Ap x.f7.length cpp] 29)) W → _) := ⟨fun W hW => iclone_calls Ap cpp x.f7 W (by omega) (Kd.C_below hC3 hW)⟩
    have HS3 : Aside0 (w2.heap.size < (w2.alloc (.cells #[.int .u64 x.f0, .int .u64 x.f1, .int .i64 x.f2, .int .i64 x.f3, .int .u64 x.f4, .bool x.f5, .int .i64 x.f6, .slice Ap x.f7.length cpp] 29)).heap.size) := ⟨by simp⟩
    have HN := Aside0.mk (And.intro hlp (And.intro hxp (And.intro hgw hgs)))
    obtain ⟨h7, hh7⟩ : ∃ h7, h7 = w2.heap.size := ⟨_, rfl⟩
    have HH := Aside0.mk hh7
    clear hz2 hb2 hb hf hrd hxe hkx hlp hCp hxp hgs hgw hk hC3
    go_upto_region 5 with fail
    generalize w2.alloc (.cells #[.int .u64 x.f0, .int .u64 x.f1, .int .i64 x.f2, .int .i64 x.f3, .int .u64 x.f4, .bool x.f5, .int .i64 x.f6, .slice Ap x.f7.length cpp] 29) = W3 at HB3 HZ3 HN3 HIC HS3 ⊢
    rw [← hh7] at HN3 HS3 ⊢
    clear hh7 e0 e1 e2 e3 e4 e5 e6 e7 d0 d1 d2 d3 d4 d5 d6 d7 hx0 hx1 hx2 hx3 hx4 hx5 hx6 hx7
    have c7 := blk_cell HN3.out 7
    go_upto_region 6 with (go_at_call 68; refine (HIC.out _ (Below.refl _ _)).mono ?_; rintro e w4 ⟨v7, rfl, hr7, hb⟩; obtain ⟨A7, cp7, rfl⟩ := Kd.R_slice hr7; have hn4 := blk_below HN3.out hb; have k7 := blk_cell hn4 7; have f7 := blk_frozen hn4 7; replace hr7 := Aside0.mk hr7; replace hb := Aside0.mk hb)
    have hn4' := blk_put hn4 7 (.slice A7 x.f7.length cp7) (cs' := #[.int .u64 x.f0, .int .u64 x.f1, .int .i64 x.f2, .int .i64 x.f3, .int .u64 x.f4, .bool x.f5, .int .i64 x.f6, .slice A7 x.f7.length cp7]) rfl
    have hne7 : ∀ k, W3.heap.size ≤ k → k ≠ h7 := fun k hk => by have := HS3.out; omega
    have H7 := Kd.R_far (p := ⟨h7, 7, none⟩) hr7.out hne7 (.slice A7 x.f7.length cp7)
    have HZ5 := blk_far (blk_below HZ3.out hb.out) (p := ⟨h7, 7, none⟩) (show g ≠ h7 by have := HH.out; have := HN.out.2.2.1; omega) (.slice A7 x.f7.length cp7)
    have HB5 := (below_then HB3.out HB3.out.size hb.out).setCell (p := ⟨h7, 7, none⟩) (show w.heap.size ≤ h7 by have := HH.out; have := HN.out.2.2; omega) (.slice A7 x.f7.length cp7)
    have hs5 : W3.heap.size ≤ (w4.setCell ⟨h7, 7, none⟩ (.slice A7 x.f7.length cp7)).heap.size := by have := hb.out.size; simpa using this
    generalize w4.setCell ⟨h7, 7, none⟩ (.slice A7 x.f7.length cp7) = w5 at hn4' H7 HZ5 HB5 hs5 ⊢
    clear hn4 k7 f7 c7 hr7 hb
    obtain ⟨_, hl7, hC7⟩ := Kd.R_reads' H7
    have hne : ∀ ad, 0 < x.f7.length → A7 = some ad → ad.block ≠ g := fun ad _ h => by
      subst h
      have h1 := Kd.R_base H7 ad.block rfl
      have h2 := HS3.out
      have h3 := HH.out
      have h4 := HN.out.2.2.1
      try simp at h1
      omega
    have HN7 : Aside0 (∀ ad, 0 < x.f7.length → A7 = some ad → w.heap.size ≤ ad.block) := ⟨fun ad _ h => by
      subst h
      have h1 := Kd.R_base H7 ad.block rfl
      have h2 := HS3.out
      have h3 := HH.out
      have h4 := HN.out.2.2
      try simp at h1
      omega⟩
    have HCF := Aside0.mk (c_far8 hC7 hne (.int .u64 x.f0) (.int .u64 x.f1) (.int .i64 x.f2) (.int .i64 x.f3) (.int .u64 x.f4) (.bool x.f5) (.int .i64 x.f6) (.slice A7 x.f7.length cp7))
    have HST := Aside0.mk (put8_blk HZ5 x A7 cp7)
    have HBS := Aside0.mk (put8_below HB5 HN.out.2.2.2 x A7 cp7)
    have HL7 := Aside0.mk hl7
    have y0 := blk_cell hn4' 0
    have d0 := blk_cell HZ5 0
    have e0 := blk_frozen HZ5 0
    have y1 := blk_cell hn4' 1
    have d1 := blk_cell HZ5 1
    have e1 := blk_frozen HZ5 1
    have y2 := blk_cell hn4' 2
    have d2 := blk_cell HZ5 2
    have e2 := blk_frozen HZ5 2
    have y3 := blk_cell hn4' 3
    have d3 := blk_cell HZ5 3
    have e3 := blk_frozen HZ5 3
    have y4 := blk_cell hn4' 4
    have d4 := blk_cell HZ5 4
    have e4 := blk_frozen HZ5 4
    have y5 := blk_cell hn4' 5
    have d5 := blk_cell HZ5 5
    have e5 := blk_frozen HZ5 5
    have y6 := blk_cell hn4' 6
    have d6 := blk_cell HZ5 6
    have e6 := blk_frozen HZ5 6
    have y7 := blk_cell hn4' 7
    have d7 := blk_cell HZ5 7
    have e7 := blk_frozen HZ5 7
    clear hn4' H7 HZ5 HB5 hs5 hne7 hne hC7 hl7
    go_wp2_with fail
    refine bodyPost_ret (results_ct rfl _ _ g 29 _ (0, 0) _ _ rfl rfl HST.out Try.underlying29 rfl (by kernel_rfl)) rfl ?_
    exact ⟨A7, cp7, x, by rw [HM.out] <;> rfl, by rw [HM.out] <;> rfl, HL7.out, HCF.out, HN7.out, HBS.out⟩
end Go.Proofs.Ytnopjcakilfepaa.QS
