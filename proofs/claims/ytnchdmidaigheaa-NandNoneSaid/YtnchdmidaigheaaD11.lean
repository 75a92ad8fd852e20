/- The law's awake, walked. -/
import Derived.Test.YtnchdmidaigheaaD7
import Derived.Test.YtnchdmidaigheaaD8
import Derived.Test.YtnchdmidaigheaaD10
namespace Go.Proofs.Ytnchdmidaigheaa.ND
set_option linter.unusedVariables false
set_option linter.unusedSimpArgs false
open Go.RowKit Go.Proofs.Ytnchdmidaigheaa.Hp Go.Proofs.YtnchdmidaigheaaW.PrintWords Go.Proofs.YtnchdmidaigheaaW.PrintLast Go.Proofs.YtnchdmidaigheaaW.PrintMore
theorem lit1_int {W : World} {g T : Nat} {k : IntKind} {x : Int} (h : W.heap[g]? = some (.cells #[.int k x] T (0, 0))) : Kd.C (Kd.int k) W (some ⟨g, 0, none⟩) 1 [x] :=
  ⟨rfl, by decide, fun _ => ⟨_, rfl, fun j p hp => by
    have hj : j = 0 := by have := (List.getElem?_eq_some_iff.1 hp).1; simp at this; exact this
    subst hj
    obtain rfl : x = p := by simpa using hp
    exact ⟨[.int k x], rfl, rfl, fun i u hu => by
      have hi : i = 0 := by have := (List.getElem?_eq_some_iff.1 hu).1; simp at this; exact this
      subst hi
      rw [add_plain]
      exact (blk_cell h 0).trans hu⟩⟩⟩
theorem lit1_fault {W : World} {g T : Nat} {x : Flt} {A : Option Addr} {c : Nat} (h : W.heap[g]? = some (.cells #[.int .i64 x.f0, .int .i64 x.f1, .slice A x.f2.length c] T (0, 0))) (hc : x.f2.length ≤ c) (hm : Kd.C (Kd.int .u8) W A x.f2.length x.f2) : Kd.C k65 W (some ⟨g, 0, none⟩) 1 [x] :=
  ⟨rfl, by decide, fun _ => ⟨_, rfl, fun j p hp => by
    have hj : j = 0 := by have := (List.getElem?_eq_some_iff.1 hp).1; simp at this; exact this
    subst hj
    obtain rfl : x = p := by simpa using hp
    exact ⟨_, rfl, k65_mk W x hc hm, fun i u hu => by
      have hi : i < 3 := (List.getElem?_eq_some_iff.1 hu).1
      rw [add_plain, blk_cell h, ← hu]
      rw [show 0 * k65.sz + i = i by rw [Nat.zero_mul, Nat.zero_add]]
      rw [← List.getElem?_toArray]⟩⟩⟩
/-- a device of the call's own -/
def Held (W w : World) (L : Lay) (D : Dv) : Prop := (∃ ok, DV w ok L D) ∧ Below W.heap.size W w ∧ ∀ k, L.S k → W.heap.size ≤ k
theorem Held.below {W w w' : World} {L : Lay} {D : Dv} (h : Held W w L D) (hb : Below w.heap.size w w') : Held W w' L D := by
  obtain ⟨⟨ok, hD⟩, h2, h3⟩ := h
  exact ⟨⟨ok, hD.below hb⟩, below_then h2 h2.size hb, h3⟩
theorem Held.turn {W w w' : World} {L : Lay} {D D' : Dv} {ok' : Nat → Prop} (h : Held W w L D) (hD : DV w' ok' L D') (hT : Turn w w' L.S) : Held W w' L D' :=
  ⟨⟨ok', hD⟩, hT.to_below h.2.1 h.2.1.size h.2.2, h.2.2⟩
theorem Held.lt {W w : World} {L : Lay} {D : Dv} (h : Held W w L D) : ∀ k, L.S k → k < w.heap.size := by obtain ⟨⟨ok, hD⟩, _, _⟩ := h; exact hD.lt
theorem held_new {W w w' : World} {B P C : Int} {bad : List Int} {fs : List Flt} {e : Ending} (h : NewTo w B P C bad fs e w') (h0 : Below W.heap.size W w) (hg : rightG B P C = true) : ∃ L : Lay, e = .returned (.tuple #[.pointer (some ⟨L.g, 0, none⟩), .int .i64 0]) ∧ Held W w' L (newDv B P C bad fs) := by
  obtain ⟨L, e1, hD, hL⟩ := h.2.1 hg
  exact ⟨L, e1, ⟨_, hD⟩, below_then h0 h0.size h.1, fun k hk => Nat.le_trans h0.size (hL k (.inl hk))⟩
theorem held_prog {W w : World} {L : Lay} {D : Dv} {okl : Nat → Prop} (h : Held W w L D) (b p : Int) (l : List Int) (A : Option Addr) (c : Nat) (hc : l.length ≤ c) (hl : isBytes l) (gl : Kd.F (Kd.int .u8) w okl A l.length l) (hno : ∀ k, okl k → k < w.heap.size → ¬ L.S k) :
    Calls Try.prog 17 #[.pointer (some ⟨L.g, 0, none⟩), .agg #[.int .i64 b, .int .i64 p], .slice A l.length c] w fun e w' => e = .returned (.int .i64 (D.prog b p l).1) ∧ Held W w' L (D.prog b p l).2 ∧ Turn w w' L.S := by
  obtain ⟨ok, hD⟩ := h.1
  refine (program_calls hD b p l A c hc hl gl hno).mono ?_
  rintro e w' ⟨rfl, h1, h2⟩
  exact ⟨rfl, h.turn h1 h2, h2⟩
theorem held_erase {W w : World} {L : Lay} {D : Dv} (h : Held W w L D) (b : Int) :
    Calls Try.prog 16 #[.pointer (some ⟨L.g, 0, none⟩), .int .i64 b] w fun e w' => e = .returned (.int .i64 (D.erase b).1) ∧ Held W w' L (D.erase b).2 ∧ Turn w w' L.S := by
  obtain ⟨ok, hD⟩ := h.1
  refine (erase_calls hD b).mono ?_
  rintro e w' ⟨rfl, h1, h2⟩
  exact ⟨rfl, h.turn h1 h2, h2⟩
theorem held_power {W w : World} {L : Lay} {D : Dv} (h : Held W w L D) :
    Calls Try.prog 19 #[.pointer (some ⟨L.g, 0, none⟩)] w fun e w' => e = .returned (.tuple #[]) ∧ Held W w' L D.power ∧ Turn w w' L.S := by
  obtain ⟨ok, hD⟩ := h.1
  refine (power_calls hD).mono ?_
  rintro e w' ⟨rfl, h1, h2⟩
  exact ⟨rfl, h.turn h1 h2, h2⟩
theorem Held.dv {W w : World} {L : Lay} {D : Dv} (h : Held W w L D) : ∃ ok, DV w ok L D := h.1
def zs : List Int := List.replicate 256 0
def aF : Flt := ⟨1, 2, [15]⟩
def a0 : Dv := newDv 8 4 0 [3] [aF]
def a1 : Dv := (a0.prog 2 1 zs).2
def a2 : Dv := (a1.prog 2 0 zs).2
def a3 : Dv := (a2.prog 2 1 zs).2
def a4 : Dv := a3.power
theorem aw1 : (a0.prog 2 1 zs).1 = 11 := by decide +kernel
theorem aw2 : (a1.prog 2 0 zs).1 = 0 := by decide +kernel
theorem aw3 : (a2.prog 2 1 zs).1 = 9 := by decide +kernel
theorem aw4 : a3.down = true := by decide +kernel
theorem aw5 : (a4.read 2 1).2 = 0 := by decide +kernel
theorem aw6 : ((a4.read 2 1).1)[0]? = some 240 := by decide +kernel
theorem aw7 : (a4.there 3 && a4.mark 3) = true := by decide +kernel
theorem aw8 : a4.nextOf 2 = 2 := by decide +kernel
theorem aw9 : a4.ops = 2 := by decide +kernel
theorem aw10 : (a4.erase 3).1 = 12 := by decide +kernel
set_option maxHeartbeats 2000000 in
set_option maxRecDepth 100000 in
theorem awake_calls (W : World) : Calls Try.prog 13 #[] W fun e w' => e = .returned (.bool true) ∧ Below W.heap.size W w' := by
  have hz1 := heap_alloc_new W (.cells #[.int .i64 3] 3)
  have hb1 := below_alloc (Below.refl W.heap.size W) (.cells #[.int .i64 3] 3)
  generalize hW1 : W.alloc (.cells #[.int .i64 3] 3) = W1 at hz1 hb1
  have hz2 := heap_alloc_new W1 (.cells #[.int .u8 15] 5)
  have hb2 := below_alloc hb1 (.cells #[.int .u8 15] 5)
  have hz1' := blk_alloc hz1 (.cells #[.int .u8 15] 5)
  generalize hW2 : W1.alloc (.cells #[.int .u8 15] 5) = W2 at hz2 hb2 hz1'
  have hz3 := heap_alloc_new W2 (.cells #[.int .i64 1, .int .i64 2, .slice (some ⟨W1.heap.size, 0, none⟩) 1 1] 65)
  have hb3 := below_alloc hb2 (.cells #[.int .i64 1, .int .i64 2, .slice (some ⟨W1.heap.size, 0, none⟩) 1 1] 65)
  have hz1'' := blk_alloc hz1' (.cells #[.int .i64 1, .int .i64 2, .slice (some ⟨W1.heap.size, 0, none⟩) 1 1] 65)
  have hz2' := blk_alloc hz2 (.cells #[.int .i64 1, .int .i64 2, .slice (some ⟨W1.heap.size, 0, none⟩) 1 1] 65)
  have hs1 : W1.heap.size = W.heap.size + 1 := by rw [← hW1]; simp
  have hs2 : W2.heap.size = W.heap.size + 1 + 1 := by rw [← hW2]; simp [hs1]
  have HNW := Aside0.mk (new_calls 8 4 0 [3] [aF] (some ⟨W.heap.size, 0, none⟩) (some ⟨W2.heap.size, 0, none⟩) 1 1 (lit1_int hz1'') (lit1_fault (x := aF) hz3 (Nat.le_refl _) (lit1_int hz2')) (by decide) (by decide) (fun f hf => by
    rw [List.mem_singleton.1 hf]; decide))
  rw [hs2] at HNW
  have HB3 := Aside0.mk hb3
  subst hW2
  subst hW1
  rw [hs1] at HNW HB3
  clear hz1 hb1 hz2 hb2 hz1' hz3 hb3 hz1'' hz2' hs1 hs2
  go_enter Try.func13, Try.ntmps13
  go_upto_region 2 with (go_at_call 14; refine HNW.out.mono ?_; rintro e w3 hnw; obtain ⟨L, rfl, hD⟩ := held_new hnw HB3.out (by decide); have HD := Aside0.mk hD; clear hnw hD)
  replace HD : Aside0 (Held W w3 L a0) := ⟨HD.out⟩
  clear HNW HB3
  go_upto_region 5 with (at_make; refine Kd.R_make (Kd.int .u8) (w0 := w3) w3.heap.size 5 rfl rfl 38 _ _ rfl 256 rfl rfl Try.underlying38 (.int .u8 0) 1 (by kernel_rfl) rfl (by decide) (by decide) 0 (ok := fun k => w3.heap.size ≤ k) (okp := fun _ => False) rfl (fun k hk => hk.elim) (Nat.le_refl _) (by decide) (by decide) (Below.refl _ _) (Nat.le_refl _) ?_; intro v1 w4 hR4 hb4 hg4 hat4; have HR4 := Aside0.mk (And.intro hR4 hb4); clear hR4 hb4 hg4 hat4)
  have H4 := Aside0.mk (HD.out.below HR4.out.2)
  obtain ⟨z, hz⟩ : ∃ z, z = zs := ⟨_, rfl⟩
  have hR : Kd.R (Kd.int .u8) 5 w4 w3.heap.size (fun k => w3.heap.size ≤ k) v1 z := by rw [hz]; exact HR4.out.1
  obtain ⟨A, c, rfl, hc, _⟩ := Kd.R_reads hR
  have HZ : Aside0 (z.length ≤ c ∧ isBytes z ∧ z = zs) := ⟨hc, by rw [hz]; exact fun x hx => by obtain ⟨_, rfl⟩ := List.mem_replicate.1 hx; omega, hz⟩
  have F4 := Aside0.mk (Kd.R_F hR)
  have HNO : Aside0 (∀ k, w3.heap.size ≤ k → ¬ L.S k) := ⟨fun k hk hS => by have := HD.out.lt k hS; omega⟩
  have HP := Aside0.mk (held_prog H4.out 2 1 z A c HZ.out.1 HZ.out.2.1 F4.out (fun k hk _ => HNO.out k hk))
  clear hz hR hc HR4 HD
  go_upto_region 6 with (go_at_call 17; refine HP.out.mono ?_; rintro e w5 ⟨rfl, hD, hT⟩; have H5 := Aside0.mk hD; have F5 := Aside0.mk (F_turn F4.out hT (fun k hk _ => HNO.out k hk)); clear hD hT)
  clear HP H4 F4
  replace H5 : Aside0 (Held W w5 L a1) := ⟨by have := H5.out; rwa [HZ.out.2.2] at this⟩
  have HP := Aside0.mk (held_prog H5.out 2 0 z A c HZ.out.1 HZ.out.2.1 F5.out (fun k hk _ => HNO.out k hk))
  go_upto_region 7 with (go_at_call 17; refine HP.out.mono ?_; rintro e w6 ⟨rfl, hD, hT⟩; have H6 := Aside0.mk hD; have F6 := Aside0.mk (F_turn F5.out hT (fun k hk _ => HNO.out k hk)); clear hD hT)
  clear HP H5 F5
  replace H6 : Aside0 (Held W w6 L a2) := ⟨by have := H6.out; rwa [HZ.out.2.2] at this⟩
  have HP := Aside0.mk (held_prog H6.out 2 1 z A c HZ.out.1 HZ.out.2.1 F6.out (fun k hk _ => HNO.out k hk))
  go_upto_region 8 with (go_at_call 17; refine HP.out.mono ?_; rintro e w7 ⟨rfl, hD, hT⟩; have H7 := Aside0.mk hD; clear hD hT)
  clear HP H6 F6
  replace H7 : Aside0 (Held W w7 L a3) := ⟨by have := H7.out; rwa [HZ.out.2.2] at this⟩
  rw [show (a0.prog 2 1 z).1 = 11 by rw [HZ.out.2.2]; exact aw1, show (a1.prog 2 0 z).1 = 0 by rw [HZ.out.2.2]; exact aw2, show (a2.prog 2 1 z).1 = 9 by rw [HZ.out.2.2]; exact aw3]
  obtain ⟨ok7, hD7⟩ := H7.out.dv
  have HDN := Aside0.mk (down_calls hD7)
  rw [aw4] at HDN
  clear hD7
  go_upto_region 9 with (go_at_call 29; refine HDN.out.mono ?_; rintro e w8 ⟨rfl, hb⟩; have H8 := Aside0.mk (H7.out.below hb); clear hb)
  have HPW := Aside0.mk (held_power H8.out)
  go_upto_region 10 with (go_at_call 19; refine HPW.out.mono ?_; rintro e w9 ⟨rfl, hD, hT⟩; have H9 : Aside0 (Held W w9 L a4) := ⟨hD⟩; clear hD hT)
  obtain ⟨ok9, hD9⟩ := H9.out.dv
  have HRD := Aside0.mk (read_calls hD9 2 1)
  obtain ⟨rd, hrd⟩ : ∃ r, r = a4.read 2 1 := ⟨_, rfl⟩
  rw [← hrd] at HRD
  have HR6 : Aside0 (rd.2 = 0 ∧ rd.1[0]? = some 240) := ⟨by rw [hrd]; exact aw5, by rw [hrd]; exact aw6⟩
  clear hD9 hrd H7 H8 HDN HPW
  go_upto_region 11 with (go_at_call 21; refine HRD.out.mono ?_; rintro e w10 ⟨A6, c6, rfl, hc6, hF6, hb⟩; have H10 := Aside0.mk (H9.out.below hb); have F6 := Aside0.mk (Kd.F_now hF6); clear hc6 hF6 hb)
  obtain ⟨ok10, hD10⟩ := H10.out.dv
  have HM := Aside0.mk (marked_calls hD10 3)
  rw [aw7] at HM
  obtain ⟨l6, hl6⟩ : ∃ l, l = rd.1 := ⟨_, rfl⟩
  rw [← hl6] at F6 HR6 ⊢
  rw [HR6.out.1]
  have hlt : 0 < l6.length := (List.getElem?_eq_some_iff.1 HR6.out.2).1
  obtain ⟨ad, cs, rfl, hcl, hK, hcc⟩ := Kd.C_get F6.out 0 0 (by omega) (by omega)
  have x0 : w10.cell? ad = some (.int .u8 240) := by
    have hk : cs = [.int .u8 (l6.getD (0 : Int).toNat 0)] := hK
    have h6 : l6.getD (0 : Int).toNat 0 = 240 := by show l6.getD 0 0 = 240; rw [List.getD_eq_getElem?_getD, HR6.out.2]; rfl
    rw [h6] at hk
    subst hk
    have h7 : w10.cell? (ad.add 0) = some (.int .u8 240) := hcc 0 _ rfl
    have e7 : ad.add 0 = ad := by obtain ⟨b, o, y⟩ := ad; unfold Addr.add; split <;> simp_all
    rwa [e7] at h7
  have q1 := eq_true (show (0 : Int) < (l6.length : Int) by omega)
  have q2 := eq_true hlt
  have HX := Aside0.mk (fun w (h : Held W w L a4) => h.dv)
  clear hl6 hlt hcl hK hcc hD10 F6 HR6 H9 HRD HZ HNO
  go_wp2_with (first | (go_at_call 30; refine HM.out.mono ?_; rintro e w11 ⟨rfl, hb⟩; have H11 := Aside0.mk (H10.out.below hb); clear hb; obtain ⟨ok11, hD11⟩ := H11.out.dv; have HN := Aside0.mk (next_calls hD11 2); rw [aw8] at HN; clear hD11 x0 q1 q2) | (go_at_call 15; refine HN.out.mono ?_; rintro e w12 ⟨rfl, hb⟩; have H12 := Aside0.mk (H11.out.below hb); clear hb; obtain ⟨ok12, hD12⟩ := H12.out.dv; have HO := Aside0.mk (ops_calls hD12); rw [aw9] at HO; clear hD12) | (go_at_call 32; refine HO.out.mono ?_; rintro e w13 ⟨rfl, hb⟩; have H13 := Aside0.mk (H12.out.below hb); clear hb; have HE := Aside0.mk (held_erase H13.out 3); rw [aw10] at HE) | (go_at_call 16; refine HE.out.mono ?_; rintro e w14 ⟨rfl, hD, hT⟩; have H14 := Aside0.mk hD.2.1; clear hD hT))
  go_ret
  exact ⟨rfl, H14.out⟩
end Go.Proofs.Ytnchdmidaigheaa.ND
