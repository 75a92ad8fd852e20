/- Parts of the proof of the statement DamageDoes, laid together (6 of 6). -/
import Derived.Deep.DeepCutAuto
import Derived.Deep.CutBlock
import Derived.OpenShut
import Derived.SizedLaws
import Derived.ChangeSlices
import Derived.Test.YtnchdmidaigheaaRows
import Derived.WalkKit
import Derived.ProofKit
import Derived.ShutString
import Derived.ChangeOld
import Derived.Below
import Derived.Test.YtnchdmidaigheaaZDamageDoes4
namespace Go.Proofs.Ytnchdmidaigheaa.QS
set_option linter.unusedVariables false
set_option linter.unusedSimpArgs false
open Go.RowKit Go.Proofs.Ytnchdmidaigheaa.SS Go.Proofs.Ytnchdmidaigheaa.Hp Go.Proofs.YtnchdmidaigheaaW.PrintWords Go.Proofs.YtnchdmidaigheaaW.PrintLast Go.Proofs.YtnchdmidaigheaaW.PrintMore
theorem row_head {W : World} {base : Nat} {ok : Nat → Prop} {v : Value} {l : List R0} (h : Kd.R k65 65 W base ok v l) (hn : 0 < l.length) : ∃ g c, v = .slice (some ⟨g, 0, none⟩) l.length c ∧ l.length ≤ c ∧ Kd.C k65 W (some ⟨g, 0, none⟩) l.length l ∧ ∀ i x, l[i]? = some x → W.cell? ⟨g, i * 3, none⟩ = some (.int .i64 x.f0) := by
  obtain ⟨ps, hps, hown, hgood⟩ := rows_of_R h
  have hl : ps.length = l.length := by rw [← hps, List.length_map]
  obtain ⟨g, cap, hv, hgb, hgl⟩ := hown.form (by omega)
  rw [hl] at hv
  rw [hv] at h
  have hr := Kd.R_reads' h
  refine ⟨g, cap, hv, hr.2.1, hr.2.2, fun i x hx => ?_⟩
  rw [← hps, List.getElem?_map] at hx
  obtain ⟨p, hp, rfl⟩ := Option.map_eq_some_iff.1 hx
  have hi : i < ps.length := (List.getElem?_eq_some_iff.1 hp).1
  rw [hv, ← hl] at hown
  rw [hown.cellAt (i * 3) (by omega)]
  exact encs_at (ps.map recOf) i (recOf p) (by rw [List.getElem?_map, hp]; rfl) 0 (by decide)
set_option maxHeartbeats 4000000 in
set_option maxRecDepth 100000 in
theorem awake43_calls (W : World) : Calls Try.prog 34 #[] W fun e w' => e = .returned (.bool true) ∧ Below W.heap.size W w' := by
  have hz1 := heap_alloc_new W (.cells #[.int .u8 7] 5)
  have hb1 := below_alloc (Below.refl W.heap.size W) (.cells #[.int .u8 7] 5)
  have HEV := Aside0.mk (every_calls [7] (some ⟨W.heap.size, 0, none⟩) 1 _ (by decide) (ND.lit1_int hz1))
  have HB1 := Aside0.mk hb1
  clear hz1 hb1
  go_enter Try.func34, Try.ntmps34
  go_upto_region 2 with (go_at_call 79; refine HEV.out.mono ?_; rintro e w2 ⟨v, rfl, hR, hb⟩; obtain ⟨gr, c2, rfl, hlc, hCC, hce⟩ := row_head hR (by decide); have HC2 := Aside0.mk hCC; have HLC := Aside0.mk hlc; have HCE := Aside0.mk hce; have HB2 := Aside0.mk (below_then HB1.out HB1.out.size hb); clear hR hb hlc hCC hce)
  clear HEV HB1
  have HLF : Aside0 (lightF (evs [7])) := ⟨by decide, fun x hx => by
    simp only [evs, List.mem_cons, List.not_mem_nil, or_false] at hx
    rcases hx with rfl | rfl <;> decide⟩
  have HAT := Aside0.mk (at_calls (evs [7]) (some ⟨gr, 0, none⟩) c2 13 w2 HLF.out HC2.out)
  rw [show atOf (evs [7]) 13 = (⟨13, 2, [7]⟩, true) from rfl] at HAT
  go_upto_region 3 with (go_at_call 35; refine HAT.out.mono ?_; rintro e w3 ⟨Am, cm, rfl, hlc, hCm, hb⟩; have HCM := Aside0.mk hCm; have HB3 := Aside0.mk (below_then HB2.out HB2.out.size hb); have HC3 := Aside0.mk (Kd.C_below HC2.out hb); have HCE3 := Aside0.mk ((hb.cell (World.block_lt_of_cell? w2 _ (HCE.out 1 _ rfl))).trans (HCE.out 1 _ rfl)); clear hb hlc hCm)
  obtain ⟨ad, hAm, had⟩ := (Kd.reads_of_C (d := (0 : Int)) HCM.out).2.2 (by decide)
  have had0 := had 0 (by decide)
  subst hAm
  have HM3 := Aside0.mk had0
  have hz3 := heap_alloc_new w3 (.cells #[.int .i64 13, .int .i64 2, .slice (some ad) 1 cm] 65)
  have hb3 := below_alloc (Below.refl w3.heap.size w3) (.cells #[.int .i64 13, .int .i64 2, .slice (some ad) 1 cm] 65)
  have hm4 := (hb3.cell (World.block_lt_of_cell? w3 _ had0)).trans had0
  have hm5 : (w3.alloc (.cells #[.int .i64 13, .int .i64 2, .slice (some ad) 1 cm] 65)).cell? ad = some (.int .u8 7) := by
    have e : ad.add 0 = ad := by obtain ⟨b, o, s⟩ := ad; cases s <;> rfl
    rw [e] at hm4
    exact hm4
  have hc4 := (hb3.cell (World.block_lt_of_cell? w3 _ HCE3.out)).trans HCE3.out
  have HC4 := Aside0.mk (Kd.C_below HC3.out hb3)
  have HB4 := Aside0.mk (below_then HB3.out HB3.out.size hb3)
  obtain ⟨g3, hg3⟩ : ∃ g, g = w3.heap.size := ⟨_, rfl⟩
  have e2 : (evs [7]).length = 2 := rfl
  have HCT : Aside0 (∀ W', Below (w3.alloc (.cells #[.int .i64 13, .int .i64 2, .slice (some ad) 1 cm] 65)).heap.size (w3.alloc (.cells #[.int .i64 13, .int .i64 2, .slice (some ad) 1 cm] 65)) W' → Calls Try.prog 42 #[.slice (some ⟨gr, 0, none⟩) 2 c2, .int .i64 2] W' fun e w' => e = .returned (.int .i64 2) ∧ Below W'.heap.size W' w') := ⟨fun W' hW => count_calls (evs [7]) (some ⟨gr, 0, none⟩) c2 2 W' HLF.out (Kd.C_below HC4.out hW)⟩
  have HCK : Aside0 (∀ W', Below (w3.alloc (.cells #[.int .i64 13, .int .i64 2, .slice (some ad) 1 cm] 65)).heap.size (w3.alloc (.cells #[.int .i64 13, .int .i64 2, .slice (some ad) 1 cm] 65)) W' → Calls Try.prog 38 #[.slice (some ⟨gr, 0, none⟩) 2 c2] W' fun e w' => e = .returned (.int .i64 0) ∧ Below W'.heap.size W' w') := ⟨fun W' hW => damage_Check.calls 10 (some ⟨gr, 0, none⟩) c2 (evs [7]) 0 W' (Kd.C_below HC4.out hW) HLC.out (by decide +kernel)⟩
  have HFR : Aside0 (∀ W', Below (w3.alloc (.cells #[.int .i64 13, .int .i64 2, .slice (some ad) 1 cm] 65)).heap.size (w3.alloc (.cells #[.int .i64 13, .int .i64 2, .slice (some ad) 1 cm] 65)) W' → Calls Try.prog 55 #[.slice (some ⟨gr, 0, none⟩) 2 c2, .int .i64 5] W' fun e w' => ∃ g c, e = .returned (.slice (some ⟨g, 0, none⟩) 1 c) ∧ w'.cell? ⟨g, 0, none⟩ = some (.int .i64 8) ∧ Below W'.heap.size W' w') := ⟨fun W' hW => (from_calls (evs [7]) (some ⟨gr, 0, none⟩) c2 5 W' HLF.out (by decide) (Kd.C_below HC4.out hW)).mono fun e w' ⟨v, he, hR, hb⟩ => by
    rw [show fromL (evs [7]) 5 = [⟨8, 2, [7]⟩] from by simp [fromL, leftB, lessF, evs, wrap64]] at hR
    obtain ⟨g, c, hv, _, _, hce⟩ := row_head hR (by decide)
    exact ⟨g, c, by rw [he, hv]; rfl, by have h := hce 0 _ rfl; rwa [Nat.zero_mul] at h, hb⟩⟩
  have HWI : Aside0 (∀ W', Below (w3.alloc (.cells #[.int .i64 13, .int .i64 2, .slice (some ad) 1 cm] 65)).heap.size (w3.alloc (.cells #[.int .i64 13, .int .i64 2, .slice (some ad) 1 cm] 65)) W' → Calls Try.prog 43 #[.agg #[.int .i64 8, .int .i64 4, .int .i64 0], .slice (some ⟨gr, 0, none⟩) 2 c2] W' fun e w' => e = .returned (.bool true) ∧ Below W'.heap.size W' w') := ⟨fun W' hW => within_calls 8 4 0 (evs [7]) (some ⟨gr, 0, none⟩) c2 W' HLF.out (Kd.C_below HC4.out hW)⟩
  clear had0 HCM hm4 had
  generalize w3.alloc (.cells #[.int .i64 13, .int .i64 2, .slice (some ad) 1 cm] 65) = W4 at hz3 hb3 hm5 hc4 HC4 HB4 HCT HCK HFR HWI ⊢
  rw [← hg3] at hz3 ⊢
  have d2 := blk_cell hz3 2
  have hc5 : W4.cell? ⟨gr, 3, none⟩ = some (.int .i64 13) := hc4
  clear hc4
  clear hz3 hb3 hg3
  go_wp2_with (first | (go_at_call 42; refine (HCT.out _ (Below.refl _ _)).mono ?_; rintro e w5 ⟨rfl, hb⟩; have HB5 := Aside0.mk hb; clear hb) | (go_at_call 38; refine (HCK.out _ HB5.out).mono ?_; rintro e w6 ⟨rfl, hb⟩; have HB6 := Aside0.mk (below_then HB5.out HB5.out.size hb); clear hb) | (go_at_call 55; refine (HFR.out _ HB6.out).mono ?_; rintro e w7 ⟨gf, cf, rfl, hcf, hb⟩; have HB7 := Aside0.mk (below_then HB6.out HB6.out.size hb); clear hb) | (go_at_call 43; refine (HWI.out _ HB7.out).mono ?_; rintro e w8 ⟨rfl, hb⟩; have HB8 := Aside0.mk (below_then HB7.out HB7.out.size hb); clear hb))
  trace_state
  go_ret
  exact ⟨rfl, below_then HB4.out HB4.out.size HB8.out⟩
end Go.Proofs.Ytnchdmidaigheaa.QS
namespace Go.Proofs.Ytnchdmidaigheaa.QS
set_option linter.unusedVariables false
set_option linter.unusedSimpArgs false
open Go.RowKit Go.Proofs.Ytnchdmidaigheaa.SS Go.Proofs.Ytnchdmidaigheaa.Hp Go.Proofs.YtnchdmidaigheaaW.PrintWords Go.Proofs.YtnchdmidaigheaaW.PrintLast Go.Proofs.YtnchdmidaigheaaW.PrintMore
open Go.Proofs.Ytnchdmidaigheaa.ND (Dv DV Lay newDv rightG lightP Turn NewTo newer)
def Pair (W w : World) (L M : Lay) (D E : Dv) : Prop := ∃ ok okm, DV w ok L D ∧ DV w okm M E ∧ (∀ k, L.all ok k → k < w.heap.size → ¬ M.S k) ∧ (∀ k, M.all okm k → k < w.heap.size → ¬ L.S k) ∧ Below W.heap.size W w ∧ ∀ k, L.S k ∨ M.S k → W.heap.size ≤ k
section
variable {W w w' w0 : World} {L M : Lay} {D D' E E' : Dv}
theorem Pair.symm (h : Pair W w L M D E) : Pair W w M L E D := by
  obtain ⟨ok, okm, h1, h2, h3, h4, h5, h6⟩ := h
  exact ⟨okm, ok, h2, h1, h4, h3, h5, fun k hk => h6 k hk.symm⟩
theorem Pair.lt (h : Pair W w L M D E) : ∀ k, L.S k ∨ M.S k → k < w.heap.size := by
  obtain ⟨ok, okm, h1, h2, _⟩ := h
  exact fun k hk => hk.elim (h1.lt k) (h2.lt k)
theorem Pair.below (h : Pair W w L M D E) (hb : Below w.heap.size w w') : Pair W w' L M D E := by
  have hlt := h.lt
  obtain ⟨ok, okm, h1, h2, h3, h4, h5, h6⟩ := h
  exact ⟨ok, okm, h1.below hb, h2.below hb, fun k hk _ hX => h3 k hk (hlt k (.inr hX)) hX, fun k hk _ hL => h4 k hk (hlt k (.inl hL)) hL, below_then h5 h5.size hb, h6⟩
theorem Pair.left (h : Pair W w L M D E) : ∃ ok, DV w ok L D := by obtain ⟨ok, _, h1, _⟩ := h; exact ⟨ok, h1⟩
theorem Pair.bel (h : Pair W w L M D E) : Below W.heap.size W w := by obtain ⟨_, _, _, _, _, _, h5, _⟩ := h; exact h5
theorem Pair.hi (h : Pair W w L M D E) : ∀ k, L.S k ∨ M.S k → W.heap.size ≤ k := by obtain ⟨_, _, _, _, _, _, _, h6⟩ := h; exact h6
theorem pair_erase (h : Pair W w L M D E) (b : Int) :
    Calls Try.prog 16 #[.pointer (some ⟨L.g, 0, none⟩), .int .i64 b] w fun e w' => e = .returned (.int .i64 (D.erase b).1) ∧ Pair W w' L M (D.erase b).2 E ∧ Turn w w' L.S := by
  have hlt := h.lt
  obtain ⟨ok, okm, h1, h2, h3, h4, h5, h6⟩ := h
  refine (ND.erase_calls h1 b).mono ?_
  rintro e w' ⟨rfl, hD, hT⟩
  refine ⟨rfl, ⟨newer w ok, okm, hD, h2.turn hT h4, fun k hk _ hX => ?_, fun k hk _ hL => h4 k hk (hlt k (.inl hL)) hL, hT.to_below h5 h5.size (fun k hk => h6 k (.inl hk)), h6⟩, hT⟩
  have hX' := hlt k (.inr hX)
  rcases hk with (hk | hk) | hk
  · exact h3 k (.inl hk) hX' hX
  · omega
  · exact h3 k (.inr hk) hX' hX
theorem pair_power (h : Pair W w L M D E) :
    Calls Try.prog 19 #[.pointer (some ⟨L.g, 0, none⟩)] w fun e w' => e = .returned (.tuple #[]) ∧ Pair W w' L M D.power E ∧ Turn w w' L.S := by
  have hlt := h.lt
  obtain ⟨ok, okm, h1, h2, h3, h4, h5, h6⟩ := h
  refine (ND.power_calls h1).mono ?_
  rintro e w' ⟨rfl, hD, hT⟩
  exact ⟨rfl, ⟨ok, okm, hD, h2.turn hT h4, fun k hk _ hX => h3 k hk (hlt k (.inr hX)) hX, fun k hk _ hL => h4 k hk (hlt k (.inl hL)) hL, hT.to_below h5 h5.size (fun k hk => h6 k (.inl hk)), h6⟩, hT⟩
theorem pair_new {B P C : Int} {bad : List Int} {fs : List R0} {e : Ending} (hA : ∃ ok, DV w0 ok L D) (hb : Below W.heap.size W w0) (hS : ∀ k, L.S k → W.heap.size ≤ k) (hN : NewTo w0 B P C bad fs e w') (hg : rightG B P C = true) :
    ∃ M : Lay, e = .returned (.tuple #[.pointer (some ⟨M.g, 0, none⟩), .int .i64 0]) ∧ Pair W w' L M D (newDv B P C bad fs) ∧ Below w0.heap.size w0 w' := by
  obtain ⟨ok, hA⟩ := hA
  obtain ⟨M, he, hM, hMS⟩ := hN.2.1 hg
  have hlt := hA.lt
  have hml := hA.mb.lt
  refine ⟨M, he, ⟨_, _, hA.bound.below hN.1, hM, fun k hk _ hX => ?_, fun k hk _ hL => ?_, below_then hb hb.size hN.1, fun k hk => ?_⟩, hN.1⟩
  · have h1 := hMS k (.inl hX)
    rcases hk with hk | hk | hk
    · have := hk.2; omega
    · have := hlt k hk; omega
    · rw [hk] at h1; omega
  · have h1 := hlt k hL
    rcases hk with hk | hk | hk
    · have := hk.1; omega
    · have := hMS k (.inl hk); omega
    · have := hMS k (.inr hk); omega
  · rcases hk with hk | hk
    · exact hS k hk
    · exact Nat.le_trans hb.size (hMS k (.inl hk))
end
def ddo4.T4 : Bool × List (List Nat × List Nat) := (true, [([], []), ([0], [0]), ([], []), ([2], [2]), ([], []), ([4], [4]), ([5], [5]), ([1, 3, 6, 6], [1, 3, 6]), ([7], [7]), ([8], [8]), ([8], [8]), ([9, 7, 0, 1, 2, 3, 4, 5, 6, 7, 8, 9], [9]), ([10, 11, 0, 1, 2, 3, 4, 5, 6, 7, 8, 9, 10, 11], [10])])
def ddo4.B4 : List Nat := [0, 1, 0, 4, 0, 16, 48, 127, 255, 511, 511, 1023, 4095]
theorem ddo4.tab4 : rtab .any (opsOf Try.f9 4) = ddo4.T4 := by kernel_rfl
theorem ddo4.bits4 : waitsOk ddo4.T4.2 ddo4.B4 = true := by kernel_rfl
def ddo15.T15 : Bool × List (List Nat × List Nat) := (true, [([], []), ([0], [0]), ([], []), ([2], [2]), ([], []), ([4], [4]), ([], []), ([6], [6]), ([5, 7, 7], [5, 7]), ([1, 3, 8, 8], [1, 3, 8]), ([9], [9]), ([10], [10]), ([10], [10]), ([11, 9, 0, 1, 2, 3, 4, 5, 6, 7, 8, 9, 10, 11], [11]), ([12, 13, 0, 1, 2, 3, 4, 5, 6, 7, 8, 9, 10, 11, 12, 13], [12])])
def ddo15.B15 : List Nat := [0, 1, 0, 4, 0, 16, 0, 64, 240, 511, 1023, 2047, 2047, 4095, 16383]
theorem ddo15.tab15 : rtab .any (opsOf Try.f9 15) = ddo15.T15 := by kernel_rfl
theorem ddo15.bits15 : waitsOk ddo15.T15.2 ddo15.B15 = true := by kernel_rfl
def loopI (D E : Dv) (W2 w' : World) (L M : Lay) (fs : List R0) (bad : List Int) (B : Int) (n i : Nat) : Prop := Pair W2 w' L M D E ∧ Sim D E (n + i) ∧ D.faults = fs ∧ D.bad = bad ∧ D.B = B ∧ D.down = false
set_option maxHeartbeats 4000000 in
set_option maxRecDepth 100000 in
theorem does43_calls {W : World} (B P C : Int) (bad : List Int) (fs : List R0) (cut : Int) (Ab Af : Option Addr) (cb cf : Nat) (hb : Kd.C (Kd.int .i64) W Ab bad.length bad) (hcb : bad.length ≤ cb) (hf : Kd.C k65 W Af fs.length fs) (hcf : fs.length ≤ cf)
    (hfm : ∀ f ∈ fs, isBytes f.f2 ∧ -9223372036854775808 ≤ f.f0 ∧ f.f0 ≤ 9223372036854775807) (hcut : 0 ≤ cut ∧ cut ≤ 255) :
    Calls Try.prog 9 #[.agg #[.int .i64 B, .int .i64 P, .int .i64 C, .slice Ab bad.length cb, .slice Af fs.length cf], .int .u8 cut] W fun e w' => e = .returned (.bool true) ∧ Below W.heap.size W w' := by
  have HIN := Aside0.mk (And.intro hb (And.intro hcb (And.intro hf (And.intro hcf (And.intro hfm hcut)))))
  have hz2 := heap_alloc_new W (.cells #[.int .i64 B, .int .i64 P, .int .i64 C, .slice Ab bad.length cb, .slice Af fs.length cf] 27)
  have hb2 := below_alloc (Below.refl W.heap.size W) (.cells #[.int .i64 B, .int .i64 P, .int .i64 C, .slice Ab bad.length cb, .slice Af fs.length cf] 27)
  obtain ⟨g2, hg2⟩ : ∃ g, g = W.heap.size := ⟨_, rfl⟩
  clear hb hcb hf hcf hfm hcut
  go_enter Try.func9, Try.ntmps9
  go_upto_region 1 with fail
  generalize W.alloc (.cells #[.int .i64 B, .int .i64 P, .int .i64 C, .slice Ab bad.length cb, .slice Af fs.length cf] 27) = W2 at hz2 hb2 ⊢
  rw [← hg2] at hz2 ⊢
  have HZ2 := Aside0.mk hz2
  have HB2 := Aside0.mk hb2
  have z0 := blk_cell hz2 0
  have z1 := blk_cell hz2 1
  have z2 := blk_cell hz2 2
  have z3 := blk_cell hz2 3
  have z4 := blk_cell hz2 4
  obtain ⟨gr, hgr, hgc⟩ := good_calls (W := W2) B P C bad fs Ab Af cb cf (Kd.C_below HIN.out.1 hb2) HIN.out.2.1 (Kd.C_below HIN.out.2.2.1 hb2) HIN.out.2.2.2.1
  have HGR := Aside0.mk hgr
  have HGC := Aside0.mk hgc
  clear hg2 hz2 hb2 hgr hgc
  cases gr with
  | false =>
    go_wp2_with (first | (go_at_call 54; refine HGC.out.mono ?_; rintro e w3 ⟨rfl, hb⟩; have HB3 := Aside0.mk (below_then HB2.out HB2.out.size hb); clear hb z0 z1 z2 z3 z4) | (go_at_call 34; refine (awake43_calls _).mono ?_; rintro e w4 ⟨rfl, hb⟩; have HB4 := Aside0.mk (below_then HB3.out HB3.out.size hb); clear hb))
    go_ret
    exact ⟨rfl, HB4.out⟩
  | true =>
    by_cases h20 : fs.length ≤ 20
    case neg =>
      have t1 : decide ((fs.length : Int) > 20) = true := decide_eq_true (by omega)
      have t2 : decide (20 < fs.length) = true := decide_eq_true (by omega)
      clear h20
      go_wp2_with (first | (go_at_call 54; refine HGC.out.mono ?_; rintro e w3 ⟨rfl, hb⟩; have HB3 := Aside0.mk (below_then HB2.out HB2.out.size hb); have HZ3 := blk_below HZ2.out hb; clear z0 z1 z2 z3 z4; have z4 := blk_cell HZ3 4; clear hb HZ3) | (go_at_call 34; refine (awake43_calls _).mono ?_; rintro e w4 ⟨rfl, hb⟩; have HB4 := Aside0.mk (below_then HB3.out HB3.out.size hb); clear hb))
      go_ret
      exact ⟨rfl, HB4.out⟩
    case pos =>
      have t1 : decide ((fs.length : Int) > 20) = false := decide_eq_false (by omega)
      have t2 : decide (20 < fs.length) = false := decide_eq_false (by omega)
      have HRG : Aside0 (rightG B P C = true) := ⟨(HGR.out rfl).2⟩
      have HLP : Aside0 (bad.length ≤ 60 ∧ fs.length ≤ 40 ∧ ∀ f ∈ fs, isBytes f.f2 ∧ f.f2.length ≤ 1000) := by
        have hlp := (HGR.out rfl).1
        unfold lightP at hlp
        simp only [Bool.and_eq_true, decide_eq_true_eq, List.all_eq_true] at hlp
        exact ⟨hlp.1.1, hlp.1.2, fun f hf => ⟨(HIN.out.2.2.2.2.1 f hf).1, by have := hlp.2 f hf; omega⟩⟩
      have HLF : Aside0 (lightF fs) := ⟨by have := HLP.out.2.1; omega, fun x hx => (HLP.out.2.2 x hx).2⟩
      clear h20
      go_upto_region 3 with (first | (go_at_call 54; refine HGC.out.mono ?_; rintro e w3 ⟨rfl, hb⟩; have HB3 := Aside0.mk (below_then HB2.out HB2.out.size hb); have HBB3 := Aside0.mk hb; have HZ3 := Aside0.mk (blk_below HZ2.out hb); clear z0 z1 z2 z3 z4; have z4 := blk_cell HZ3.out 4; clear hb) | (go_at_call 34; refine (awake43_calls _).mono ?_; rintro e w4 ⟨rfl, hb⟩; have HB4 := Aside0.mk (below_then HB3.out HB3.out.size hb); have HBB4 := Aside0.mk (below_then HBB3.out HBB3.out.size hb); have HZ4 := Aside0.mk (blk_below HZ3.out hb); clear hb z4))
      have z0 := blk_cell HZ4.out 0
      have z1 := blk_cell HZ4.out 1
      have z2 := blk_cell HZ4.out 2
      have z3 := blk_cell HZ4.out 3
      have z4 := blk_cell HZ4.out 4
      have HNW := Aside0.mk (ND.new_calls (W := w4) B P C bad fs Ab Af cb cf (Kd.C_below HIN.out.1 HB4.out) (Kd.C_below HIN.out.2.2.1 HB4.out) (by have := HLP.out.1; omega) (by have := HLP.out.2.1; omega) HLP.out.2.2)
      clear HGC HB3 HZ3 HBB3 t1 t2
      go_upto_region 4 with (go_at_call 14; refine HNW.out.mono ?_; rintro e w5 hnw; obtain ⟨L, rfl, hH⟩ := ND.held_new hnw HBB4.out HRG.out; have HH5 := Aside0.mk hH; have HB5 := Aside0.mk (below_then HB4.out HB4.out.size hnw.1); have HZ5 := Aside0.mk (blk_below HZ4.out hnw.1); clear hnw hH z0 z1 z2 z3 z4)
      clear HNW HB4 HBB4 HZ4
      obtain ⟨so, hso⟩ : ∃ s, s = ssort ltS fs := ⟨_, rfl⟩
      have HSO := Aside0.mk hso
      have HSL : Aside0 (so.length = fs.length ∧ ∀ f ∈ so, f ∈ fs) := ⟨by rw [hso]; exact ⟨ssort_length fs, fun f hf => ((ssort_stable ltS_ord fs).2.1 f).1 hf⟩⟩
      have HST : Aside0 (∀ W', Below w5.heap.size w5 W' → Calls Try.prog 40 #[.slice Af fs.length cf] W' fun e w' => ∃ A1 c1, e = .returned (.slice A1 so.length c1) ∧ (so.length ≤ c1 ∧ Kd.C k65 w' A1 so.length so) ∧ Below W'.heap.size W' w') := ⟨fun W' hW => (sort_calls2 fs Af cf W' HLF.out (Kd.C_below HIN.out.2.2.1 (below_then HB5.out HB5.out.size hW))).mono fun e w' ⟨v, he, hR, hb⟩ => by
        rw [← hso] at hR
        obtain ⟨A1, c1, hv, hl1, hC1⟩ := Kd.R_reads hR
        exact ⟨A1, c1, by rw [he, hv], ⟨hl1, hC1⟩, hb⟩⟩
      have HN2 : Aside0 (∀ W' A1 c1, Below w5.heap.size w5 W' → so.length ≤ c1 ∧ Kd.C k65 W' A1 so.length so → Calls Try.prog 14 #[.agg #[.int .i64 B, .int .i64 P, .int .i64 C], .slice Ab bad.length cb, .slice A1 so.length c1] W' fun e w' => ∃ M : Lay, e = .returned (.tuple #[.pointer (some ⟨M.g, 0, none⟩), .int .i64 0]) ∧ Pair W2 w' L M (newDv B P C bad fs) (newDv B P C bad so) ∧ Below W'.heap.size W' w') := ⟨fun W' A1 c1 hW hS => (ND.new_calls (W := W') B P C bad so Ab A1 cb c1 (Kd.C_below HIN.out.1 (below_then HB5.out HB5.out.size hW)) hS.2 (by have := HLP.out.1; omega) (by have := HLP.out.2.1; have := HSL.out.1; omega) (fun f hf => HLP.out.2.2 f (HSL.out.2 f hf))).mono fun e w' hN => by
        obtain ⟨hA, hbl, hS2⟩ := HH5.out.below hW
        exact pair_new hA hbl hS2 hN HRG.out⟩
      have B0 := Aside0.mk (below_drew1 (Below.refl w5.heap.size w5))
      have SA := True.intro
      have PR := True.intro
      clear hso
      go_upto_region 4 with fail
      refine start_ (n := 13) (S := fun w' => True) (ds := []) #[false, false, false, false, false, false, false, false, false, false, false, false, false] (by kernel_rfl) rfl rfl trivial (fun hHeld => ?_)
      refine with_tabW ddo4.tab4 ddo4.bits4 (fun HT_ HW_ => ?_)
      generalize w5.drew = wz at B0 hHeld ⊢
      refine inv_at [0, 1, 2, 3, 4, 5, 6, 7, 8, 9, 10, 11, 12] (fun a0_ b a w' => ∃ (As : Option Addr) (cs : Nat) (M : Lay) (m6_ : Value) (m7_ : Value) (m8_ : Value) (m9_ : Value) (m11_ : Value), a = putSel a0_ b [(0, 41, .pointer (some ⟨g2, 0, none⟩)), (1, 42, .agg #[.int .i64 B, .int .i64 P, .int .i64 C]), (2, 43, .pointer (some ⟨g2, 3, none⟩)), (3, 44, .slice Ab bad.length cb), (4, 45, .pointer (some ⟨g2, 4, none⟩)), (5, 46, .slice Af fs.length cf), (6, 47, m6_), (7, 48, m7_), (8, 40, m8_), (9, 49, m9_), (10, 50, .int .i64 0), (11, 7, m11_), (12, 8, .int .i64 0)] ∧ (Below w5.heap.size w5 w') ∧ (b 6 = true → b 7 = false → so.length ≤ cs ∧ Kd.C k65 w' As so.length so) ∧ (b 7 = true → Pair W2 w' L M (newDv B P C bad fs) (newDv B P C bad so)) ∧ (b 6 = true → (m6_ : Value) = .slice As so.length cs) ∧ (b 7 = true → (m7_ : Value) = .tuple #[.pointer (some ⟨M.g, 0, none⟩), .int .i64 0]) ∧ (b 8 = true → (m8_ : Value) = .tuple #[.pointer (some ⟨M.g, 0, none⟩), .int .i64 0]) ∧ (b 9 = true → (m9_ : Value) = .pointer (some ⟨M.g, 0, none⟩)) ∧ (b 11 = true → (m11_ : Value) = .pointer (some ⟨M.g, 0, none⟩))) HT_.out HW_.out (by kernel_rfl) (by kernel_rfl) ?_ ?_ ?_
      · exact ⟨none, 0, L, .bool false, .bool false, .bool false, .bool false, .bool false, by simp only [putSel, Bool.false_eq_true, if_false], B0.out, fun h_ => absurd h_ (by decide), fun h_ => absurd h_ (by decide), fun h_ => absurd h_ (by decide), fun h_ => absurd h_ (by decide), fun h_ => absurd h_ (by decide), fun h_ => absurd h_ (by decide), fun h_ => absurd h_ (by decide)⟩
      · skip
        clear B0
        refine steps_cons ?_ ?_
        · rintro b a w' ⟨As, cs, M, m6_, m7_, m8_, m9_, m11_, ha, Q_B0, Q_SA, Q_PR, Q_X6_, Q_X7_, Q_X8_, Q_X9_, Q_X11_⟩ hb_ hon hoff
          refine ⟨_, rfl, fun K hK => ?_⟩
          have e2 : a.tmps[2]? = some (.pointer (some ⟨g2, 0, none⟩)) := by rw [ha]; exact (putSel_off rfl).trans rfl
          replace ha := Aside0.mk ha
          have B0 := Aside0.mk Q_B0
          refine value_ (w1 := w') (v := .pointer (some ⟨g2, 0, none⟩)) (by rfl) rfl ?_ ?_
          · go_simp
            (try simp only [i64_w])
            try rfl
          refine hK.out _ _ ⟨As, cs, M, m6_, m7_, m8_, m9_, m11_, (by rw [ha.out]; exact putSel_upk 0 hb_ rfl rfl rfl), Q_B0, Q_SA, fun h0_ => absurd ((hoff 7 (by kernel_rfl)).symm.trans h0_) (by decide), Q_X6_, fun h0_ => absurd ((hoff 7 (by kernel_rfl)).symm.trans h0_) (by decide), fun h0_ => absurd ((hoff 8 (by kernel_rfl)).symm.trans h0_) (by decide), fun h0_ => absurd ((hoff 9 (by kernel_rfl)).symm.trans h0_) (by decide), fun h0_ => absurd ((hoff 11 (by kernel_rfl)).symm.trans h0_) (by decide)⟩
        refine steps_cons ?_ ?_
        · rintro b a w' ⟨As, cs, M, m6_, m7_, m8_, m9_, m11_, ha, Q_B0, Q_SA, Q_PR, Q_X6_, Q_X7_, Q_X8_, Q_X9_, Q_X11_⟩ hb_ hon hoff
          refine ⟨_, rfl, fun K hK => ?_⟩
          have e41 : a.tmps[41]? = some (.pointer (some ⟨g2, 0, none⟩)) := by rw [ha]; exact putSel_on (e := (0, 41, .pointer (some ⟨g2, 0, none⟩))) 0 rfl rfl (hon 0 (by kernel_rfl)) rfl
          replace ha := Aside0.mk ha
          have B0 := Aside0.mk Q_B0
          have c0_ := blk_cell (blk_below HZ5.out B0.out) 0
          have c1_ := blk_cell (blk_below HZ5.out B0.out) 1
          have c2_ := blk_cell (blk_below HZ5.out B0.out) 2
          refine value_ (w1 := w') (v := .agg #[.int .i64 B, .int .i64 P, .int .i64 C]) (by rfl) rfl ?_ ?_
          · go_simp
            (try simp only [i64_w])
            try rfl
          refine hK.out _ _ ⟨As, cs, M, m6_, m7_, m8_, m9_, m11_, (by rw [ha.out]; exact putSel_upk 1 hb_ rfl rfl rfl), Q_B0, Q_SA, fun h0_ => absurd ((hoff 7 (by kernel_rfl)).symm.trans h0_) (by decide), Q_X6_, fun h0_ => absurd ((hoff 7 (by kernel_rfl)).symm.trans h0_) (by decide), fun h0_ => absurd ((hoff 8 (by kernel_rfl)).symm.trans h0_) (by decide), fun h0_ => absurd ((hoff 9 (by kernel_rfl)).symm.trans h0_) (by decide), fun h0_ => absurd ((hoff 11 (by kernel_rfl)).symm.trans h0_) (by decide)⟩
        refine steps_cons ?_ ?_
        · rintro b a w' ⟨As, cs, M, m6_, m7_, m8_, m9_, m11_, ha, Q_B0, Q_SA, Q_PR, Q_X6_, Q_X7_, Q_X8_, Q_X9_, Q_X11_⟩ hb_ hon hoff
          refine ⟨_, rfl, fun K hK => ?_⟩
          have e2 : a.tmps[2]? = some (.pointer (some ⟨g2, 0, none⟩)) := by rw [ha]; exact (putSel_off rfl).trans rfl
          replace ha := Aside0.mk ha
          have B0 := Aside0.mk Q_B0
          refine value_ (w1 := w') (v := .pointer (some ⟨g2, 3, none⟩)) (by rfl) rfl ?_ ?_
          · go_simp
            (try simp only [i64_w])
            try rfl
          refine hK.out _ _ ⟨As, cs, M, m6_, m7_, m8_, m9_, m11_, (by rw [ha.out]; exact putSel_upk 2 hb_ rfl rfl rfl), Q_B0, Q_SA, fun h0_ => absurd ((hoff 7 (by kernel_rfl)).symm.trans h0_) (by decide), Q_X6_, fun h0_ => absurd ((hoff 7 (by kernel_rfl)).symm.trans h0_) (by decide), fun h0_ => absurd ((hoff 8 (by kernel_rfl)).symm.trans h0_) (by decide), fun h0_ => absurd ((hoff 9 (by kernel_rfl)).symm.trans h0_) (by decide), fun h0_ => absurd ((hoff 11 (by kernel_rfl)).symm.trans h0_) (by decide)⟩
        refine steps_cons ?_ ?_
        · rintro b a w' ⟨As, cs, M, m6_, m7_, m8_, m9_, m11_, ha, Q_B0, Q_SA, Q_PR, Q_X6_, Q_X7_, Q_X8_, Q_X9_, Q_X11_⟩ hb_ hon hoff
          refine ⟨_, rfl, fun K hK => ?_⟩
          have e43 : a.tmps[43]? = some (.pointer (some ⟨g2, 3, none⟩)) := by rw [ha]; exact putSel_on (e := (2, 43, .pointer (some ⟨g2, 3, none⟩))) 2 rfl rfl (hon 2 (by kernel_rfl)) rfl
          replace ha := Aside0.mk ha
          have B0 := Aside0.mk Q_B0
          have c0_ := blk_cell (blk_below HZ5.out B0.out) 3
          refine value_ (w1 := w') (v := .slice Ab bad.length cb) (by rfl) rfl ?_ ?_
          · go_simp
            (try simp only [i64_w])
            try rfl
          refine hK.out _ _ ⟨As, cs, M, m6_, m7_, m8_, m9_, m11_, (by rw [ha.out]; exact putSel_upk 3 hb_ rfl rfl rfl), Q_B0, Q_SA, fun h0_ => absurd ((hoff 7 (by kernel_rfl)).symm.trans h0_) (by decide), Q_X6_, fun h0_ => absurd ((hoff 7 (by kernel_rfl)).symm.trans h0_) (by decide), fun h0_ => absurd ((hoff 8 (by kernel_rfl)).symm.trans h0_) (by decide), fun h0_ => absurd ((hoff 9 (by kernel_rfl)).symm.trans h0_) (by decide), fun h0_ => absurd ((hoff 11 (by kernel_rfl)).symm.trans h0_) (by decide)⟩
        refine steps_cons ?_ ?_
        · rintro b a w' ⟨As, cs, M, m6_, m7_, m8_, m9_, m11_, ha, Q_B0, Q_SA, Q_PR, Q_X6_, Q_X7_, Q_X8_, Q_X9_, Q_X11_⟩ hb_ hon hoff
          refine ⟨_, rfl, fun K hK => ?_⟩
          have e2 : a.tmps[2]? = some (.pointer (some ⟨g2, 0, none⟩)) := by rw [ha]; exact (putSel_off rfl).trans rfl
          replace ha := Aside0.mk ha
          have B0 := Aside0.mk Q_B0
          refine value_ (w1 := w') (v := .pointer (some ⟨g2, 4, none⟩)) (by rfl) rfl ?_ ?_
          · go_simp
            (try simp only [i64_w])
            try rfl
          refine hK.out _ _ ⟨As, cs, M, m6_, m7_, m8_, m9_, m11_, (by rw [ha.out]; exact putSel_upk 4 hb_ rfl rfl rfl), Q_B0, fun h0_ _ => absurd ((hoff 6 (by kernel_rfl)).symm.trans h0_) (by decide), fun h0_ => absurd ((hoff 7 (by kernel_rfl)).symm.trans h0_) (by decide), fun h0_ => absurd ((hoff 6 (by kernel_rfl)).symm.trans h0_) (by decide), fun h0_ => absurd ((hoff 7 (by kernel_rfl)).symm.trans h0_) (by decide), fun h0_ => absurd ((hoff 8 (by kernel_rfl)).symm.trans h0_) (by decide), fun h0_ => absurd ((hoff 9 (by kernel_rfl)).symm.trans h0_) (by decide), fun h0_ => absurd ((hoff 11 (by kernel_rfl)).symm.trans h0_) (by decide)⟩
        refine steps_cons ?_ ?_
        · rintro b a w' ⟨As, cs, M, m6_, m7_, m8_, m9_, m11_, ha, Q_B0, Q_SA, Q_PR, Q_X6_, Q_X7_, Q_X8_, Q_X9_, Q_X11_⟩ hb_ hon hoff
          refine ⟨_, rfl, fun K hK => ?_⟩
          have e45 : a.tmps[45]? = some (.pointer (some ⟨g2, 4, none⟩)) := by rw [ha]; exact putSel_on (e := (4, 45, .pointer (some ⟨g2, 4, none⟩))) 4 rfl rfl (hon 4 (by kernel_rfl)) rfl
          replace ha := Aside0.mk ha
          have B0 := Aside0.mk Q_B0
          have c0_ := blk_cell (blk_below HZ5.out B0.out) 4
          refine value_ (w1 := w') (v := .slice Af fs.length cf) (by rfl) rfl ?_ ?_
          · go_simp
            (try simp only [i64_w])
            try rfl
          refine hK.out _ _ ⟨As, cs, M, m6_, m7_, m8_, m9_, m11_, (by rw [ha.out]; exact putSel_upk 5 hb_ rfl rfl rfl), Q_B0, fun h0_ _ => absurd ((hoff 6 (by kernel_rfl)).symm.trans h0_) (by decide), fun h0_ => absurd ((hoff 7 (by kernel_rfl)).symm.trans h0_) (by decide), fun h0_ => absurd ((hoff 6 (by kernel_rfl)).symm.trans h0_) (by decide), fun h0_ => absurd ((hoff 7 (by kernel_rfl)).symm.trans h0_) (by decide), fun h0_ => absurd ((hoff 8 (by kernel_rfl)).symm.trans h0_) (by decide), fun h0_ => absurd ((hoff 9 (by kernel_rfl)).symm.trans h0_) (by decide), fun h0_ => absurd ((hoff 11 (by kernel_rfl)).symm.trans h0_) (by decide)⟩
        refine steps_cons ?_ ?_
        · rintro b a w' ⟨As, cs, M, m6_, m7_, m8_, m9_, m11_, ha, Q_B0, Q_SA, Q_PR, Q_X6_, Q_X7_, Q_X8_, Q_X9_, Q_X11_⟩ hb_ hon hoff
          refine ⟨_, rfl, fun K hK => ?_⟩
          have e46 : a.tmps[46]? = some (.slice Af fs.length cf) := by rw [ha]; exact putSel_on (e := (5, 46, .slice Af fs.length cf)) 5 rfl rfl (hon 5 (by kernel_rfl)) rfl
          replace ha := Aside0.mk ha
          have B0 := Aside0.mk Q_B0
          refine goes_ Try.func40 (by kernel_rfl) rfl #[.slice Af fs.length cf] (by rfl) rfl rfl (by first | (simp only [List.map_toArray, List.map_cons, List.map_nil, Act.eval, Array.getD_eq_getD_getElem?, Option.getD_some, e46]; done) | (simp only [List.map_toArray, List.map_cons, List.map_nil, Act.eval, Array.getD_eq_getD_getElem?, Option.getD_some, e46]; rfl)) ?_
          with_reducible refine (HST.out _ B0.out).mono ?_
          rintro e w2 ⟨A_, c_, rfl, hc_, hb⟩
          refine ⟨_, rfl, ?_⟩
          refine hK.out _ _ ⟨A_, c_, M, (.slice A_ so.length c_), m7_, m8_, m9_, m11_, (by rw [ha.out]; exact putSel_upk 6 hb_ rfl rfl rfl), below_then B0.out B0.out.size hb, fun _ _ => hc_, fun h0_ => absurd ((hoff 7 (by kernel_rfl)).symm.trans h0_) (by decide), fun _ => rfl, fun h0_ => absurd ((hoff 7 (by kernel_rfl)).symm.trans h0_) (by decide), fun h0_ => absurd ((hoff 8 (by kernel_rfl)).symm.trans h0_) (by decide), fun h0_ => absurd ((hoff 9 (by kernel_rfl)).symm.trans h0_) (by decide), fun h0_ => absurd ((hoff 11 (by kernel_rfl)).symm.trans h0_) (by decide)⟩
        refine steps_cons ?_ ?_
        · rintro b a w' ⟨As, cs, M, m6_, m7_, m8_, m9_, m11_, ha, Q_B0, Q_SA, Q_PR, Q_X6_, Q_X7_, Q_X8_, Q_X9_, Q_X11_⟩ hb_ hon hoff
          refine ⟨_, rfl, fun K hK => ?_⟩
          have e42 : a.tmps[42]? = some (.agg #[.int .i64 B, .int .i64 P, .int .i64 C]) := by rw [ha]; exact putSel_on (e := (1, 42, .agg #[.int .i64 B, .int .i64 P, .int .i64 C])) 1 rfl rfl (hon 1 (by kernel_rfl)) rfl
          have e44 : a.tmps[44]? = some (.slice Ab bad.length cb) := by rw [ha]; exact putSel_on (e := (3, 44, .slice Ab bad.length cb)) 3 rfl rfl (hon 3 (by kernel_rfl)) rfl
          have e47 : a.tmps[47]? = some (m6_) := by rw [ha]; exact putSel_on (e := (6, 47, m6_)) 6 rfl rfl (hon 6 (by kernel_rfl)) rfl
          rw [Q_X6_ (hon 6 (by kernel_rfl))] at e47
          replace ha := Aside0.mk ha
          have B0 := Aside0.mk Q_B0
          have SA := Aside0.mk (Q_SA (hon 6 (by kernel_rfl)) hb_)
          refine goes_ Try.func14 (by kernel_rfl) rfl #[.agg #[.int .i64 B, .int .i64 P, .int .i64 C], .slice Ab bad.length cb, .slice As so.length cs] (by rfl) rfl rfl (by first | (simp only [List.map_toArray, List.map_cons, List.map_nil, Act.eval, Array.getD_eq_getD_getElem?, Option.getD_some, e42, e44, e47]; done) | (simp only [List.map_toArray, List.map_cons, List.map_nil, Act.eval, Array.getD_eq_getD_getElem?, Option.getD_some, e42, e44, e47]; rfl)) ?_
          with_reducible refine (HN2.out _ _ _ B0.out SA.out).mono ?_
          rintro e w2 ⟨M_, rfl, hp_, hb⟩
          refine ⟨_, rfl, ?_⟩
          refine hK.out _ _ ⟨As, cs, M_, m6_, (.tuple #[.pointer (some ⟨M_.g, 0, none⟩), .int .i64 0]), m8_, m9_, m11_, (by rw [ha.out]; exact putSel_upk 7 hb_ rfl rfl rfl), below_then B0.out B0.out.size hb, fun _ h1_ => absurd ((up_self b 7).symm.trans h1_) (by decide), fun _ => hp_, Q_X6_, fun _ => rfl, fun h0_ => absurd ((hoff 8 (by kernel_rfl)).symm.trans h0_) (by decide), fun h0_ => absurd ((hoff 9 (by kernel_rfl)).symm.trans h0_) (by decide), fun h0_ => absurd ((hoff 11 (by kernel_rfl)).symm.trans h0_) (by decide)⟩
        refine steps_cons ?_ ?_
        · rintro b a w' ⟨As, cs, M, m6_, m7_, m8_, m9_, m11_, ha, Q_B0, Q_SA, Q_PR, Q_X6_, Q_X7_, Q_X8_, Q_X9_, Q_X11_⟩ hb_ hon hoff
          refine ⟨_, rfl, fun K hK => ?_⟩
          have e48 : a.tmps[48]? = some (m7_) := by rw [ha]; exact putSel_on (e := (7, 48, m7_)) 7 rfl rfl (hon 7 (by kernel_rfl)) rfl
          rw [Q_X7_ (hon 7 (by kernel_rfl))] at e48
          replace ha := Aside0.mk ha
          have B0 := Aside0.mk Q_B0
          have PR := Aside0.mk (Q_PR (hon 7 (by kernel_rfl)))
          refine value_ (w1 := w') (v := .tuple #[.pointer (some ⟨M.g, 0, none⟩), .int .i64 0]) (by rfl) rfl ?_ ?_
          · go_simp
            (try simp only [i64_w])
            try rfl
          refine hK.out _ _ ⟨As, cs, M, m6_, m7_, (.tuple #[.pointer (some ⟨M.g, 0, none⟩), .int .i64 0]), m9_, m11_, (by rw [ha.out]; exact putSel_upk 8 hb_ rfl rfl rfl), Q_B0, fun _ h1_ => absurd ((hon 7 (by kernel_rfl)).symm.trans h1_) (by decide), Q_PR, Q_X6_, Q_X7_, fun _ => rfl, fun h0_ => absurd ((hoff 9 (by kernel_rfl)).symm.trans h0_) (by decide), fun h0_ => absurd ((hoff 11 (by kernel_rfl)).symm.trans h0_) (by decide)⟩
        refine steps_cons ?_ ?_
        · rintro b a w' ⟨As, cs, M, m6_, m7_, m8_, m9_, m11_, ha, Q_B0, Q_SA, Q_PR, Q_X6_, Q_X7_, Q_X8_, Q_X9_, Q_X11_⟩ hb_ hon hoff
          refine ⟨_, rfl, fun K hK => ?_⟩
          have e40 : a.tmps[40]? = some (m8_) := by rw [ha]; exact putSel_on (e := (8, 40, m8_)) 8 rfl rfl (hon 8 (by kernel_rfl)) rfl
          rw [Q_X8_ (hon 8 (by kernel_rfl))] at e40
          replace ha := Aside0.mk ha
          have B0 := Aside0.mk Q_B0
          have PR := Aside0.mk (Q_PR (hon 7 (by kernel_rfl)))
          refine value_ (w1 := w') (v := .pointer (some ⟨M.g, 0, none⟩)) (by rfl) rfl ?_ ?_
          · go_simp
            (try simp only [i64_w])
            try rfl
          refine hK.out _ _ ⟨As, cs, M, m6_, m7_, m8_, (.pointer (some ⟨M.g, 0, none⟩)), m11_, (by rw [ha.out]; exact putSel_upk 9 hb_ rfl rfl rfl), Q_B0, fun _ h1_ => absurd ((hon 7 (by kernel_rfl)).symm.trans h1_) (by decide), Q_PR, Q_X6_, Q_X7_, Q_X8_, fun _ => rfl, fun h0_ => absurd ((hoff 11 (by kernel_rfl)).symm.trans h0_) (by decide)⟩
        refine steps_cons ?_ ?_
        · rintro b a w' ⟨As, cs, M, m6_, m7_, m8_, m9_, m11_, ha, Q_B0, Q_SA, Q_PR, Q_X6_, Q_X7_, Q_X8_, Q_X9_, Q_X11_⟩ hb_ hon hoff
          refine ⟨_, rfl, fun K hK => ?_⟩
          have e40 : a.tmps[40]? = some (m8_) := by rw [ha]; exact putSel_on (e := (8, 40, m8_)) 8 rfl rfl (hon 8 (by kernel_rfl)) rfl
          rw [Q_X8_ (hon 8 (by kernel_rfl))] at e40
          replace ha := Aside0.mk ha
          have B0 := Aside0.mk Q_B0
          have PR := Aside0.mk (Q_PR (hon 7 (by kernel_rfl)))
          refine value_ (w1 := w') (v := .int .i64 0) (by rfl) rfl ?_ ?_
          · go_simp
            (try simp only [i64_w])
            try rfl
          refine hK.out _ _ ⟨As, cs, M, m6_, m7_, m8_, m9_, m11_, (by rw [ha.out]; exact putSel_upk 10 hb_ rfl rfl rfl), Q_B0, fun _ h1_ => absurd ((hon 7 (by kernel_rfl)).symm.trans h1_) (by decide), Q_PR, Q_X6_, Q_X7_, Q_X8_, Q_X9_, Q_X11_⟩
        refine steps_cons ?_ ?_
        · rintro b a w' ⟨As, cs, M, m6_, m7_, m8_, m9_, m11_, ha, Q_B0, Q_SA, Q_PR, Q_X6_, Q_X7_, Q_X8_, Q_X9_, Q_X11_⟩ hb_ hon hoff
          refine ⟨_, rfl, fun K hK => ?_⟩
          have e49 : a.tmps[49]? = some (m9_) := by rw [ha]; exact putSel_on (e := (9, 49, m9_)) 9 rfl rfl (hon 9 (by kernel_rfl)) rfl
          rw [Q_X9_ (hon 9 (by kernel_rfl))] at e49
          replace ha := Aside0.mk ha
          have B0 := Aside0.mk Q_B0
          have PR := Aside0.mk (Q_PR (hon 7 (by kernel_rfl)))
          refine value_ (w1 := w') (v := .pointer (some ⟨M.g, 0, none⟩)) (by rfl) rfl ?_ ?_
          · go_simp
            (try simp only [i64_w])
            try rfl
          refine hK.out _ _ ⟨As, cs, M, m6_, m7_, m8_, m9_, (.pointer (some ⟨M.g, 0, none⟩)), (by rw [ha.out]; exact putSel_upk 11 hb_ rfl rfl rfl), Q_B0, fun _ h1_ => absurd ((hon 7 (by kernel_rfl)).symm.trans h1_) (by decide), Q_PR, Q_X6_, Q_X7_, Q_X8_, Q_X9_, fun _ => rfl⟩
        refine steps_cons ?_ ?_
        · rintro b a w' ⟨As, cs, M, m6_, m7_, m8_, m9_, m11_, ha, Q_B0, Q_SA, Q_PR, Q_X6_, Q_X7_, Q_X8_, Q_X9_, Q_X11_⟩ hb_ hon hoff
          refine ⟨_, rfl, fun K hK => ?_⟩
          have e50 : a.tmps[50]? = some (.int .i64 0) := by rw [ha]; exact putSel_on (e := (10, 50, .int .i64 0)) 10 rfl rfl (hon 10 (by kernel_rfl)) rfl
          replace ha := Aside0.mk ha
          have B0 := Aside0.mk Q_B0
          have PR := Aside0.mk (Q_PR (hon 7 (by kernel_rfl)))
          refine value_ (w1 := w') (v := .int .i64 0) (by rfl) rfl ?_ ?_
          · go_simp
            (try simp only [i64_w])
            try rfl
          refine hK.out _ _ ⟨As, cs, M, m6_, m7_, m8_, m9_, m11_, (by rw [ha.out]; exact putSel_upk 12 hb_ rfl rfl rfl), Q_B0, fun _ h1_ => absurd ((hon 7 (by kernel_rfl)).symm.trans h1_) (by decide), Q_PR, Q_X6_, Q_X7_, Q_X8_, Q_X9_, Q_X11_⟩
        exact steps_nil
      rintro b a w6 hall ⟨As, cs, M, m6_, m7_, m8_, m9_, m11_, ha, Q_B0, Q_SA, Q_PR, Q_X6_, Q_X7_, Q_X8_, Q_X9_, Q_X11_⟩
      clear B0
      have hb0_ := hall 0 (by kernel_rfl)
      have hb1_ := hall 1 (by kernel_rfl)
      have hb2_ := hall 2 (by kernel_rfl)
      have hb3_ := hall 3 (by kernel_rfl)
      have hb4_ := hall 4 (by kernel_rfl)
      have hb5_ := hall 5 (by kernel_rfl)
      have hb6_ := hall 6 (by kernel_rfl)
      have hb7_ := hall 7 (by kernel_rfl)
      have hb8_ := hall 8 (by kernel_rfl)
      have hb9_ := hall 9 (by kernel_rfl)
      have hb10_ := hall 10 (by kernel_rfl)
      have hb11_ := hall 11 (by kernel_rfl)
      have hb12_ := hall 12 (by kernel_rfl)
      subst ha
      obtain rfl := Q_X6_ hb6_
      obtain rfl := Q_X7_ hb7_
      obtain rfl := Q_X8_ hb8_
      obtain rfl := Q_X9_ hb9_
      obtain rfl := Q_X11_ hb11_
      simp only [putSel, hb0_, hb1_, hb2_, hb3_, hb4_, hb5_, hb6_, hb7_, hb8_, hb9_, hb10_, hb11_, hb12_, if_true, Act.put, List.setIfInBounds_toArray, List.set_cons_zero, List.set_cons_succ]
      have B0 := Aside0.mk Q_B0
      clear Q_B0
      clear Q_SA
      have PR := Aside0.mk (Q_PR hb7_)
      clear Q_PR
      clear hall hb0_ hb1_ hb2_ hb3_ hb4_ hb5_ hb6_ hb7_ hb8_ hb9_ hb10_ hb11_ hb12_
      have HB6 := Aside0.mk (below_then HB5.out HB5.out.size B0.out)
      have HZ6 := Aside0.mk (blk_below HZ5.out B0.out)
      have HIV0 : Aside0 (loopI (newDv B P C bad fs) (newDv B P C bad so) W2 w6 L M fs bad B 0 0) := ⟨PR.out, by rw [HSO.out]; exact sim_new B P C bad fs, rfl, rfl, rfl, rfl⟩
      generalize newDv B P C bad fs = D0 at HIV0
      generalize newDv B P C bad so = E0 at HIV0
      obtain ⟨cn, hcn⟩ := Int.eq_ofNat_of_zero_le (show 0 ≤ cut % 20 by omega)
      have HCN : Aside0 (cn < 20) := ⟨by omega⟩
      have hc0 : 0 ≤ cut := HIN.out.2.2.2.2.2.1
      have hc1 : cut ≤ 255 := HIN.out.2.2.2.2.2.2
      have hcm : Int.tmod cut 20 = (cn : Int) := by rw [Int.tmod_eq_emod_of_nonneg hc0, hcn]
      have hw8 : IntKind.u8.wrap (cn : Int) = (cn : Int) := by have := HCN.out; simp [IntKind.wrap, IntKind.bits, IntKind.signed]; omega
      have hw64 : IntKind.i64.wrap (cn : Int) = (cn : Int) := (ND.wrap_id (by omega) (by have := HCN.out; omega)).1
      clear B0 SA HST HN2 HH5 PR
      go_upto_block 0 with fail
      clear hcn hc0 hc1 hcm hw8 hw64
      go_cut [10] (fun v10 wx => ∃ (D E : Dv) (i : Nat), Aside0 (i ≤ 20) ∧ Aside0 (loopI D E W2 wx L M fs bad B 0 i) ∧ Aside0 (wx.heap[g2]? = some (.cells #[.int .i64 B, .int .i64 P, .int .i64 C, .slice Ab bad.length cb, .slice Af fs.length cf] 27 (0, 0))))
      case first => as_aux_lemma =>
        go_wp2_with fail
        go_loopg [10] (cn + 1) (fun kq v10 w' => ∃ (i : Nat) (D E : Dv), v10 = .int .i64 (i : Int) ∧ Aside0 (i ≤ cn ∧ kq + i = cn + 1) ∧ Aside0 (loopI D E W2 w' L M fs bad B 0 i) ∧ Aside0 (w'.heap[g2]? = some (.cells #[.int .i64 B, .int .i64 P, .int .i64 C, .slice Ab bad.length cb, .slice Af fs.length cf] 27 (0, 0))))
        case atStart => exact ⟨0, D0, E0, rfl, ⟨Nat.zero_le _, rfl⟩, HIV0, HZ6⟩
        case round =>
          obtain ⟨i, D, E, rfl, HI, HLI, HZL⟩ := hrel
          clear HIV0
          by_cases hi : i < cn
          case neg =>
            have t1 : decide ((i : Int) < (cn : Int)) = false := decide_eq_false (by omega)
            have t2 : decide (i < cn) = false := decide_eq_false hi
            clear hi
            go_wp2_with fail
            go_meet
            exact ⟨D, E, i, ⟨by have := HI.out; have := HCN.out; omega⟩, HLI, HZL⟩
          case pos =>
            have t1 : decide ((i : Int) < (cn : Int)) = true := decide_eq_true (by omega)
            have t2 : decide (i < cn) = true := decide_eq_true hi
            have b0 : (0 : Int) ≤ (i : Int) := by omega
            have b1 : (i : Int) ≤ 20 := by have := HCN.out; omega
            have hsm : ∀ b, ((D.erase b).1 != (E.erase b).1) = false := fun b => by rw [sim_same HLI.out.2.1 b]; simp
            have HNS : Aside0 (¬ L.S g2 ∧ ¬ M.S g2) := ⟨fun h => by have := HLI.out.1.hi _ (.inl h); have := blk_lt HZ2.out; omega, fun h => by have := HLI.out.1.hi _ (.inr h); have := blk_lt HZ2.out; omega⟩
            have HI2 := Aside0.mk hi
            clear hi
            go_upto_region 10 with (go_at_call 16; refine (pair_erase HLI.out.1 _).mono ?_; rintro e w9 ⟨rfl, hP, hT⟩; have HP9 := Aside0.mk hP; have HZ9 := Aside0.mk (ND.blk_turn HZL.out hT HNS.out.1); clear hP hT)
            go_upto_region 11 with (go_at_call 16; refine (pair_erase HP9.out.symm _).mono ?_; rintro e w10 ⟨rfl, hP, hT⟩; have HP10 := Aside0.mk hP.symm; have HZ10 := Aside0.mk (ND.blk_turn HZ9.out hT HNS.out.2); clear hP hT)
            go_upto_region 13 with fail
            go_upto_region 14 with (go_at_call 19; refine (pair_power HP10.out).mono ?_; rintro e w11 ⟨rfl, hP, hT⟩; have HP11 := Aside0.mk hP; have HZ11 := Aside0.mk (ND.blk_turn HZ10.out hT HNS.out.1); clear hP hT)
            go_wp2_with (go_at_call 19; refine (pair_power HP11.out.symm).mono ?_; rintro e w12 ⟨rfl, hP, hT⟩; have HP12 := Aside0.mk hP.symm; have HZ12 := Aside0.mk (ND.blk_turn HZ11.out hT HNS.out.2); clear hP hT)
            go_roundg (cn - i)
            case measure => have := HI.out; have := HI2.out; omega
            case rel =>
              refine ⟨i + 1, _, _, by first | rfl | go_num, ⟨by have := HI2.out; omega, by have := HI.out; have := HI2.out; omega⟩, ⟨HP12.out, ?_, ?_⟩, HZ12⟩
              · have := sim_next HLI.out.2.1 (by have := HCN.out; have := HI2.out; omega) (2 + (i : Int) % 2)
                rw [show 0 + i + 1 = 0 + (i + 1) by omega] at this
                exact this
              · have k := erase_keeps D (2 + (i : Int) % 2)
                exact ⟨k.1.trans HLI.out.2.2.1, k.2.2.1.trans HLI.out.2.2.2.1, k.2.1.trans HLI.out.2.2.2.2.1, k.2.2.2⟩
      case rest =>
      obtain ⟨D, E, i1, HI1, HLI, HZL⟩ := hcut
      obtain ⟨w7, hw7⟩ : ∃ w : World, w = wc := ⟨_, rfl⟩
      subst hw7
      have HB7 : Aside0 (Below W.heap.size W w7) := ⟨below_then HB2.out HB2.out.size HLI.out.1.bel⟩
      have HSM := Aside0.mk HLI.out.2.1
      have hfa : D.faults = fs := HLI.out.2.2.1
      have hba : D.bad = bad := HLI.out.2.2.2.1
      have hbb : D.B = B := HLI.out.2.2.2.2.1
      have hdd : D.down = false := HLI.out.2.2.2.2.2
      have HLA := Aside0.mk HLI.out.1.left
      have HLB := Aside0.mk HLI.out.1.bel
      have HLH : Aside0 (∀ k, L.S k → W2.heap.size ≤ k) := ⟨fun k hk => HLI.out.1.hi k (.inl hk)⟩
      obtain ⟨no, hno⟩ : ∃ n, n = D.ops := ⟨_, rfl⟩
      have hod := HSM.out.od
      rw [← hno] at hod
      obtain ⟨fl, hfl⟩ : ∃ l, l = fromL fs no := ⟨_, rfl⟩
      have HFL : Aside0 (fl.length ≤ fs.length ∧ ∀ f ∈ fl, isBytes f.f2 ∧ f.f2.length ≤ 1000) := ⟨by
        rw [hfl]
        unfold fromL
        refine ⟨by rw [List.length_map]; exact List.length_filter_le _ _, fun f hf => ?_⟩
        obtain ⟨x, hx, rfl⟩ := List.mem_map.1 hf
        exact HLP.out.2.2 x (List.mem_filter.1 hx).1⟩
      have HOP : Aside0 (∀ W', Below w7.heap.size w7 W' → Calls Try.prog 32 #[.pointer (some ⟨L.g, 0, none⟩)] W' fun e w' => e = .returned (.int .i64 no) ∧ Below W'.heap.size W' w') := ⟨fun W' hW => by obtain ⟨ok, hD⟩ := HLA.out; rw [hno]; exact ND.ops_calls (hD.below hW)⟩
      have HFM : Aside0 (∀ W', Below w7.heap.size w7 W' → Calls Try.prog 55 #[.slice Af fs.length cf, .int .i64 no] W' fun e w' => ∃ A1 c1, e = .returned (.slice A1 fl.length c1) ∧ (fl.length ≤ c1 ∧ Kd.C k65 w' A1 fl.length fl) ∧ Below W'.heap.size W' w') := ⟨fun W' hW => (from_calls fs Af cf no W' HLF.out hod.1 (Kd.C_below HIN.out.2.2.1 (below_then HB7.out HB7.out.size hW))).mono fun e w' ⟨v, he, hR, hb⟩ => by
        rw [← hfl] at hR
        obtain ⟨A1, c1, hv, hl1, hC1⟩ := Kd.R_reads hR
        exact ⟨A1, c1, by rw [he, hv], ⟨hl1, hC1⟩, hb⟩⟩
      have HN3 : Aside0 (∀ W' A1 c1, Below w7.heap.size w7 W' → fl.length ≤ c1 ∧ Kd.C k65 W' A1 fl.length fl → Calls Try.prog 14 #[.agg #[.int .i64 B, .int .i64 P, .int .i64 C], .slice Ab bad.length cb, .slice A1 fl.length c1] W' fun e w' => ∃ M : Lay, e = .returned (.tuple #[.pointer (some ⟨M.g, 0, none⟩), .int .i64 0]) ∧ Pair W2 w' L M D (newDv B P C bad fl) ∧ Below W'.heap.size W' w') := ⟨fun W' A1 c1 hW hS => (ND.new_calls (W := W') B P C bad fl Ab A1 cb c1 (Kd.C_below HIN.out.1 (below_then HB7.out HB7.out.size hW)) hS.2 (by have := HLP.out.1; omega) (by have := HLP.out.2.1; have := HFL.out.1; omega) HFL.out.2).mono fun e w' hN => by
        obtain ⟨ok, hD⟩ := HLA.out
        exact pair_new ⟨ok, hD.below hW⟩ (below_then HLB.out HLB.out.size hW) HLH.out hN HRG.out⟩
      have HSI : Aside0 (Sim D (newDv B P C bad fl) (0 + i1)) := ⟨by
        have k := sim_from (D := D) (n := 0 + i1) hdd HSM.out.od (by have := HI1.out; omega) (by rw [hfa]; exact fun x hx => (HIN.out.2.2.2.2.1 x hx).2) P C
        rw [hfa, hba, hbb, ← hno, ← hfl] at k
        exact k⟩
      have HKP := Aside0.mk (And.intro hfa (And.intro hba (And.intro hbb hdd)))
      have B0 := Aside0.mk (below_drew1 (Below.refl w7.heap.size w7))
      have SA := True.intro
      have PR := True.intro
      clear hfa hba hbb hdd hno hod hfl HSM HLI HIV0 HZ6 HB6
      go_upto_region 15 with fail
      refine start_ (n := 15) (S := fun w' => True) (ds := []) #[false, false, false, false, false, false, false, false, false, false, false, false, false, false, false] (by kernel_rfl) rfl rfl trivial (fun hHeld => ?_)
      refine with_tabW ddo15.tab15 ddo15.bits15 (fun HT_ HW_ => ?_)
      generalize w7.drew = wz at B0 hHeld ⊢
      refine inv_at [0, 1, 2, 3, 4, 5, 6, 7, 8, 9, 10, 11, 12, 13, 14] (fun a0_ b a w' => ∃ (As : Option Addr) (cs : Nat) (M2 : Lay) (m8_ : Value) (m9_ : Value) (m10_ : Value) (m11_ : Value) (m13_ : Value), a = putSel a0_ b [(0, 77, .pointer (some ⟨g2, 0, none⟩)), (1, 78, .agg #[.int .i64 B, .int .i64 P, .int .i64 C]), (2, 79, .pointer (some ⟨g2, 3, none⟩)), (3, 80, .slice Ab bad.length cb), (4, 81, .pointer (some ⟨g2, 4, none⟩)), (5, 82, .slice Af fs.length cf), (6, 83, .pointer (some ⟨L.g, 0, none⟩)), (7, 84, .int .i64 no), (8, 85, m8_), (9, 86, m9_), (10, 76, m10_), (11, 87, m11_), (12, 88, .int .i64 0), (13, 13, m13_), (14, 14, .int .i64 0)] ∧ (Below w7.heap.size w7 w') ∧ (b 8 = true → b 9 = false → fl.length ≤ cs ∧ Kd.C k65 w' As fl.length fl) ∧ (b 9 = true → Pair W2 w' L M2 D (newDv B P C bad fl)) ∧ (b 8 = true → (m8_ : Value) = .slice As fl.length cs) ∧ (b 9 = true → (m9_ : Value) = .tuple #[.pointer (some ⟨M2.g, 0, none⟩), .int .i64 0]) ∧ (b 10 = true → (m10_ : Value) = .tuple #[.pointer (some ⟨M2.g, 0, none⟩), .int .i64 0]) ∧ (b 11 = true → (m11_ : Value) = .pointer (some ⟨M2.g, 0, none⟩)) ∧ (b 13 = true → (m13_ : Value) = .pointer (some ⟨M2.g, 0, none⟩))) HT_.out HW_.out (by kernel_rfl) (by kernel_rfl) ?_ ?_ ?_
      · exact ⟨none, 0, L, .bool false, .bool false, .bool false, .bool false, .bool false, by simp only [putSel, Bool.false_eq_true, if_false], B0.out, fun h_ => absurd h_ (by decide), fun h_ => absurd h_ (by decide), fun h_ => absurd h_ (by decide), fun h_ => absurd h_ (by decide), fun h_ => absurd h_ (by decide), fun h_ => absurd h_ (by decide), fun h_ => absurd h_ (by decide)⟩
      · skip
        clear B0
        refine steps_cons ?_ ?_
        · rintro b a w' ⟨As, cs, M2, m8_, m9_, m10_, m11_, m13_, ha, Q_B0, Q_SA, Q_PR, Q_X8_, Q_X9_, Q_X10_, Q_X11_, Q_X13_⟩ hb_ hon hoff
          refine ⟨_, rfl, fun K hK => ?_⟩
          have e2 : a.tmps[2]? = some (.pointer (some ⟨g2, 0, none⟩)) := by rw [ha]; exact (putSel_off rfl).trans rfl
          replace ha := Aside0.mk ha
          have B0 := Aside0.mk Q_B0
          refine value_ (w1 := w') (v := .pointer (some ⟨g2, 0, none⟩)) (by rfl) rfl ?_ ?_
          · go_simp
            (try simp only [i64_w])
            try rfl
          refine hK.out _ _ ⟨As, cs, M2, m8_, m9_, m10_, m11_, m13_, (by rw [ha.out]; exact putSel_upk 0 hb_ rfl rfl rfl), Q_B0, Q_SA, fun h0_ => absurd ((hoff 9 (by kernel_rfl)).symm.trans h0_) (by decide), Q_X8_, fun h0_ => absurd ((hoff 9 (by kernel_rfl)).symm.trans h0_) (by decide), fun h0_ => absurd ((hoff 10 (by kernel_rfl)).symm.trans h0_) (by decide), fun h0_ => absurd ((hoff 11 (by kernel_rfl)).symm.trans h0_) (by decide), fun h0_ => absurd ((hoff 13 (by kernel_rfl)).symm.trans h0_) (by decide)⟩
        refine steps_cons ?_ ?_
        · rintro b a w' ⟨As, cs, M2, m8_, m9_, m10_, m11_, m13_, ha, Q_B0, Q_SA, Q_PR, Q_X8_, Q_X9_, Q_X10_, Q_X11_, Q_X13_⟩ hb_ hon hoff
          refine ⟨_, rfl, fun K hK => ?_⟩
          have e77 : a.tmps[77]? = some (.pointer (some ⟨g2, 0, none⟩)) := by rw [ha]; exact putSel_on (e := (0, 77, .pointer (some ⟨g2, 0, none⟩))) 0 rfl rfl (hon 0 (by kernel_rfl)) rfl
          replace ha := Aside0.mk ha
          have B0 := Aside0.mk Q_B0
          have c0_ := blk_cell (blk_below HZL.out B0.out) 0
          have c1_ := blk_cell (blk_below HZL.out B0.out) 1
          have c2_ := blk_cell (blk_below HZL.out B0.out) 2
          refine value_ (w1 := w') (v := .agg #[.int .i64 B, .int .i64 P, .int .i64 C]) (by rfl) rfl ?_ ?_
          · go_simp
            (try simp only [i64_w])
            try rfl
          refine hK.out _ _ ⟨As, cs, M2, m8_, m9_, m10_, m11_, m13_, (by rw [ha.out]; exact putSel_upk 1 hb_ rfl rfl rfl), Q_B0, Q_SA, fun h0_ => absurd ((hoff 9 (by kernel_rfl)).symm.trans h0_) (by decide), Q_X8_, fun h0_ => absurd ((hoff 9 (by kernel_rfl)).symm.trans h0_) (by decide), fun h0_ => absurd ((hoff 10 (by kernel_rfl)).symm.trans h0_) (by decide), fun h0_ => absurd ((hoff 11 (by kernel_rfl)).symm.trans h0_) (by decide), fun h0_ => absurd ((hoff 13 (by kernel_rfl)).symm.trans h0_) (by decide)⟩
        refine steps_cons ?_ ?_
        · rintro b a w' ⟨As, cs, M2, m8_, m9_, m10_, m11_, m13_, ha, Q_B0, Q_SA, Q_PR, Q_X8_, Q_X9_, Q_X10_, Q_X11_, Q_X13_⟩ hb_ hon hoff
          refine ⟨_, rfl, fun K hK => ?_⟩
          have e2 : a.tmps[2]? = some (.pointer (some ⟨g2, 0, none⟩)) := by rw [ha]; exact (putSel_off rfl).trans rfl
          replace ha := Aside0.mk ha
          have B0 := Aside0.mk Q_B0
          refine value_ (w1 := w') (v := .pointer (some ⟨g2, 3, none⟩)) (by rfl) rfl ?_ ?_
          · go_simp
            (try simp only [i64_w])
            try rfl
          refine hK.out _ _ ⟨As, cs, M2, m8_, m9_, m10_, m11_, m13_, (by rw [ha.out]; exact putSel_upk 2 hb_ rfl rfl rfl), Q_B0, Q_SA, fun h0_ => absurd ((hoff 9 (by kernel_rfl)).symm.trans h0_) (by decide), Q_X8_, fun h0_ => absurd ((hoff 9 (by kernel_rfl)).symm.trans h0_) (by decide), fun h0_ => absurd ((hoff 10 (by kernel_rfl)).symm.trans h0_) (by decide), fun h0_ => absurd ((hoff 11 (by kernel_rfl)).symm.trans h0_) (by decide), fun h0_ => absurd ((hoff 13 (by kernel_rfl)).symm.trans h0_) (by decide)⟩
        refine steps_cons ?_ ?_
        · rintro b a w' ⟨As, cs, M2, m8_, m9_, m10_, m11_, m13_, ha, Q_B0, Q_SA, Q_PR, Q_X8_, Q_X9_, Q_X10_, Q_X11_, Q_X13_⟩ hb_ hon hoff
          refine ⟨_, rfl, fun K hK => ?_⟩
          have e79 : a.tmps[79]? = some (.pointer (some ⟨g2, 3, none⟩)) := by rw [ha]; exact putSel_on (e := (2, 79, .pointer (some ⟨g2, 3, none⟩))) 2 rfl rfl (hon 2 (by kernel_rfl)) rfl
          replace ha := Aside0.mk ha
          have B0 := Aside0.mk Q_B0
          have c0_ := blk_cell (blk_below HZL.out B0.out) 3
          refine value_ (w1 := w') (v := .slice Ab bad.length cb) (by rfl) rfl ?_ ?_
          · go_simp
            (try simp only [i64_w])
            try rfl
          refine hK.out _ _ ⟨As, cs, M2, m8_, m9_, m10_, m11_, m13_, (by rw [ha.out]; exact putSel_upk 3 hb_ rfl rfl rfl), Q_B0, Q_SA, fun h0_ => absurd ((hoff 9 (by kernel_rfl)).symm.trans h0_) (by decide), Q_X8_, fun h0_ => absurd ((hoff 9 (by kernel_rfl)).symm.trans h0_) (by decide), fun h0_ => absurd ((hoff 10 (by kernel_rfl)).symm.trans h0_) (by decide), fun h0_ => absurd ((hoff 11 (by kernel_rfl)).symm.trans h0_) (by decide), fun h0_ => absurd ((hoff 13 (by kernel_rfl)).symm.trans h0_) (by decide)⟩
        refine steps_cons ?_ ?_
        · rintro b a w' ⟨As, cs, M2, m8_, m9_, m10_, m11_, m13_, ha, Q_B0, Q_SA, Q_PR, Q_X8_, Q_X9_, Q_X10_, Q_X11_, Q_X13_⟩ hb_ hon hoff
          refine ⟨_, rfl, fun K hK => ?_⟩
          have e2 : a.tmps[2]? = some (.pointer (some ⟨g2, 0, none⟩)) := by rw [ha]; exact (putSel_off rfl).trans rfl
          replace ha := Aside0.mk ha
          have B0 := Aside0.mk Q_B0
          refine value_ (w1 := w') (v := .pointer (some ⟨g2, 4, none⟩)) (by rfl) rfl ?_ ?_
          · go_simp
            (try simp only [i64_w])
            try rfl
          refine hK.out _ _ ⟨As, cs, M2, m8_, m9_, m10_, m11_, m13_, (by rw [ha.out]; exact putSel_upk 4 hb_ rfl rfl rfl), Q_B0, fun h0_ _ => absurd ((hoff 8 (by kernel_rfl)).symm.trans h0_) (by decide), fun h0_ => absurd ((hoff 9 (by kernel_rfl)).symm.trans h0_) (by decide), fun h0_ => absurd ((hoff 8 (by kernel_rfl)).symm.trans h0_) (by decide), fun h0_ => absurd ((hoff 9 (by kernel_rfl)).symm.trans h0_) (by decide), fun h0_ => absurd ((hoff 10 (by kernel_rfl)).symm.trans h0_) (by decide), fun h0_ => absurd ((hoff 11 (by kernel_rfl)).symm.trans h0_) (by decide), fun h0_ => absurd ((hoff 13 (by kernel_rfl)).symm.trans h0_) (by decide)⟩
        refine steps_cons ?_ ?_
        · rintro b a w' ⟨As, cs, M2, m8_, m9_, m10_, m11_, m13_, ha, Q_B0, Q_SA, Q_PR, Q_X8_, Q_X9_, Q_X10_, Q_X11_, Q_X13_⟩ hb_ hon hoff
          refine ⟨_, rfl, fun K hK => ?_⟩
          have e81 : a.tmps[81]? = some (.pointer (some ⟨g2, 4, none⟩)) := by rw [ha]; exact putSel_on (e := (4, 81, .pointer (some ⟨g2, 4, none⟩))) 4 rfl rfl (hon 4 (by kernel_rfl)) rfl
          replace ha := Aside0.mk ha
          have B0 := Aside0.mk Q_B0
          have c0_ := blk_cell (blk_below HZL.out B0.out) 4
          refine value_ (w1 := w') (v := .slice Af fs.length cf) (by rfl) rfl ?_ ?_
          · go_simp
            (try simp only [i64_w])
            try rfl
          refine hK.out _ _ ⟨As, cs, M2, m8_, m9_, m10_, m11_, m13_, (by rw [ha.out]; exact putSel_upk 5 hb_ rfl rfl rfl), Q_B0, fun h0_ _ => absurd ((hoff 8 (by kernel_rfl)).symm.trans h0_) (by decide), fun h0_ => absurd ((hoff 9 (by kernel_rfl)).symm.trans h0_) (by decide), fun h0_ => absurd ((hoff 8 (by kernel_rfl)).symm.trans h0_) (by decide), fun h0_ => absurd ((hoff 9 (by kernel_rfl)).symm.trans h0_) (by decide), fun h0_ => absurd ((hoff 10 (by kernel_rfl)).symm.trans h0_) (by decide), fun h0_ => absurd ((hoff 11 (by kernel_rfl)).symm.trans h0_) (by decide), fun h0_ => absurd ((hoff 13 (by kernel_rfl)).symm.trans h0_) (by decide)⟩
        refine steps_cons ?_ ?_
        · rintro b a w' ⟨As, cs, M2, m8_, m9_, m10_, m11_, m13_, ha, Q_B0, Q_SA, Q_PR, Q_X8_, Q_X9_, Q_X10_, Q_X11_, Q_X13_⟩ hb_ hon hoff
          refine ⟨_, rfl, fun K hK => ?_⟩
          have e5 : a.tmps[5]? = some (.pointer (some ⟨L.g, 0, none⟩)) := by rw [ha]; exact (putSel_off rfl).trans rfl
          replace ha := Aside0.mk ha
          have B0 := Aside0.mk Q_B0
          refine value_ (w1 := w') (v := .pointer (some ⟨L.g, 0, none⟩)) (by rfl) rfl ?_ ?_
          · go_simp
            (try simp only [i64_w])
            try rfl
          refine hK.out _ _ ⟨As, cs, M2, m8_, m9_, m10_, m11_, m13_, (by rw [ha.out]; exact putSel_upk 6 hb_ rfl rfl rfl), Q_B0, fun h0_ _ => absurd ((hoff 8 (by kernel_rfl)).symm.trans h0_) (by decide), fun h0_ => absurd ((hoff 9 (by kernel_rfl)).symm.trans h0_) (by decide), fun h0_ => absurd ((hoff 8 (by kernel_rfl)).symm.trans h0_) (by decide), fun h0_ => absurd ((hoff 9 (by kernel_rfl)).symm.trans h0_) (by decide), fun h0_ => absurd ((hoff 10 (by kernel_rfl)).symm.trans h0_) (by decide), fun h0_ => absurd ((hoff 11 (by kernel_rfl)).symm.trans h0_) (by decide), fun h0_ => absurd ((hoff 13 (by kernel_rfl)).symm.trans h0_) (by decide)⟩
        refine steps_cons ?_ ?_
        · rintro b a w' ⟨As, cs, M2, m8_, m9_, m10_, m11_, m13_, ha, Q_B0, Q_SA, Q_PR, Q_X8_, Q_X9_, Q_X10_, Q_X11_, Q_X13_⟩ hb_ hon hoff
          refine ⟨_, rfl, fun K hK => ?_⟩
          have e83 : a.tmps[83]? = some (.pointer (some ⟨L.g, 0, none⟩)) := by rw [ha]; exact putSel_on (e := (6, 83, .pointer (some ⟨L.g, 0, none⟩))) 6 rfl rfl (hon 6 (by kernel_rfl)) rfl
          replace ha := Aside0.mk ha
          have B0 := Aside0.mk Q_B0
          refine goes_ Try.func32 (by kernel_rfl) rfl #[.pointer (some ⟨L.g, 0, none⟩)] (by rfl) rfl rfl (by first | (simp only [List.map_toArray, List.map_cons, List.map_nil, Act.eval, Array.getD_eq_getD_getElem?, Option.getD_some, e83]; done) | (simp only [List.map_toArray, List.map_cons, List.map_nil, Act.eval, Array.getD_eq_getD_getElem?, Option.getD_some, e83]; rfl)) ?_
          with_reducible refine (HOP.out _ B0.out).mono ?_
          rintro e w2 ⟨rfl, hb⟩
          refine ⟨_, rfl, ?_⟩
          refine hK.out _ _ ⟨As, cs, M2, m8_, m9_, m10_, m11_, m13_, (by rw [ha.out]; exact putSel_upk 7 hb_ rfl rfl rfl), below_then B0.out B0.out.size hb, fun h0_ _ => absurd ((hoff 8 (by kernel_rfl)).symm.trans h0_) (by decide), fun h0_ => absurd ((hoff 9 (by kernel_rfl)).symm.trans h0_) (by decide), fun h0_ => absurd ((hoff 8 (by kernel_rfl)).symm.trans h0_) (by decide), fun h0_ => absurd ((hoff 9 (by kernel_rfl)).symm.trans h0_) (by decide), fun h0_ => absurd ((hoff 10 (by kernel_rfl)).symm.trans h0_) (by decide), fun h0_ => absurd ((hoff 11 (by kernel_rfl)).symm.trans h0_) (by decide), fun h0_ => absurd ((hoff 13 (by kernel_rfl)).symm.trans h0_) (by decide)⟩
        refine steps_cons ?_ ?_
        · rintro b a w' ⟨As, cs, M2, m8_, m9_, m10_, m11_, m13_, ha, Q_B0, Q_SA, Q_PR, Q_X8_, Q_X9_, Q_X10_, Q_X11_, Q_X13_⟩ hb_ hon hoff
          refine ⟨_, rfl, fun K hK => ?_⟩
          have e82 : a.tmps[82]? = some (.slice Af fs.length cf) := by rw [ha]; exact putSel_on (e := (5, 82, .slice Af fs.length cf)) 5 rfl rfl (hon 5 (by kernel_rfl)) rfl
          have e84 : a.tmps[84]? = some (.int .i64 no) := by rw [ha]; exact putSel_on (e := (7, 84, .int .i64 no)) 7 rfl rfl (hon 7 (by kernel_rfl)) rfl
          replace ha := Aside0.mk ha
          have B0 := Aside0.mk Q_B0
          refine goes_ Try.func55 (by kernel_rfl) rfl #[.slice Af fs.length cf, .int .i64 no] (by rfl) rfl rfl (by first | (simp only [List.map_toArray, List.map_cons, List.map_nil, Act.eval, Array.getD_eq_getD_getElem?, Option.getD_some, e82, e84]; done) | (simp only [List.map_toArray, List.map_cons, List.map_nil, Act.eval, Array.getD_eq_getD_getElem?, Option.getD_some, e82, e84]; rfl)) ?_
          with_reducible refine (HFM.out _ B0.out).mono ?_
          rintro e w2 ⟨A_, c_, rfl, hc_, hb⟩
          refine ⟨_, rfl, ?_⟩
          refine hK.out _ _ ⟨A_, c_, M2, (.slice A_ fl.length c_), m9_, m10_, m11_, m13_, (by rw [ha.out]; exact putSel_upk 8 hb_ rfl rfl rfl), below_then B0.out B0.out.size hb, fun _ _ => hc_, fun h0_ => absurd ((hoff 9 (by kernel_rfl)).symm.trans h0_) (by decide), fun _ => rfl, fun h0_ => absurd ((hoff 9 (by kernel_rfl)).symm.trans h0_) (by decide), fun h0_ => absurd ((hoff 10 (by kernel_rfl)).symm.trans h0_) (by decide), fun h0_ => absurd ((hoff 11 (by kernel_rfl)).symm.trans h0_) (by decide), fun h0_ => absurd ((hoff 13 (by kernel_rfl)).symm.trans h0_) (by decide)⟩
        refine steps_cons ?_ ?_
        · rintro b a w' ⟨As, cs, M2, m8_, m9_, m10_, m11_, m13_, ha, Q_B0, Q_SA, Q_PR, Q_X8_, Q_X9_, Q_X10_, Q_X11_, Q_X13_⟩ hb_ hon hoff
          refine ⟨_, rfl, fun K hK => ?_⟩
          have e78 : a.tmps[78]? = some (.agg #[.int .i64 B, .int .i64 P, .int .i64 C]) := by rw [ha]; exact putSel_on (e := (1, 78, .agg #[.int .i64 B, .int .i64 P, .int .i64 C])) 1 rfl rfl (hon 1 (by kernel_rfl)) rfl
          have e80 : a.tmps[80]? = some (.slice Ab bad.length cb) := by rw [ha]; exact putSel_on (e := (3, 80, .slice Ab bad.length cb)) 3 rfl rfl (hon 3 (by kernel_rfl)) rfl
          have e85 : a.tmps[85]? = some (m8_) := by rw [ha]; exact putSel_on (e := (8, 85, m8_)) 8 rfl rfl (hon 8 (by kernel_rfl)) rfl
          rw [Q_X8_ (hon 8 (by kernel_rfl))] at e85
          replace ha := Aside0.mk ha
          have B0 := Aside0.mk Q_B0
          have SA := Aside0.mk (Q_SA (hon 8 (by kernel_rfl)) hb_)
          refine goes_ Try.func14 (by kernel_rfl) rfl #[.agg #[.int .i64 B, .int .i64 P, .int .i64 C], .slice Ab bad.length cb, .slice As fl.length cs] (by rfl) rfl rfl (by first | (simp only [List.map_toArray, List.map_cons, List.map_nil, Act.eval, Array.getD_eq_getD_getElem?, Option.getD_some, e78, e80, e85]; done) | (simp only [List.map_toArray, List.map_cons, List.map_nil, Act.eval, Array.getD_eq_getD_getElem?, Option.getD_some, e78, e80, e85]; rfl)) ?_
          with_reducible refine (HN3.out _ _ _ B0.out SA.out).mono ?_
          rintro e w2 ⟨M_, rfl, hp_, hb⟩
          refine ⟨_, rfl, ?_⟩
          refine hK.out _ _ ⟨As, cs, M_, m8_, (.tuple #[.pointer (some ⟨M_.g, 0, none⟩), .int .i64 0]), m10_, m11_, m13_, (by rw [ha.out]; exact putSel_upk 9 hb_ rfl rfl rfl), below_then B0.out B0.out.size hb, fun _ h1_ => absurd ((up_self b 9).symm.trans h1_) (by decide), fun _ => hp_, Q_X8_, fun _ => rfl, fun h0_ => absurd ((hoff 10 (by kernel_rfl)).symm.trans h0_) (by decide), fun h0_ => absurd ((hoff 11 (by kernel_rfl)).symm.trans h0_) (by decide), fun h0_ => absurd ((hoff 13 (by kernel_rfl)).symm.trans h0_) (by decide)⟩
        refine steps_cons ?_ ?_
        · rintro b a w' ⟨As, cs, M2, m8_, m9_, m10_, m11_, m13_, ha, Q_B0, Q_SA, Q_PR, Q_X8_, Q_X9_, Q_X10_, Q_X11_, Q_X13_⟩ hb_ hon hoff
          refine ⟨_, rfl, fun K hK => ?_⟩
          have e86 : a.tmps[86]? = some (m9_) := by rw [ha]; exact putSel_on (e := (9, 86, m9_)) 9 rfl rfl (hon 9 (by kernel_rfl)) rfl
          rw [Q_X9_ (hon 9 (by kernel_rfl))] at e86
          replace ha := Aside0.mk ha
          have B0 := Aside0.mk Q_B0
          have PR := Aside0.mk (Q_PR (hon 9 (by kernel_rfl)))
          refine value_ (w1 := w') (v := .tuple #[.pointer (some ⟨M2.g, 0, none⟩), .int .i64 0]) (by rfl) rfl ?_ ?_
          · go_simp
            (try simp only [i64_w])
            try rfl
          refine hK.out _ _ ⟨As, cs, M2, m8_, m9_, (.tuple #[.pointer (some ⟨M2.g, 0, none⟩), .int .i64 0]), m11_, m13_, (by rw [ha.out]; exact putSel_upk 10 hb_ rfl rfl rfl), Q_B0, fun _ h1_ => absurd ((hon 9 (by kernel_rfl)).symm.trans h1_) (by decide), Q_PR, Q_X8_, Q_X9_, fun _ => rfl, fun h0_ => absurd ((hoff 11 (by kernel_rfl)).symm.trans h0_) (by decide), fun h0_ => absurd ((hoff 13 (by kernel_rfl)).symm.trans h0_) (by decide)⟩
        refine steps_cons ?_ ?_
        · rintro b a w' ⟨As, cs, M2, m8_, m9_, m10_, m11_, m13_, ha, Q_B0, Q_SA, Q_PR, Q_X8_, Q_X9_, Q_X10_, Q_X11_, Q_X13_⟩ hb_ hon hoff
          refine ⟨_, rfl, fun K hK => ?_⟩
          have e76 : a.tmps[76]? = some (m10_) := by rw [ha]; exact putSel_on (e := (10, 76, m10_)) 10 rfl rfl (hon 10 (by kernel_rfl)) rfl
          rw [Q_X10_ (hon 10 (by kernel_rfl))] at e76
          replace ha := Aside0.mk ha
          have B0 := Aside0.mk Q_B0
          have PR := Aside0.mk (Q_PR (hon 9 (by kernel_rfl)))
          refine value_ (w1 := w') (v := .pointer (some ⟨M2.g, 0, none⟩)) (by rfl) rfl ?_ ?_
          · go_simp
            (try simp only [i64_w])
            try rfl
          refine hK.out _ _ ⟨As, cs, M2, m8_, m9_, m10_, (.pointer (some ⟨M2.g, 0, none⟩)), m13_, (by rw [ha.out]; exact putSel_upk 11 hb_ rfl rfl rfl), Q_B0, fun _ h1_ => absurd ((hon 9 (by kernel_rfl)).symm.trans h1_) (by decide), Q_PR, Q_X8_, Q_X9_, Q_X10_, fun _ => rfl, fun h0_ => absurd ((hoff 13 (by kernel_rfl)).symm.trans h0_) (by decide)⟩
        refine steps_cons ?_ ?_
        · rintro b a w' ⟨As, cs, M2, m8_, m9_, m10_, m11_, m13_, ha, Q_B0, Q_SA, Q_PR, Q_X8_, Q_X9_, Q_X10_, Q_X11_, Q_X13_⟩ hb_ hon hoff
          refine ⟨_, rfl, fun K hK => ?_⟩
          have e76 : a.tmps[76]? = some (m10_) := by rw [ha]; exact putSel_on (e := (10, 76, m10_)) 10 rfl rfl (hon 10 (by kernel_rfl)) rfl
          rw [Q_X10_ (hon 10 (by kernel_rfl))] at e76
          replace ha := Aside0.mk ha
          have B0 := Aside0.mk Q_B0
          have PR := Aside0.mk (Q_PR (hon 9 (by kernel_rfl)))
          refine value_ (w1 := w') (v := .int .i64 0) (by rfl) rfl ?_ ?_
          · go_simp
            (try simp only [i64_w])
            try rfl
          refine hK.out _ _ ⟨As, cs, M2, m8_, m9_, m10_, m11_, m13_, (by rw [ha.out]; exact putSel_upk 12 hb_ rfl rfl rfl), Q_B0, fun _ h1_ => absurd ((hon 9 (by kernel_rfl)).symm.trans h1_) (by decide), Q_PR, Q_X8_, Q_X9_, Q_X10_, Q_X11_, Q_X13_⟩
        refine steps_cons ?_ ?_
        · rintro b a w' ⟨As, cs, M2, m8_, m9_, m10_, m11_, m13_, ha, Q_B0, Q_SA, Q_PR, Q_X8_, Q_X9_, Q_X10_, Q_X11_, Q_X13_⟩ hb_ hon hoff
          refine ⟨_, rfl, fun K hK => ?_⟩
          have e87 : a.tmps[87]? = some (m11_) := by rw [ha]; exact putSel_on (e := (11, 87, m11_)) 11 rfl rfl (hon 11 (by kernel_rfl)) rfl
          rw [Q_X11_ (hon 11 (by kernel_rfl))] at e87
          replace ha := Aside0.mk ha
          have B0 := Aside0.mk Q_B0
          have PR := Aside0.mk (Q_PR (hon 9 (by kernel_rfl)))
          refine value_ (w1 := w') (v := .pointer (some ⟨M2.g, 0, none⟩)) (by rfl) rfl ?_ ?_
          · go_simp
            (try simp only [i64_w])
            try rfl
          refine hK.out _ _ ⟨As, cs, M2, m8_, m9_, m10_, m11_, (.pointer (some ⟨M2.g, 0, none⟩)), (by rw [ha.out]; exact putSel_upk 13 hb_ rfl rfl rfl), Q_B0, fun _ h1_ => absurd ((hon 9 (by kernel_rfl)).symm.trans h1_) (by decide), Q_PR, Q_X8_, Q_X9_, Q_X10_, Q_X11_, fun _ => rfl⟩
        refine steps_cons ?_ ?_
        · rintro b a w' ⟨As, cs, M2, m8_, m9_, m10_, m11_, m13_, ha, Q_B0, Q_SA, Q_PR, Q_X8_, Q_X9_, Q_X10_, Q_X11_, Q_X13_⟩ hb_ hon hoff
          refine ⟨_, rfl, fun K hK => ?_⟩
          have e88 : a.tmps[88]? = some (.int .i64 0) := by rw [ha]; exact putSel_on (e := (12, 88, .int .i64 0)) 12 rfl rfl (hon 12 (by kernel_rfl)) rfl
          replace ha := Aside0.mk ha
          have B0 := Aside0.mk Q_B0
          have PR := Aside0.mk (Q_PR (hon 9 (by kernel_rfl)))
          refine value_ (w1 := w') (v := .int .i64 0) (by rfl) rfl ?_ ?_
          · go_simp
            (try simp only [i64_w])
            try rfl
          refine hK.out _ _ ⟨As, cs, M2, m8_, m9_, m10_, m11_, m13_, (by rw [ha.out]; exact putSel_upk 14 hb_ rfl rfl rfl), Q_B0, fun _ h1_ => absurd ((hon 9 (by kernel_rfl)).symm.trans h1_) (by decide), Q_PR, Q_X8_, Q_X9_, Q_X10_, Q_X11_, Q_X13_⟩
        exact steps_nil
      rintro b a w8 hall ⟨As, cs, M2, m8_, m9_, m10_, m11_, m13_, ha, Q_B0, Q_SA, Q_PR, Q_X8_, Q_X9_, Q_X10_, Q_X11_, Q_X13_⟩
      clear B0
      have hb0_ := hall 0 (by kernel_rfl)
      have hb1_ := hall 1 (by kernel_rfl)
      have hb2_ := hall 2 (by kernel_rfl)
      have hb3_ := hall 3 (by kernel_rfl)
      have hb4_ := hall 4 (by kernel_rfl)
      have hb5_ := hall 5 (by kernel_rfl)
      have hb6_ := hall 6 (by kernel_rfl)
      have hb7_ := hall 7 (by kernel_rfl)
      have hb8_ := hall 8 (by kernel_rfl)
      have hb9_ := hall 9 (by kernel_rfl)
      have hb10_ := hall 10 (by kernel_rfl)
      have hb11_ := hall 11 (by kernel_rfl)
      have hb12_ := hall 12 (by kernel_rfl)
      have hb13_ := hall 13 (by kernel_rfl)
      have hb14_ := hall 14 (by kernel_rfl)
      subst ha
      obtain rfl := Q_X8_ hb8_
      obtain rfl := Q_X9_ hb9_
      obtain rfl := Q_X10_ hb10_
      obtain rfl := Q_X11_ hb11_
      obtain rfl := Q_X13_ hb13_
      simp only [putSel, hb0_, hb1_, hb2_, hb3_, hb4_, hb5_, hb6_, hb7_, hb8_, hb9_, hb10_, hb11_, hb12_, hb13_, hb14_, if_true, Act.put, List.setIfInBounds_toArray, List.set_cons_zero, List.set_cons_succ]
      have B0 := Aside0.mk Q_B0
      clear Q_B0
      clear Q_SA
      have PR := Aside0.mk (Q_PR hb9_)
      clear Q_PR
      clear hall hb0_ hb1_ hb2_ hb3_ hb4_ hb5_ hb6_ hb7_ hb8_ hb9_ hb10_ hb11_ hb12_ hb13_ hb14_
      have HIV1 : Aside0 (loopI D (newDv B P C bad fl) W2 w8 L M2 fs bad B (0 + i1) 0) := ⟨PR.out, by rw [Nat.add_zero]; exact HSI.out, HKP.out⟩
      generalize newDv B P C bad fl = E1 at HIV1
      clear B0 SA PR HOP HFM HN3 HSI HKP HLA HLB
      go_wp2_with fail
      go_loopg [15] 11 (fun kq v15 w' => ∃ (i : Nat) (D E : Dv), v15 = .int .i64 (i : Int) ∧ Aside0 (i ≤ 10 ∧ kq + i = 11) ∧ Aside0 (loopI D E W2 w' L M2 fs bad B (0 + i1) i))
      case atStart => exact ⟨0, D, E1, rfl, ⟨by decide, rfl⟩, HIV1⟩
      case round =>
        obtain ⟨i, D, E, rfl, HI, HLI⟩ := hrel
        clear HIV1
        by_cases hi : i < 10
        case neg =>
          have t1 : decide ((i : Int) < 10) = false := decide_eq_false (by omega)
          have t2 : decide (i < 10) = false := decide_eq_false hi
          have HBE : Aside0 (Below W.heap.size W wr) := ⟨below_then HB2.out HB2.out.size HLI.out.1.bel⟩
          clear hi
          go_wp2_with fail
          go_ret
          exact ⟨rfl, HBE.out⟩
        case pos =>
          have t1 : decide ((i : Int) < 10) = true := decide_eq_true (by omega)
          have t2 : decide (i < 10) = true := decide_eq_true hi
          have b0 : (0 : Int) ≤ (i : Int) := by omega
          have b1 : (i : Int) ≤ 20 := by omega
          have hsm : ∀ b, ((D.erase b).1 != (E.erase b).1) = false := fun b => by rw [sim_same HLI.out.2.1 b]; simp
          have HI2 := Aside0.mk hi
          have tok1 := True.intro
          clear hi
          go_upto_region 21 with (first | (go_at_call 16; have tk := tok1; refine (pair_erase HLI.out.1 _).mono ?_; rintro e w9 ⟨rfl, hP, hT⟩; have HP9 := Aside0.mk hP; clear hP hT tok1 tk) | (go_at_call 16; refine (pair_erase HP9.out.symm _).mono ?_; rintro e w10 ⟨rfl, hP, hT⟩; have HP10 := Aside0.mk hP.symm; clear hP hT))
          go_upto_region 22 with (go_at_call 19; refine (pair_power HP10.out).mono ?_; rintro e w11 ⟨rfl, hP, hT⟩; have HP11 := Aside0.mk hP; clear hP hT)
          go_wp2_with (go_at_call 19; refine (pair_power HP11.out.symm).mono ?_; rintro e w12 ⟨rfl, hP, hT⟩; have HP12 := Aside0.mk hP.symm; clear hP hT)
          go_roundg (10 - i)
          case measure => have := HI.out; have := HI2.out; omega
          case rel =>
            refine ⟨i + 1, _, _, by first | rfl | go_num, ⟨by have := HI2.out; omega, by have := HI.out; have := HI2.out; omega⟩, ⟨HP12.out, ?_, ?_⟩⟩
            · have := sim_next HLI.out.2.1 (by have := HI1.out; have := HI2.out; omega) (2 + (i : Int) % 2)
              rw [show 0 + i1 + i + 1 = 0 + i1 + (i + 1) by omega] at this
              exact this
            · have k := erase_keeps D (2 + (i : Int) % 2)
              exact ⟨k.1.trans HLI.out.2.2.1, k.2.2.1.trans HLI.out.2.2.2.1, k.2.1.trans HLI.out.2.2.2.2.1, k.2.2.2⟩
end Go.Proofs.Ytnchdmidaigheaa.QS
namespace Go.Proofs.Ytnchdmidaigheaa.Hp
open Go.RowKit Go.Proofs.YtnchdmidaigheaaW.PrintWords Go.Proofs.YtnchdmidaigheaaW.PrintLast Go.Proofs.YtnchdmidaigheaaW.PrintMore
attribute [local go_sem] max2_int min2_int max_two min_two max_three min_three max_four min_four   -- for this text's walks alone
set_option linter.unusedVariables false
set_option linter.unusedSimpArgs false
open Classical in
noncomputable def wagtaillaw43_DamageDoes.f (p0 p1 p2 : Int) (bad : List Int) (fs : List S65) (cut : Int) : Option Bool := if (∀ f ∈ fs, isBytes f.f2 ∧ -9223372036854775808 ≤ f.f0 ∧ f.f0 ≤ 9223372036854775807) ∧ (0 ≤ cut ∧ cut ≤ 255) then some true else none
set_option maxHeartbeats 8000000 in
set_option maxRecDepth 100000 in
theorem wagtaillaw43_DamageDoes.calls (a0_0 : Int) (a0_1 : Int) (a0_2 : Int) (A0_3 : Option Addr) (c0_3 : Nat) (l0_3 : List Int) (A0_4 : Option Addr) (c0_4 : Nat) (l0_4 : List (S65)) (a1 : Int) (r : Bool) (w : World) (hr0_3 : Kd.C (Kd.int .i64) w A0_3 l0_3.length l0_3) (hc0_3 : l0_3.length ≤ c0_3) (hr0_4 : Kd.C k65 w A0_4 l0_4.length l0_4) (hc0_4 : l0_4.length ≤ c0_4) (h : wagtaillaw43_DamageDoes.f a0_0 a0_1 a0_2 l0_3 l0_4 a1 = some r) :
    Calls Try.prog 9 #[.agg #[.int .i64 a0_0, .int .i64 a0_1, .int .i64 a0_2, .slice A0_3 l0_3.length c0_3, .slice A0_4 l0_4.length c0_4], .int .u8 a1] w fun e w' => e = .returned (.bool r) ∧ Below w.heap.size w w' := by
  unfold wagtaillaw43_DamageDoes.f at h
  by_cases hc : (∀ f ∈ l0_4, isBytes f.f2 ∧ -9223372036854775808 ≤ f.f0 ∧ f.f0 ≤ 9223372036854775807) ∧ (0 ≤ a1 ∧ a1 ≤ 255)
  case neg => rw [if_neg hc] at h; cases h
  rw [if_pos hc] at h
  obtain rfl := Option.some.inj h
  exact QS.does43_calls a0_0 a0_1 a0_2 l0_3 l0_4 a1 A0_3 A0_4 c0_3 c0_4 hr0_3 hc0_3 hr0_4 hc0_4 hc.1 hc.2
end Go.Proofs.Ytnchdmidaigheaa.Hp
namespace Go.Proofs.Ytnchdmidaigheaa.Hp
open Go.RowKit Go.Proofs.YtnchdmidaigheaaW.PrintWords
def ok23 (x : S23) : Prop := ((Lit.int .i64 x.f0).wf = true) ∧ ((Lit.int .i64 x.f1).wf = true) ∧ ((Lit.int .i64 x.f2).wf = true)
theorem tk23 : Tk Try.prog k23 23 ok23 :=
  Tk.imp (Tk.iso (Tk.struct Try.underlying23 (by kernel_rfl) (Tks.cons (Tk.int Try.underlying3) rfl (by kernel_rfl) (Tks.cons (Tk.int Try.underlying3) rfl (by kernel_rfl) (Tks.last (Tk.int Try.underlying3) rfl (by kernel_rfl))))) (fun x : S23 => (x.f0, x.f1, x.f2)) (fun p => ⟨p.1, p.2.1, p.2.2⟩) (fun _ => rfl)) (fun x h => h)
def ok65 (x : S65) : Prop := ((Lit.int .i64 x.f0).wf = true) ∧ ((Lit.int .i64 x.f1).wf = true) ∧ (x.f2.length ≤ 9223372036854775807 ∧ ∀ x_ ∈ x.f2, (Lit.int .u8 x_).wf = true)
theorem tk65 : Tk Try.prog k65 65 ok65 :=
  Tk.imp (Tk.iso (Tk.struct Try.underlying65 (by kernel_rfl) (Tks.cons (Tk.int Try.underlying3) rfl (by kernel_rfl) (Tks.cons (Tk.int Try.underlying3) rfl (by kernel_rfl) (Tks.last (Tk.slice (Tk.int Try.underlying5) Try.underlying38 (by kernel_rfl)) rfl (by kernel_rfl))))) (fun x : S65 => (x.f0, x.f1, x.f2)) (fun p => ⟨p.1, p.2.1, p.2.2⟩) (fun _ => rfl)) (fun x h => h)
def ok27 (x : S27) : Prop := (ok23 x.f0) ∧ (x.f1.length ≤ 9223372036854775807 ∧ ∀ x_ ∈ x.f1, (Lit.int .i64 x_).wf = true) ∧ (x.f2.length ≤ 9223372036854775807 ∧ ∀ x_ ∈ x.f2, ok65 x_)
theorem tk27 : Tk Try.prog k27 27 ok27 :=
  Tk.imp (Tk.iso (Tk.struct Try.underlying27 (by kernel_rfl) (Tks.cons tk23 rfl (by kernel_rfl) (Tks.cons (Tk.slice (Tk.int Try.underlying3) Try.underlying24 (by kernel_rfl)) rfl (by kernel_rfl) (Tks.last (Tk.slice tk65 Try.underlying25 (by kernel_rfl)) rfl (by kernel_rfl))))) (fun x : S27 => (x.f0, x.f1, x.f2)) (fun p => ⟨p.1, p.2.1, p.2.2⟩) (fun _ => rfl)) (fun x h => h)
end Go.Proofs.Ytnchdmidaigheaa.Hp
namespace Go.Proofs.Ytnchdmidaigheaa.Hp
open Go.RowKit Go.Proofs.YtnchdmidaigheaaW.PrintWords
def wagtaillaw43_DamageDoes.Pure : Prop := ∀ (x0 : S27) (a1 : Int), (ok27 x0) → ((Lit.int .u8 a1).wf = true) → ∃ _k : Nat, wagtaillaw43_DamageDoes.f x0.f0.f0 x0.f0.f1 x0.f0.f2 x0.f1 x0.f2 a1 = some true
end Go.Proofs.Ytnchdmidaigheaa.Hp
namespace Go.Proofs.Ytnchdmidaigheaa.Pure
set_option linter.unusedVariables false
open Go.RowKit Go.Proofs.Ytnchdmidaigheaa.Hp Go.Proofs.YtnchdmidaigheaaW.PrintWords Go.Proofs.YtnchdmidaigheaaW.PrintLast
theorem DamageDoes : wagtaillaw43_DamageDoes.Pure := by
  intro x c hx hc
  exact ⟨0, if_pos ⟨fun f hf => ⟨fun y hy => bounds_u8 ((hx.2.2.2 f hf).2.2.2 y hy), bounds_i64 (hx.2.2.2 f hf).1⟩, bounds_u8 hc⟩⟩
end Go.Proofs.Ytnchdmidaigheaa.Pure
namespace Go.Proofs.YtnchdmidaigheaaW.PrintWords
open Go.ChangeShapes Go.WideShapes
end Go.Proofs.YtnchdmidaigheaaW.PrintWords
namespace Go.Proofs.Ytnchdmidaigheaa.damageDoes
open Go.ChangeShapes Go.WideShapes Go.ChangeAt Go.RowKit Go.Proofs.YtnchdmidaigheaaW.PrintWords Go.Proofs.Ytnchdmidaigheaa.Hp
open Go.ChangeMaps (open_string shut_string)
set_option linter.unusedVariables false
set_option linter.unusedSimpArgs false
theorem own : ownKnob Try.prog.godebug = none := by kernel_rfl
theorem laidOut : laidOutB Try.prog = true := by kernel_rfl
set_option maxRecDepth 100000 in
theorem lifted (os : Os) (started : os.Started) (H : Type) (enc : TypeId × Value → H) :
    ReturnsInHanded {} Try.checked os 9 .any (Rows.damageDoesSpec.pre6 enc Try.prog Try.f9 Rows.damageDoesRow.domain false) (Rows.damageDoesSpec.post enc Try.prog Try.f9 false true false false) := by
  refine returnsInHanded_of_change_sized (C := Try.checked) own started (by kernel_rfl) Try.func9
    (ChangeSpec.witness6 (enc := enc) (C := Try.checked) false ⟨#[], #[.agg #[.int .i64 0, .int .i64 0, .int .i64 0, .slice none 0 0, .slice none 0 0], .int .u8 0], []⟩ 8 (by kernel_rfl) (by kernel_rfl) (by kernel_rfl) (by kernel_rfl)) ?_
  intro W base args ds gs before hval0 hW hcnd hsz0 _
  have hsz : (DataW.weightsEach Try.prog (Try.f9.params.toList ++ Rows.damageDoesSpec.plain.varTypes Try.prog) (ds ++ gs)).all (· ≤ reachBytes) = true := hsz0
  have hval : ∀ (j : Nat) t v, Try.f9.params[j]? = some t → args[j]? = some v → Value.okWide Try.prog W .any base t v := hval0
  have hW' := hW
  obtain ⟨p, q, hA0, hV, rfl, hfz, hnd⟩ := hW
  have hA : DataW.TrodAll enc Try.prog W 0 (fun _ => true) true Try.f9.params.toList args.toList ds p := hA0
  rw [Try.params9] at hA hval hsz
  obtain ⟨v0, vs0, d0, ds0, p0, q0, hargs, rfl, rfl, h0, r0⟩ := trodAll_cons hA
  obtain ⟨v1, vs1, d1, ds1, p1, q1, rfl, rfl, rfl, h1, r1⟩ := trodAll_cons r0
  obtain ⟨rfl, rfl, rfl⟩ := trodAll_nil r1
  obtain rfl : args = #[v0, v1] := by cases args; simp_all
  obtain ⟨rfl, rfl⟩ := trodVars_none hV
  have k0 := h0
  have lt0 : ∀ x ∈ p0, x.block < W.heap.size := by obtain ⟨m, hm⟩ := k0; exact DataW.trod_lt m _ _ _ hm
  obtain ⟨cs0, rfl, _⟩ := okWide_struct Try.underlying27 (hval 0 27 v0 rfl rfl)
  obtain ⟨x0, z0, g0⟩ := (show ∃ y, k27.K W y cs0.toList ∧ ok27 y from by obtain ⟨fuel, hf⟩ := h0; exact tk27.go hf)
  obtain ⟨A3_0, c3_0, A4_0, c4_0, e0, y0_0, y0_1, y0_2, y0_3⟩ := k27_open z0
  obtain rfl : cs0 = #[.int .i64 x0.f0.f0, .int .i64 x0.f0.f1, .int .i64 x0.f0.f2, .slice A3_0 x0.f1.length c3_0, .slice A4_0 x0.f2.length c4_0] := by cases cs0; simpa using e0
  have k1 := h1
  have lt1 : ∀ x ∈ p1, x.block < W.heap.size := by obtain ⟨m, hm⟩ := k1; exact DataW.trod_lt m _ _ _ hm
  obtain ⟨a1, rfl, _, _, g1⟩ := open_int Try.underlying5 (hval 1 5 v1 rfl rfl) h1
  clear hA0 hval0 hsz0 hsz
  obtain ⟨kk, hk⟩ := Pure.DamageDoes x0 a1 g0 g1
  refine (wagtaillaw43_DamageDoes.calls x0.f0.f0 x0.f0.f1 x0.f0.f2 A3_0 c3_0 x0.f1 A4_0 c4_0 x0.f2 a1 true W y0_1 y0_0 y0_3 y0_2 hk).mono fun e W' ⟨he, bel0⟩ => ?_
  have bel : Below W.heap.size W W' := bel0
  subst he
  exact ⟨_, rfl, _, _, _, [], _, [], hW', trodAll_mk1 (shut_bool Try.underlying4 _), (trodAll_cons_mk (Below.trod laidOut (by kernel_rfl) (of_decide_eq_true (by kernel_rfl)) k0 bel lt0) (trodAll_cons_mk (Below.trod laidOut (by kernel_rfl) (of_decide_eq_true (by kernel_rfl)) k1 bel lt1) trodAll_mk0)), rfl, bel.frame _, fun h => by cases h⟩
theorem over : Rows.damageDoesRow.holds Try.pinned (OpenSpec.ofChange Rows.damageDoesSpec) :=
  OpenClaim.holds_of_wide 9 Try.f9 rfl rfl rfl rfl rfl rfl rfl ⟨rfl, rfl, rfl, rfl, rfl⟩ rfl rfl rfl rfl rfl (by kernel_rfl) Try.func9 (by kernel_rfl)
    (of_decide_eq_true (by kernel_rfl)) (by unfold Func.isWrapper; first | (rw [if_pos (by decide +kernel)]; kernel_rfl) | (rw [if_neg (by decide +kernel)]; exact ⟨rfl, rfl⟩))
    (fun os started H enc _ => lifted os started H enc)
theorem proved : Rows.DamageDoesSaid := over
#print axioms proved
end Go.Proofs.Ytnchdmidaigheaa.damageDoes
namespace Go.Proofs.Ytnchdmidaigheaa
theorem damageDoes_holds : Rows.DamageDoesSaid := damageDoes.proved
end Go.Proofs.Ytnchdmidaigheaa
