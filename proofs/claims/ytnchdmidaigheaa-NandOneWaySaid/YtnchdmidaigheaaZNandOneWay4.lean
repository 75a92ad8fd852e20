/- Parts of the proof of the statement NandOneWay, laid together (5 of 5). -/
import Derived.Deep.DeepCutAuto
import Derived.Deep.CutBlock
import Derived.OpenShut
import Derived.SizedLaws
import Derived.ChangeSlices
import Derived.Test.YtnchdmidaigheaaRows
import Derived.WalkKit
import Derived.ProofKit
import Derived.ShutString
import Derived.ChangeOld
import Derived.Below
import Derived.Test.YtnchdmidaigheaaZNandOneWay3
namespace Go.Proofs.Ytnchdmidaigheaa.ND
set_option linter.unusedVariables false
set_option linter.unusedSimpArgs false
open Go.RowKit Go.Proofs.Ytnchdmidaigheaa.Hp Go.Proofs.YtnchdmidaigheaaW.PrintWords Go.Proofs.YtnchdmidaigheaaW.PrintLast Go.Proofs.YtnchdmidaigheaaW.PrintMore
structure OWS (W2 w : World) (L : Lay) (g2 g8 n : Nat) (pl : Array Value) (B P : Int) (D : Dv) (ws : List (List Int)) : Prop where
  dev : Held W2 w L D
  own : ∃ ok, DV w ok L D ∧ ¬ L.all ok g8
  sb : D.B = B
  sp : D.P = P
  plan : w.heap[g2]? = some (.cells pl 27 (0, 0))
  want : Cells w g8 9 (texts ws)
  wl : ws.length = n
section
variable {W2 w w' : World} {L : Lay} {g2 g8 n : Nat} {pl : Array Value} {B P : Int} {D D' : Dv} {ws ws' : List (List Int)}
theorem OWS.below (h : OWS W2 w L g2 g8 n pl B P D ws) (hb : Below w.heap.size w w') : OWS W2 w' L g2 g8 n pl B P D ws :=
  ⟨h.dev.below hb, by obtain ⟨ok, h1, h2⟩ := h.own; exact ⟨ok, h1.below hb, h2⟩, h.sb, h.sp, blk_below h.plan hb, h.want.below hb, h.wl⟩
def OwnD (W2 w : World) (L : Lay) (g8 : Nat) (D : Dv) : Prop := Held W2 w L D ∧ ∃ ok, DV w ok L D ∧ ¬ L.all ok g8
theorem OwnD.below (h : OwnD W2 w L g8 D) (hb : Below w.heap.size w w') : OwnD W2 w' L g8 D := ⟨h.1.below hb, by obtain ⟨ok, h1, h2⟩ := h.2; exact ⟨ok, h1.below hb, h2⟩⟩
theorem OWS.turn (h : OWS W2 w L g2 g8 n pl B P D ws) (hd : OwnD W2 w' L g8 D') (hT : Turn w w' L.S) (h2 : ¬ L.S g2) (h8 : ¬ L.S g8) (sb : D'.B = D.B) (sp : D'.P = D.P) : OWS W2 w' L g2 g8 n pl B P D' ws :=
  ⟨hd.1, hd.2, sb.trans h.sb, sp.trans h.sp, blk_turn h.plan hT h2, h.want.turn hT h8, h.wl⟩
theorem texts_set (ws : List (List Int)) (k : Nat) (x : List Int) : texts (ws.set k x) = (texts ws).set k (.string (strOfNums x)) := by unfold texts; rw [List.map_set]
theorem texts_get {ws : List (List Int)} {k : Nat} (h : k < ws.length) : (texts ws)[k]? = some (.string (strOfNums (ws.getD k []))) := by
  unfold texts
  rw [List.getElem?_map, List.getD_eq_getElem?_getD, List.getElem?_eq_getElem h]
  rfl
theorem OWS.set (h : OWS W2 w L g2 g8 n pl B P D ws) (h8 : W2.heap.size ≤ g8) (hne : g2 ≠ g8) (k : Nat) (x : List Int) : OWS W2 (w.setCell ⟨g8, k, none⟩ (.string (strOfNums x))) L g2 g8 n pl B P D (ws.set k x) := by
  obtain ⟨_, hb, hS⟩ := h.dev
  obtain ⟨ok, hD, ho⟩ := h.own
  have hT : Turn w (w.setCell ⟨g8, k, none⟩ (.string (strOfNums x))) (fun j => j = g8) := (Turn.refl w (fun j => j = g8)).setCell (p := ⟨g8, k, none⟩) (.inl rfl) (.string (strOfNums x))
  have hD2 := hD.turn hT (fun j hj _ he => ho (he ▸ hj))
  refine ⟨⟨⟨ok, hD2⟩, hT.to_below hb hb.size (fun j hj => hj ▸ h8), hS⟩, ⟨ok, hD2, ho⟩, h.sb, h.sp, blk_turn h.plan hT hne, ?_, by rw [List.length_set]; exact h.wl⟩
  rw [texts_set]
  exact h.want.set k _
theorem own_prog {okl : Nat → Prop} (h : OwnD W2 w L g8 D) (hg : g8 < w.heap.size) (b p : Int) (l : List Int) (A : Option Addr) (c : Nat) (hc : l.length ≤ c) (hl : isBytes l) (gl : Kd.F (Kd.int .u8) w okl A l.length l) (hno : ∀ k, okl k → k < w.heap.size → ¬ L.S k) :
    Calls Try.prog 17 #[.pointer (some ⟨L.g, 0, none⟩), .agg #[.int .i64 b, .int .i64 p], .slice A l.length c] w fun e w' => e = .returned (.int .i64 (D.prog b p l).1) ∧ OwnD W2 w' L g8 (D.prog b p l).2 ∧ Turn w w' L.S := by
  obtain ⟨h1, ok, hD, ho⟩ := h
  refine (program_calls hD b p l A c hc hl gl hno).mono ?_
  rintro e w' ⟨rfl, h3, h4⟩
  exact ⟨rfl, ⟨h1.turn h3 h4, _, h3, fun ha => ha.elim (fun hk => hk.elim (fun hk => ho (.inl hk)) (fun hk => by omega)) (fun hk => ho (.inr hk))⟩, h4⟩
theorem own_erase (h : OwnD W2 w L g8 D) (hg : g8 < w.heap.size) (b : Int) :
    Calls Try.prog 16 #[.pointer (some ⟨L.g, 0, none⟩), .int .i64 b] w fun e w' => e = .returned (.int .i64 (D.erase b).1) ∧ OwnD W2 w' L g8 (D.erase b).2 ∧ Turn w w' L.S := by
  obtain ⟨h1, ok, hD, ho⟩ := h
  refine (erase_calls hD b).mono ?_
  rintro e w' ⟨rfl, h3, h4⟩
  exact ⟨rfl, ⟨h1.turn h3 h4, _, h3, fun ha => ha.elim (fun hk => hk.elim (fun hk => ho (.inl hk)) (fun hk => by omega)) (fun hk => ho (.inr hk))⟩, h4⟩
theorem own_power (h : OwnD W2 w L g8 D) :
    Calls Try.prog 19 #[.pointer (some ⟨L.g, 0, none⟩)] w fun e w' => e = .returned (.tuple #[]) ∧ OwnD W2 w' L g8 D.power ∧ Turn w w' L.S := by
  obtain ⟨h1, ok, hD, ho⟩ := h
  refine (power_calls hD).mono ?_
  rintro e w' ⟨rfl, h3, h4⟩
  exact ⟨rfl, ⟨h1.turn h3 h4, _, h3, ho⟩, h4⟩
end
theorem put2o {g N : Nat} {w0 W : World} {y0 y1 : Value} (a b : Int) (hz : W.heap[g]? = some (.cells #[y0, y1] 37 (0, 0)) ∧ N ≤ g) (hb2 : Below N w0 W) :
    Below N w0 ((W.setCell ⟨g, 0, none⟩ (.int .i64 a)).setCell ⟨g, 1, none⟩ (.int .i64 b)) ∧
    ((W.setCell ⟨g, 0, none⟩ (.int .i64 a)).setCell ⟨g, 1, none⟩ (.int .i64 b)).heap[g]? = some (.cells #[.int .i64 a, .int .i64 b] 37 (0, 0)) ∧ N ≤ g := by
  have h0 := blk_put hz.1 0 (.int .i64 a) (cs' := #[.int .i64 a, y1]) rfl
  have h1 := blk_put h0 1 (.int .i64 b) (cs' := #[.int .i64 a, .int .i64 b]) rfl
  exact ⟨(hb2.setCell (p := ⟨g, 0, none⟩) hz.2 _).setCell (p := ⟨g, 1, none⟩) hz.2 _, h1, hz.2⟩
def one13.T13 : Bool × List (List Nat × List Nat) := (true, [([], []), ([0], [0]), ([1], [1]), ([], []), ([], []), ([4], [4]), ([5], [5]), ([3, 6], [3, 6]), ([2, 7], [2, 7]), ([], []), ([9, 8, 7, 0, 1, 2, 3, 4, 5, 6, 7, 8, 9], [8, 9])])
def one13.B13 : List Nat := [0, 1, 3, 0, 0, 16, 48, 120, 255, 0, 1023]
theorem one13.tab13 : rtab .any (opsOf Try.f3 13) = one13.T13 := by kernel_rfl
theorem one13.bits13 : waitsOk one13.T13.2 one13.B13 = true := by kernel_rfl
def one20.T20 : Bool × List (List Nat × List Nat) := (true, [([], []), ([], []), ([], []), ([2], [2]), ([3], [3]), ([0, 1, 4, 4], [0, 1, 4]), ([5, 5, 0, 1, 2, 3, 4, 5], [5])])
def one20.B20 : List Nat := [0, 0, 0, 4, 12, 31, 63]
theorem one20.tab20 : rtab .any (opsOf Try.f3 20) = one20.T20 := by kernel_rfl
theorem one20.bits20 : waitsOk one20.T20.2 one20.B20 = true := by kernel_rfl
def one21.T21 : Bool × List (List Nat × List Nat) := (true, [([], []), ([0], [0]), ([1], [1]), ([2], [2]), ([3, 2], [2, 3]), ([2, 4], [2, 4]), ([5, 2], [5]), ([6], [6]), ([7, 6], [6, 7]), ([6, 8], [6, 8]), ([9, 6], [9]), ([10], [10]), ([10], [10]), ([12, 10], [10, 12]), ([11, 13, 10, 10], [10, 11, 13]), ([10], [10]), ([15, 10], [10, 15]), ([14, 16, 10], [10, 14, 16]), ([10, 17], [10, 17])])
def one21.B21 : List Nat := [0, 1, 3, 7, 15, 31, 63, 127, 255, 511, 1023, 2047, 2047, 6143, 16383, 2047, 34815, 131071, 262143]
theorem one21.tab21 : rtab .any (opsOf Try.f3 21) = one21.T21 := by kernel_rfl
theorem one21.bits21 : waitsOk one21.T21.2 one21.B21 = true := by kernel_rfl
def one22.T22 : Bool × List (List Nat × List Nat) := (true, [([], []), ([], []), ([1], [1]), ([], []), ([3], [3]), ([4], [4]), ([2, 5], [2, 5]), ([], []), ([7], [7]), ([6, 8], [6, 8]), ([], []), ([10], [10]), ([11], [11]), ([12], [12]), ([0, 9, 0, 1, 2, 3, 4, 5, 6, 7, 8, 9, 10, 11, 12, 13], [0, 9]), ([14, 13, 12, 0, 1, 2, 3, 4, 5, 6, 7, 8, 9, 10, 11, 12, 13], [13, 14])])
def one22.B22 : List Nat := [0, 0, 2, 0, 8, 24, 62, 0, 128, 510, 0, 1024, 3072, 7168, 16383, 32767]
theorem one22.tab22 : rtab .any (opsOf Try.f3 22) = one22.T22 := by kernel_rfl
theorem one22.bits22 : waitsOk one22.T22.2 one22.B22 = true := by kernel_rfl
def one24.T24 : Bool × List (List Nat × List Nat) := (true, [([], []), ([0], [0]), ([], []), ([2], [2]), ([3], [3]), ([1, 4], [1, 4]), ([], []), ([6], [6]), ([], []), ([8], [8]), ([9], [9]), ([10], [10]), ([7, 11], [7, 11]), ([5, 12], [5, 12]), ([13, 12, 0, 1, 2, 3, 4, 5, 6, 7, 8, 9, 10, 11, 12, 13], [13])])
def one24.B24 : List Nat := [0, 1, 0, 4, 12, 31, 0, 64, 0, 256, 768, 1792, 4032, 8191, 16383]
theorem one24.tab24 : rtab .any (opsOf Try.f3 24) = one24.T24 := by kernel_rfl
theorem one24.bits24 : waitsOk one24.T24.2 one24.B24 = true := by kernel_rfl
def one25.T25 : Bool × List (List Nat × List Nat) := (true, [([], []), ([], []), ([], []), ([2], [2]), ([3], [3]), ([1, 4], [1, 4]), ([], []), ([], []), ([7], [7]), ([8], [8]), ([6, 9], [6, 9]), ([5, 10], [5, 10]), ([0, 11], [0, 11]), ([12], [12]), ([13], [13]), ([13], [13]), ([14, 12, 0, 1, 2, 3, 4, 5, 6, 7, 8, 9, 10, 11, 12, 13, 14], [14]), ([15, 16, 0, 1, 2, 3, 4, 5, 6, 7, 8, 9, 10, 11, 12, 13, 14, 15, 16], [15])])
def one25.B25 : List Nat := [0, 0, 0, 4, 12, 30, 0, 0, 128, 384, 960, 2046, 4095, 8191, 16383, 16383, 32767, 131071]
theorem one25.tab25 : rtab .any (opsOf Try.f3 25) = one25.T25 := by kernel_rfl
theorem one25.bits25 : waitsOk one25.T25.2 one25.B25 = true := by kernel_rfl
theorem prog_BP (D : Dv) (b p : Int) (l : List Int) : (D.prog b p l).2.B = D.B ∧ (D.prog b p l).2.P = D.P := by unfold Dv.prog; split; exact ⟨rfl, rfl⟩; split; exact ⟨rfl, rfl⟩; split; exact ⟨rfl, rfl⟩; split <;> exact ⟨rfl, rfl⟩
theorem erase_BP (D : Dv) (b : Int) : (D.erase b).2.B = D.B ∧ (D.erase b).2.P = D.P := by unfold Dv.erase; split; exact ⟨rfl, rfl⟩; split; exact ⟨rfl, rfl⟩; split <;> exact ⟨rfl, rfl⟩
set_option maxHeartbeats 4000000 in
set_option maxRecDepth 100000 in
theorem oneway_calls {W : World} (B P C : Int) (bad : List Int) (fs : List Flt) (l : List S40) (Ab Af Al : Option Addr) (cb cf cl : Nat) (hb : Kd.C (Kd.int .i64) W Ab bad.length bad) (hcb : bad.length ≤ cb) (hf : Kd.C k65 W Af fs.length fs) (hcf : fs.length ≤ cf) (hl : Kd.C k40 W Al l.length l)
    (hfm : ∀ f ∈ fs, isBytes f.f2) (hlm : ∀ x ∈ l, isBytes x.f2) (hll : l.length ≤ 9223372036854775807) :
    Calls Try.prog 3 #[.agg #[.int .i64 B, .int .i64 P, .int .i64 C, .slice Ab bad.length cb, .slice Af fs.length cf], .slice Al l.length cl] W fun e w' => e = .returned (.bool true) ∧ Below W.heap.size W w' := by
  have HIN := Aside0.mk (And.intro hb (And.intro hcb (And.intro hf (And.intro hcf (And.intro hl (And.intro hfm (And.intro hlm hll)))))))
  have HAW := Aside0.mk awake_calls
  have hz2 := heap_alloc_new W (.cells #[.int .i64 B, .int .i64 P, .int .i64 C, .slice Ab bad.length cb, .slice Af fs.length cf] 27)
  have hb2 := below_alloc (Below.refl W.heap.size W) (.cells #[.int .i64 B, .int .i64 P, .int .i64 C, .slice Ab bad.length cb, .slice Af fs.length cf] 27)
  obtain ⟨g2, hg2⟩ : ∃ g, g = W.heap.size := ⟨_, rfl⟩
  clear hb hcb hf hcf hl hfm hlm hll
  go_enter Try.func3, Try.ntmps3
  go_upto_region 1 with fail
  generalize W.alloc (.cells #[.int .i64 B, .int .i64 P, .int .i64 C, .slice Ab bad.length cb, .slice Af fs.length cf] 27) = W2 at hz2 hb2 ⊢
  rw [← hg2] at hz2 ⊢
  have HG2 := Aside0.mk hg2
  have HZ2 := Aside0.mk hz2
  have HZ2' := Aside0.mk hz2
  have HB2 := Aside0.mk hb2
  have HLI := Aside0.mk (light_calls (W := W2) B P C (Kd.C_below HIN.out.1 hb2) HIN.out.2.1 (Kd.C_below HIN.out.2.2.1 hb2) HIN.out.2.2.2.1)
  have z0 := blk_cell hz2 0
  have z1 := blk_cell hz2 1
  have z2 := blk_cell hz2 2
  have z3 := blk_cell hz2 3
  have z4 := blk_cell hz2 4
  clear hg2 hz2 hb2
  cases hlp : lightP bad fs with
  | false =>
    rw [hlp] at HLI
    clear hlp
    go_wp2_with (first | (go_at_call 11; refine HLI.out.mono ?_; rintro e w3 ⟨rfl, hb⟩; have HB3 := Aside0.mk (below_then HB2.out HB2.out.size hb); clear hb) | (go_at_call 13; refine (HAW.out _).mono ?_; rintro e w4 ⟨rfl, hb⟩; have HB4 := Aside0.mk (below_then HB3.out HB3.out.size hb); clear hb))
    go_ret
    exact ⟨rfl, HB4.out⟩
  | true =>
    have HLP : Aside0 (bad.length ≤ 60 ∧ fs.length ≤ 40 ∧ ∀ f ∈ fs, isBytes f.f2 ∧ f.f2.length ≤ 1000) := by
      unfold lightP at hlp
      simp only [Bool.and_eq_true, decide_eq_true_eq, List.all_eq_true] at hlp
      exact ⟨hlp.1.1, hlp.1.2, fun f hf => ⟨HIN.out.2.2.2.2.2.1 f hf, by have := hlp.2 f hf; omega⟩⟩
    rw [hlp] at HLI
    clear hlp
    cases hr : rightG B P C with
    | false =>
      have HRG := Aside0.mk hr
      clear hr
      go_wp2_with (first | (go_at_call 11; refine HLI.out.mono ?_; rintro e w3 ⟨rfl, hb⟩; have HB3 := Aside0.mk (below_then HB2.out HB2.out.size hb); have HZ3 := Aside0.mk (blk_below HZ2.out hb); clear hb z0 z1 z2 z3 z4; have z0 := blk_cell HZ3.out 0; have z1 := blk_cell HZ3.out 1; have z2 := blk_cell HZ3.out 2) | (go_at_call 12; refine (right_calls B P C _).mono ?_; rw [HRG.out]; rintro e w4 ⟨rfl, hb⟩; have HB4 := Aside0.mk (below_then HB3.out HB3.out.size hb); clear hb z0 z1 z2) | (go_at_call 13; refine (HAW.out _).mono ?_; rintro e w5 ⟨rfl, hb⟩; have HB5 := Aside0.mk (below_then HB4.out HB4.out.size hb); clear hb))
      go_ret
      exact ⟨rfl, HB5.out⟩
    | true =>
      have HRG := Aside0.mk hr
      have hgp := hr
      unfold rightG within at hgp
      simp only [Bool.and_eq_true, decide_eq_true_eq] at hgp
      obtain ⟨⟨hb1, hb2⟩, ⟨hp1, hp2⟩, hc1, hc2⟩ := hgp
      obtain ⟨Bn, rfl⟩ := Int.eq_ofNat_of_zero_le (show 0 ≤ B by omega)
      obtain ⟨Pn, rfl⟩ := Int.eq_ofNat_of_zero_le (show 0 ≤ P by omega)
      have HGP := Aside0.mk (show (8 ≤ Bn ∧ Bn ≤ 34) ∧ (4 ≤ Pn ∧ Pn ≤ 32) by omega)
      have HMP : Aside0 (32 ≤ Bn * Pn ∧ Bn * Pn ≤ 1088) := ⟨by
        have h1 : 8 * Pn ≤ Bn * Pn := Nat.mul_le_mul_right _ (by omega)
        have h2 : Bn * Pn ≤ 34 * Pn := Nat.mul_le_mul_right _ (by omega)
        omega⟩
      clear hr hb1 hb2 hp1 hp2 hc1 hc2
      go_upto_region 3 with (first | (go_at_call 11; refine HLI.out.mono ?_; rintro e w3 ⟨rfl, hb⟩; have HB3 := Aside0.mk (below_then HB2.out HB2.out.size hb); have HBB3 := Aside0.mk hb; have HZ3 := Aside0.mk (blk_below HZ2.out hb); clear hb z0 z1 z2 z3 z4; have z0 := blk_cell HZ3.out 0; have z1 := blk_cell HZ3.out 1; have z2 := blk_cell HZ3.out 2) | (go_at_call 12; refine (right_calls _ _ C _).mono ?_; rw [HRG.out]; rintro e w4 ⟨rfl, hb⟩; have HB4 := Aside0.mk (below_then HB3.out HB3.out.size hb); have HBB4 := Aside0.mk (below_then HBB3.out HBB3.out.size hb); have HZ4 := Aside0.mk (blk_below HZ3.out hb); clear hb z0 z1 z2) | (go_at_call 13; refine (HAW.out _).mono ?_; rintro e w5 ⟨rfl, hb⟩; have HB5 := Aside0.mk (below_then HB4.out HB4.out.size hb); have HBB5 := Aside0.mk (below_then HBB4.out HBB4.out.size hb); have HZ5 := Aside0.mk (blk_below HZ4.out hb); clear hb))
      have z0 := blk_cell HZ5.out 0
      have z1 := blk_cell HZ5.out 1
      have z2 := blk_cell HZ5.out 2
      have z3 := blk_cell HZ5.out 3
      have z4 := blk_cell HZ5.out 4
      have HNW := Aside0.mk (new_calls (W := w5) (Bn : Int) (Pn : Int) C bad fs Ab Af cb cf (Kd.C_below HIN.out.1 HB5.out) (Kd.C_below HIN.out.2.2.1 HB5.out) (by have := HLP.out.1; omega) (by have := HLP.out.2.1; omega) HLP.out.2.2)
      clear HLI HZ2 HB3 HZ3 HBB3 HB4 HBB4 HZ4
      have hwr : IntKind.i64.wrap ((Bn : Int) * (Pn : Int)) = ((Bn * Pn : Nat) : Int) := by rw [i64_w, show (Bn : Int) * (Pn : Int) = ((Bn * Pn : Nat) : Int) from (Int.natCast_mul ..).symm]; unfold wrap64; have := HMP.out; omega
      have HWR := Aside0.mk hwr
      clear hwr
      go_upto_region 6 with (go_at_call 14; refine HNW.out.mono ?_; rintro e w6 hnw; obtain ⟨L, rfl, hH⟩ := held_new hnw HBB5.out HRG.out; have HH6 := Aside0.mk hH; have HZ6 := Aside0.mk (blk_below HZ5.out hnw.1); clear hnw hH z0 z1 z2 z3 z4; have z0 := blk_cell HZ6.out 0; have z1 := blk_cell HZ6.out 1)
      clear HNW HB5 HBB5 HZ5
      have hmul := HWR.out
      have HLT6 := Aside0.mk HH6.out.lt
      obtain ⟨n, hn⟩ : ∃ n, n = Bn * Pn := ⟨_, rfl⟩
      have HN := Aside0.mk hn
      rw [← hn] at hmul
      clear hn
      have mk_ := print_make_of (P := Try.prog) 35 9 (.string ⟨#[]⟩) 16 Try.underlying35 (by kernel_rfl) rfl (by decide) n (by have := HMP.out; have := HN.out; omega)
      have hz8 := heap_alloc_new w6 (.cells (madeCells #[.string ⟨#[]⟩] n) 9)
      have hb8 := below_alloc (Below.refl w6.heap.size w6) (.cells (madeCells #[.string ⟨#[]⟩] n) 9)
      obtain ⟨g8, hg8⟩ : ∃ g, g = w6.heap.size := ⟨_, rfl⟩
      go_upto_region 8 with fail
      have hle6 := HH6.out.2.1.size
      have HG8 : Aside0 (W2.heap.size ≤ g8 ∧ g2 ≠ g8 ∧ g8 < (w6.alloc (.cells (madeCells #[.string ⟨#[]⟩] n) 9)).heap.size) := ⟨by
        have := blk_lt HZ2'.out
        refine ⟨by omega, by omega, ?_⟩
        have := blk_lt hz8
        omega⟩
      generalize w6.alloc (.cells (madeCells #[.string ⟨#[]⟩] n) 9) = W7 at hz8 hb8 HG8 ⊢
      rw [← hg8] at hz8 ⊢
      have HS0 : Aside0 (OWS W2 W7 L g2 g8 n #[.int .i64 (Bn : Int), .int .i64 (Pn : Int), .int .i64 C, .slice Ab bad.length cb, .slice Af fs.length cf] (Bn : Int) (Pn : Int) (newDv (Bn : Int) (Pn : Int) C bad fs) (List.replicate n [])) := ⟨by
        refine ⟨HH6.out.below hb8, ?_, rfl, rfl, blk_below HZ6.out hb8, ?_, List.length_replicate⟩
        · obtain ⟨ok, hD⟩ := HH6.out.1
          refine ⟨_, hD.bound.below hb8, fun ha => ?_⟩
          rcases ha with ha | ha | ha
          · have := ha.2; omega
          · have := hD.lt _ ha; omega
          · have := hD.mb.lt; omega
        · have k := made_cells _ _ hz8
          unfold texts
          rw [List.map_replicate]
          exact k⟩
      have HIV0 : Aside0 (InvW (newDv (Bn : Int) (Pn : Int) C bad fs) (List.replicate n [])) := ⟨by
        have k := inv_new HRG.out bad fs
        rw [show (((Bn : Int) * (Pn : Int)).toNat) = n by rw [HN.out, ← Int.natCast_mul, Int.toNat_natCast]] at k
        exact k⟩
      have HNS : Aside0 (¬ L.S g2 ∧ ¬ L.S g8) := ⟨fun h => by have := HH6.out.2.2 _ h; have := blk_lt HZ2'.out; omega, fun h => by have := HLT6.out _ h; omega⟩
      have HDN : Aside0 ((newDv (Bn : Int) (Pn : Int) C bad fs).down = false) := ⟨rfl⟩
      generalize newDv (Bn : Int) (Pn : Int) C bad fs = D0 at HS0 HDN HIV0
      clear hz8 hb8 hg8 mk_ z0 z1 hmul HH6 HZ6 HLT6 hle6 HRG
      go_wp2_with fail
      go_loopg [9] 31 (fun kq v9 w' => ∃ (i : Nat) (D : Dv) (ws : List (List Int)), v9 = .int .i64 (i : Int) ∧ Aside0 (i ≤ 30 ∧ kq + i = 31) ∧ Aside0 (OWS W2 w' L g2 g8 n #[.int .i64 (Bn : Int), .int .i64 (Pn : Int), .int .i64 C, .slice Ab bad.length cb, .slice Af fs.length cf] (Bn : Int) (Pn : Int) D ws) ∧ Aside0 (D.down = false) ∧ Aside0 (InvW D ws))
      case atStart => exact ⟨0, D0, _, rfl, ⟨by decide, rfl⟩, HS0, HDN, HIV0⟩
      case round =>
        obtain ⟨i, D, ws, rfl, HI, HS, HDN, HIV⟩ := hrel
        clear HS0 HIV0
        have HBW : Aside0 (Below W.heap.size W wr) := ⟨below_then HB2.out HB2.out.size HS.out.dev.2.1⟩
        by_cases hi : i < l.length
        case neg =>
          have t1 : decide ((i : Int) < (l.length : Int)) = false := decide_eq_false (by omega)
          have t2 : decide (i < l.length) = false := decide_eq_false hi
          clear hi
          go_wp2_with fail
          go_ret
          exact ⟨rfl, HBW.out⟩
        case pos =>
          have t1 : decide ((i : Int) < (l.length : Int)) = true := decide_eq_true (by omega)
          have t2 : decide (i < l.length) = true := decide_eq_true hi
          by_cases h30 : i < 30
          case neg =>
            have t3 : decide ((i : Int) < 30) = false := decide_eq_false (by omega)
            have t4 : decide (i < 30) = false := decide_eq_false h30
            clear hi h30
            go_wp2_with fail
            go_ret
            exact ⟨rfl, HBW.out⟩
          case pos =>
            have t3 : decide ((i : Int) < 30) = true := decide_eq_true (by omega)
            have t4 : decide (i < 30) = true := decide_eq_true h30
            have hBW := HBW.out
            obtain ⟨ad, A3, c3, hA, hx0, hx1, hx2, hx3, l3, g3⟩ := at_T40 HIN.out.2.2.2.2.1 (i : Int) (by omega) (by omega)
            replace hx0 := (hBW.cell (World.block_lt_of_cell? W _ hx0)).trans hx0
            replace hx1 := (hBW.cell (World.block_lt_of_cell? W _ hx1)).trans hx1
            replace hx2 := (hBW.cell (World.block_lt_of_cell? W _ hx2)).trans hx2
            replace hx3 := (hBW.cell (World.block_lt_of_cell? W _ hx3)).trans hx3
            obtain ⟨x, hx⟩ : ∃ x, x = rd_T40 l (i : Int) := ⟨_, rfl⟩
            rw [← hx] at hx0 hx1 hx2 hx3 l3 g3
            rw [Int.toNat_natCast] at hx0 hx1 hx2 hx3
            have hxe : l[i]? = some x := by
              rw [hx]
              unfold rd_T40
              rw [Int.toNat_natCast, List.getD_eq_getElem?_getD, List.getElem?_eq_getElem hi]
              rfl
            have HXB : Aside0 (isBytes x.f2) := ⟨HIN.out.2.2.2.2.2.2.1 x (List.mem_of_getElem? hxe)⟩
            have HAA := Aside0.mk hA
            have p1 := eq_true (show (0 : Int) ≤ (i : Int) by omega)
            have q1 := eq_true (show (i : Int) < (l.length : Int) by omega)
            have HI30 := Aside0.mk h30
            have HX3 := Aside0.mk (And.intro l3 g3)
            have HLTW := Aside0.mk HS.out.dev.lt
            rw [hA]
            have hz10 := heap_alloc_new wr (.cells #[.int .i64 x.f0, .int .i64 x.f1.f0, .int .i64 x.f1.f1, .slice A3 x.f2.length c3] 40)
            have hb10 := below_alloc (Below.refl wr.heap.size wr) (.cells #[.int .i64 x.f0, .int .i64 x.f1.f0, .int .i64 x.f1.f1, .slice A3 x.f2.length c3] 40)
            obtain ⟨g10, hg10⟩ : ∃ g, g = wr.heap.size := ⟨_, rfl⟩
            clear hA hx hxe l3 g3 hi h30 hBW
            go_upto_region 12 with fail
            rw [show (some ad : Option Addr) = Al from HAA.out.symm]
            have HG10 := Aside0.mk hg10
            generalize wr.alloc (.cells #[.int .i64 x.f0, .int .i64 x.f1.f0, .int .i64 x.f1.f1, .slice A3 x.f2.length c3] 40) = W12 at hz10 hb10 ⊢
            rw [← hg10] at hz10 ⊢
            have HS12 := Aside0.mk (HS.out.below hb10)
            have HB12 := Aside0.mk (below_then HBW.out HBW.out.size hb10)
            have Z10 := Aside0.mk hz10
            have HNS10 : Aside0 (¬ L.S g10) := ⟨fun h => by have := HLTW.out _ h; have := HG10.out; omega⟩
            obtain ⟨bt, hbt⟩ : ∃ b, b = x.f1.f0 := ⟨_, rfl⟩
            rw [← hbt] at Z10
            have HBT := Aside0.mk hbt
            have y1 := blk_cell Z10.out 1
            have y3 := blk_cell Z10.out 3
            have z0 := blk_cell HS12.out.plan 0
            obtain ⟨sk, hsk⟩ : ∃ q : Bool, q = (decide ((x.f2.length : Int) > 300) || (decide (bt < 0) || decide (bt ≥ (Bn : Int)))) := ⟨_, rfl⟩
            have HSK := Aside0.mk hsk
            clear hg10 hz10 hb10 hx0 hx1 hx2 hx3 p1 q1 t1 t2 t3 t4 hbt hsk HS HBW
            go_cut [88] (fun v88 wx => v88 = .bool sk ∧ W12 = wx)
            case first =>
              by_cases q1 : (x.f2.length : Int) > 300
              case pos =>
                have t1 : decide ((x.f2.length : Int) > 300) = true := decide_eq_true q1
                have t2 : decide (300 < x.f2.length) = true := decide_eq_true (by omega)
                clear q1
                go_wp2_with fail
                go_meet
                exact ⟨by rw [HSK.out, t1]; rfl, rfl⟩
              case neg =>
                have t1 : decide ((x.f2.length : Int) > 300) = false := decide_eq_false q1
                have t2 : decide (300 < x.f2.length) = false := decide_eq_false (by omega)
                by_cases q2 : bt < 0
                case pos =>
                  have t3 : decide (bt < 0) = true := decide_eq_true q2
                  clear q1 q2
                  go_wp2_with fail
                  go_meet
                  exact ⟨by rw [HSK.out, t1, t3]; rfl, rfl⟩
                case neg =>
                  have t3 : decide (bt < 0) = false := decide_eq_false q2
                  clear q1 q2
                  go_wp2_with fail
                  go_meet
                  exact ⟨by rw [HSK.out, t1, t3]; simp, rfl⟩
            case rest =>
            obtain ⟨rfl, rfl⟩ := hcut
            clear y1 y3 z0
            cases sk with
            | true =>
              obtain ⟨hw5, hw6⟩ := wrap_id (x := (i : Int) + 1) (by omega) (by have := HI30.out; omega)
              go_wp2_with fail
              go_roundg (gk - 1)
              case measure => have := HI.out; have := HI30.out; omega
              case rel => exact ⟨i + 1, D, ws, by go_num, ⟨by have := HI30.out; omega, by have := HI.out; have := HI30.out; omega⟩, HS12, HDN, HIV⟩
            | false =>
              have hq := HSK.out.symm
              simp only [Bool.or_eq_false_iff, decide_eq_false_iff_not] at hq
              obtain ⟨q1, q2, q3⟩ := hq
              have HLN := Aside0.mk (show x.f2.length ≤ 300 by omega)
              obtain ⟨bn, rfl⟩ := Int.eq_ofNat_of_zero_le (show 0 ≤ bt by omega)
              have HBN := Aside0.mk (show bn < Bn by omega)
              clear q1 q2 q3 HSK
              go_upto_region 13 with fail
              obtain ⟨okd, hDV⟩ := HS12.out.dev.1
              have HDO := Aside0.mk hDV.ok
              have hth : D.there (bn : Int) = true := there_iff.2 ⟨by omega, by rw [HS12.out.sb]; have := HBN.out; omega⟩
              have HTH := Aside0.mk hth
              obtain ⟨nn, hnx⟩ : ∃ v : Nat, (v : Int) = D.nextOf (bn : Int) := Int.eq_ofNat_of_zero_le (by
                rw [nextOf_there hth]
                have hl : (bn : Int).toNat < D.next.length := by have := HDO.out.nl; have := HS12.out.sb; have := HBN.out; omega
                rw [List.getD_eq_getElem?_getD, List.getElem?_eq_getElem hl]
                exact (HDO.out.nr _ (List.getElem_mem hl)).1) |>.imp fun _ h => h.symm
              have HNX := Aside0.mk hnx
              have HNP : Aside0 (nn ≤ Pn) := ⟨by
                have hl : (bn : Int).toNat < D.next.length := by have := HDO.out.nl; have := HS12.out.sb; have := HBN.out; omega
                have := (HDO.out.nr _ (List.getElem_mem hl)).2
                have e : (nn : Int) = D.next[(bn : Int).toNat] := by
                  rw [hnx, nextOf_there hth, List.getD_eq_getElem?_getD, List.getElem?_eq_getElem hl]; rfl
                have := HS12.out.sp
                omega⟩
              have HNC : Aside0 (∀ W', Below W12.heap.size W12 W' → Calls Try.prog 15 #[.pointer (some ⟨L.g, 0, none⟩), .int .i64 (bn : Int)] W' fun e w' => e = .returned (.int .i64 (nn : Int)) ∧ Below W'.heap.size W' w') := ⟨fun W' hW => by obtain ⟨ok, hD⟩ := HS12.out.dev.1; rw [hnx]; exact next_calls (hD.below hW) _⟩
              have HSZ := Aside0.mk (Nat.le_of_lt (blk_lt Z10.out))
              have B0 := Aside0.mk (below_drew1 (Below.refl W12.heap.size W12))
              have AL := True.intro
              have ST := True.intro
              clear hnx hth hDV
              refine start_ (n := 11) (S := fun w' => True) (ds := []) #[false, false, false, false, false, false, false, false, false, false, false] (by kernel_rfl) rfl rfl trivial (fun hHeld => ?_)
              refine with_tabW one13.tab13 one13.bits13 (fun HT_ HW_ => ?_)
              generalize W12.drew = wq at B0 hHeld ⊢
              refine inv_at [0, 1, 2, 3, 4, 5, 6, 7, 8, 9, 10] (fun a0_ b a w' => ∃ (g11 : Nat) (m9_ : Value), a = putSel a0_ b [(0, 89, .pointer (some ⟨g10, 1, none⟩)), (1, 90, .pointer (some ⟨g10, 1, none⟩)), (2, 91, .int .i64 (bn : Int)), (3, 92, .pointer (some ⟨L.g, 0, none⟩)), (4, 93, .pointer (some ⟨g10, 1, none⟩)), (5, 94, .pointer (some ⟨g10, 1, none⟩)), (6, 95, .int .i64 (bn : Int)), (7, 96, .int .i64 (nn : Int)), (8, 97, .agg #[.int .i64 (bn : Int), .int .i64 (nn : Int)]), (9, 11, m9_)] ∧ (Below W12.heap.size W12 w') ∧ (b 9 = true → b 10 = false → w'.heap[g11]? = some (.cells #[.int .i64 0, .int .i64 0] 37 (0, 0)) ∧ W12.heap.size ≤ g11) ∧ (b 10 = true → w'.heap[g11]? = some (.cells #[.int .i64 (bn : Int), .int .i64 (nn : Int)] 37 (0, 0)) ∧ W12.heap.size ≤ g11) ∧ (b 9 = true → (m9_ : Value) = .pointer (some ⟨g11, 0, none⟩))) HT_.out HW_.out (by kernel_rfl) (by kernel_rfl) ?_ ?_ ?_
              · exact ⟨0, .bool false, by simp only [putSel, Bool.false_eq_true, if_false], B0.out, fun h_ => absurd h_ (by decide), fun h_ => absurd h_ (by decide), fun h_ => absurd h_ (by decide)⟩
              · skip
                clear B0
                refine steps_cons ?_ ?_
                · rintro b a w' ⟨g11, m9_, ha, Q_B0, Q_AL, Q_ST, Q_X9_⟩ hb_ hon hoff
                  refine ⟨_, rfl, fun K hK => ?_⟩
                  have e10 : a.tmps[10]? = some (.pointer (some ⟨g10, 0, none⟩)) := by rw [ha]; exact (putSel_off rfl).trans rfl
                  replace ha := Aside0.mk ha
                  have B0 := Aside0.mk Q_B0
                  refine value_ (w1 := w') (v := .pointer (some ⟨g10, 1, none⟩)) (by rfl) rfl ?_ ?_
                  · go_simp
                    (try simp only [i64_w])
                    try rfl
                  refine hK.out _ _ ⟨g11, m9_, (by rw [ha.out]; exact putSel_upk 0 hb_ rfl rfl rfl), Q_B0, Q_AL, fun h0_ => absurd ((hoff 10 (by kernel_rfl)).symm.trans h0_) (by decide), Q_X9_⟩
                refine steps_cons ?_ ?_
                · rintro b a w' ⟨g11, m9_, ha, Q_B0, Q_AL, Q_ST, Q_X9_⟩ hb_ hon hoff
                  refine ⟨_, rfl, fun K hK => ?_⟩
                  have e89 : a.tmps[89]? = some (.pointer (some ⟨g10, 1, none⟩)) := by rw [ha]; exact putSel_on (e := (0, 89, .pointer (some ⟨g10, 1, none⟩))) 0 rfl rfl (hon 0 (by kernel_rfl)) rfl
                  replace ha := Aside0.mk ha
                  have B0 := Aside0.mk Q_B0
                  refine value_ (w1 := w') (v := .pointer (some ⟨g10, 1, none⟩)) (by rfl) rfl ?_ ?_
                  · go_simp
                    (try simp only [i64_w])
                    try rfl
                  refine hK.out _ _ ⟨g11, m9_, (by rw [ha.out]; exact putSel_upk 1 hb_ rfl rfl rfl), Q_B0, Q_AL, fun h0_ => absurd ((hoff 10 (by kernel_rfl)).symm.trans h0_) (by decide), Q_X9_⟩
                refine steps_cons ?_ ?_
                · rintro b a w' ⟨g11, m9_, ha, Q_B0, Q_AL, Q_ST, Q_X9_⟩ hb_ hon hoff
                  refine ⟨_, rfl, fun K hK => ?_⟩
                  have e90 : a.tmps[90]? = some (.pointer (some ⟨g10, 1, none⟩)) := by rw [ha]; exact putSel_on (e := (1, 90, .pointer (some ⟨g10, 1, none⟩))) 1 rfl rfl (hon 1 (by kernel_rfl)) rfl
                  replace ha := Aside0.mk ha
                  have B0 := Aside0.mk Q_B0
                  have c0_ := blk_cell (blk_below Z10.out B0.out) 1
                  refine value_ (w1 := w') (v := .int .i64 (bn : Int)) (by rfl) rfl ?_ ?_
                  · go_simp
                    (try simp only [i64_w])
                    try rfl
                  refine hK.out _ _ ⟨g11, m9_, (by rw [ha.out]; exact putSel_upk 2 hb_ rfl rfl rfl), Q_B0, Q_AL, fun h0_ => absurd ((hoff 10 (by kernel_rfl)).symm.trans h0_) (by decide), Q_X9_⟩
                refine steps_cons ?_ ?_
                · rintro b a w' ⟨g11, m9_, ha, Q_B0, Q_AL, Q_ST, Q_X9_⟩ hb_ hon hoff
                  refine ⟨_, rfl, fun K hK => ?_⟩
                  have e5 : a.tmps[5]? = some (.pointer (some ⟨L.g, 0, none⟩)) := by rw [ha]; exact (putSel_off rfl).trans rfl
                  replace ha := Aside0.mk ha
                  have B0 := Aside0.mk Q_B0
                  refine value_ (w1 := w') (v := .pointer (some ⟨L.g, 0, none⟩)) (by rfl) rfl ?_ ?_
                  · go_simp
                    (try simp only [i64_w])
                    try rfl
                  refine hK.out _ _ ⟨g11, m9_, (by rw [ha.out]; exact putSel_upk 3 hb_ rfl rfl rfl), Q_B0, Q_AL, fun h0_ => absurd ((hoff 10 (by kernel_rfl)).symm.trans h0_) (by decide), Q_X9_⟩
                refine steps_cons ?_ ?_
                · rintro b a w' ⟨g11, m9_, ha, Q_B0, Q_AL, Q_ST, Q_X9_⟩ hb_ hon hoff
                  refine ⟨_, rfl, fun K hK => ?_⟩
                  have e10 : a.tmps[10]? = some (.pointer (some ⟨g10, 0, none⟩)) := by rw [ha]; exact (putSel_off rfl).trans rfl
                  replace ha := Aside0.mk ha
                  have B0 := Aside0.mk Q_B0
                  refine value_ (w1 := w') (v := .pointer (some ⟨g10, 1, none⟩)) (by rfl) rfl ?_ ?_
                  · go_simp
                    (try simp only [i64_w])
                    try rfl
                  refine hK.out _ _ ⟨g11, m9_, (by rw [ha.out]; exact putSel_upk 4 hb_ rfl rfl rfl), Q_B0, Q_AL, fun h0_ => absurd ((hoff 10 (by kernel_rfl)).symm.trans h0_) (by decide), Q_X9_⟩
                refine steps_cons ?_ ?_
                · rintro b a w' ⟨g11, m9_, ha, Q_B0, Q_AL, Q_ST, Q_X9_⟩ hb_ hon hoff
                  refine ⟨_, rfl, fun K hK => ?_⟩
                  have e93 : a.tmps[93]? = some (.pointer (some ⟨g10, 1, none⟩)) := by rw [ha]; exact putSel_on (e := (4, 93, .pointer (some ⟨g10, 1, none⟩))) 4 rfl rfl (hon 4 (by kernel_rfl)) rfl
                  replace ha := Aside0.mk ha
                  have B0 := Aside0.mk Q_B0
                  refine value_ (w1 := w') (v := .pointer (some ⟨g10, 1, none⟩)) (by rfl) rfl ?_ ?_
                  · go_simp
                    (try simp only [i64_w])
                    try rfl
                  refine hK.out _ _ ⟨g11, m9_, (by rw [ha.out]; exact putSel_upk 5 hb_ rfl rfl rfl), Q_B0, Q_AL, fun h0_ => absurd ((hoff 10 (by kernel_rfl)).symm.trans h0_) (by decide), Q_X9_⟩
                refine steps_cons ?_ ?_
                · rintro b a w' ⟨g11, m9_, ha, Q_B0, Q_AL, Q_ST, Q_X9_⟩ hb_ hon hoff
                  refine ⟨_, rfl, fun K hK => ?_⟩
                  have e94 : a.tmps[94]? = some (.pointer (some ⟨g10, 1, none⟩)) := by rw [ha]; exact putSel_on (e := (5, 94, .pointer (some ⟨g10, 1, none⟩))) 5 rfl rfl (hon 5 (by kernel_rfl)) rfl
                  replace ha := Aside0.mk ha
                  have B0 := Aside0.mk Q_B0
                  have c0_ := blk_cell (blk_below Z10.out B0.out) 1
                  refine value_ (w1 := w') (v := .int .i64 (bn : Int)) (by rfl) rfl ?_ ?_
                  · go_simp
                    (try simp only [i64_w])
                    try rfl
                  refine hK.out _ _ ⟨g11, m9_, (by rw [ha.out]; exact putSel_upk 6 hb_ rfl rfl rfl), Q_B0, Q_AL, fun h0_ => absurd ((hoff 10 (by kernel_rfl)).symm.trans h0_) (by decide), Q_X9_⟩
                refine steps_cons ?_ ?_
                · rintro b a w' ⟨g11, m9_, ha, Q_B0, Q_AL, Q_ST, Q_X9_⟩ hb_ hon hoff
                  refine ⟨_, rfl, fun K hK => ?_⟩
                  have e92 : a.tmps[92]? = some (.pointer (some ⟨L.g, 0, none⟩)) := by rw [ha]; exact putSel_on (e := (3, 92, .pointer (some ⟨L.g, 0, none⟩))) 3 rfl rfl (hon 3 (by kernel_rfl)) rfl
                  have e95 : a.tmps[95]? = some (.int .i64 (bn : Int)) := by rw [ha]; exact putSel_on (e := (6, 95, .int .i64 (bn : Int))) 6 rfl rfl (hon 6 (by kernel_rfl)) rfl
                  replace ha := Aside0.mk ha
                  have B0 := Aside0.mk Q_B0
                  refine goes_ Try.func15 (by kernel_rfl) rfl #[.pointer (some ⟨L.g, 0, none⟩), .int .i64 (bn : Int)] (by rfl) rfl rfl (by first | (simp only [List.map_toArray, List.map_cons, List.map_nil, Act.eval, Array.getD_eq_getD_getElem?, Option.getD_some, e92, e95]; done) | (simp only [List.map_toArray, List.map_cons, List.map_nil, Act.eval, Array.getD_eq_getD_getElem?, Option.getD_some, e92, e95]; rfl)) ?_
                  with_reducible refine (HNC.out _ B0.out).mono ?_
                  rintro e w2 ⟨rfl, hb⟩
                  refine ⟨_, rfl, ?_⟩
                  refine hK.out _ _ ⟨g11, m9_, (by rw [ha.out]; exact putSel_upk 7 hb_ rfl rfl rfl), below_then B0.out B0.out.size hb, fun h0_ h1_ => ⟨(hb.block _ (Array.getElem?_eq_some_iff.1 (Q_AL h0_ h1_).1).1).trans (Q_AL h0_ h1_).1, (Q_AL h0_ h1_).2⟩, fun h0_ => absurd ((hoff 10 (by kernel_rfl)).symm.trans h0_) (by decide), Q_X9_⟩
                refine steps_cons ?_ ?_
                · rintro b a w' ⟨g11, m9_, ha, Q_B0, Q_AL, Q_ST, Q_X9_⟩ hb_ hon hoff
                  refine ⟨_, rfl, fun K hK => ?_⟩
                  have e91 : a.tmps[91]? = some (.int .i64 (bn : Int)) := by rw [ha]; exact putSel_on (e := (2, 91, .int .i64 (bn : Int))) 2 rfl rfl (hon 2 (by kernel_rfl)) rfl
                  have e96 : a.tmps[96]? = some (.int .i64 (nn : Int)) := by rw [ha]; exact putSel_on (e := (7, 96, .int .i64 (nn : Int))) 7 rfl rfl (hon 7 (by kernel_rfl)) rfl
                  replace ha := Aside0.mk ha
                  have B0 := Aside0.mk Q_B0
                  refine value_ (w1 := w') (v := .agg #[.int .i64 (bn : Int), .int .i64 (nn : Int)]) (by rfl) rfl ?_ ?_
                  · go_simp
                    (try simp only [i64_w])
                    try rfl
                  refine hK.out _ _ ⟨g11, m9_, (by rw [ha.out]; exact putSel_upk 8 hb_ rfl rfl rfl), Q_B0, Q_AL, fun h0_ => absurd ((hoff 10 (by kernel_rfl)).symm.trans h0_) (by decide), Q_X9_⟩
                refine steps_cons ?_ ?_
                · rintro b a w' ⟨g11, m9_, ha, Q_B0, Q_AL, Q_ST, Q_X9_⟩ hb_ hon hoff
                  refine ⟨_, rfl, fun K hK => ?_⟩
                  replace ha := Aside0.mk ha
                  have B0 := Aside0.mk Q_B0
                  refine value_ (w1 := w'.alloc (Obj.cells #[.int .i64 0, .int .i64 0] 37)) (v := .pointer (some ⟨w'.heap.size, 0, none⟩)) (by rfl) rfl (by first | (go_simp; done) | (go_simp; rfl)) ?_
                  have hb := below_alloc (Below.refl w'.heap.size w') (Obj.cells #[.int .i64 0, .int .i64 0] 37)
                  refine hK.out _ _ ⟨w'.heap.size, (.pointer (some ⟨w'.heap.size, 0, none⟩)), (by rw [ha.out]; exact putSel_upk 9 hb_ rfl rfl rfl), below_then B0.out B0.out.size hb, fun _ _ => ⟨heap_alloc_new w' _, B0.out.size⟩, fun h0_ => absurd ((hoff 10 (by kernel_rfl)).symm.trans h0_) (by decide), fun _ => rfl⟩
                refine steps_cons ?_ ?_
                · rintro b a w' ⟨g11, m9_, ha, Q_B0, Q_AL, Q_ST, Q_X9_⟩ hb_ hon hoff
                  refine ⟨_, rfl, fun K hK => ?_⟩
                  have e11 : a.tmps[11]? = some (m9_) := by rw [ha]; exact putSel_on (e := (9, 11, m9_)) 9 rfl rfl (hon 9 (by kernel_rfl)) rfl
                  rw [Q_X9_ (hon 9 (by kernel_rfl))] at e11
                  have e97 : a.tmps[97]? = some (.agg #[.int .i64 (bn : Int), .int .i64 (nn : Int)]) := by rw [ha]; exact putSel_on (e := (8, 97, .agg #[.int .i64 (bn : Int), .int .i64 (nn : Int)])) 8 rfl rfl (hon 8 (by kernel_rfl)) rfl
                  replace ha := Aside0.mk ha
                  have B0 := Aside0.mk Q_B0
                  have AL := Aside0.mk (Q_AL (hon 9 (by kernel_rfl)) hb_)
                  have d0 := blk_cell AL.out.1 0
                  have d1 := blk_cell AL.out.1 1
                  have e0 := blk_frozen AL.out.1 0
                  have e1 := blk_frozen AL.out.1 1
                  have hst := put2o (bn : Int) (nn : Int) AL.out B0.out
                  refine skip_ (w1 := ?_) (by rfl) rfl ?_ ?_
                  rotate_left
                  · go_simp
                    rfl
                  refine hK.out _ _ ⟨g11, m9_, (by rw [ha.out]; exact putSel_none (v := undef) rfl), hst.1, fun _ h1_ => absurd ((up_self b 10).symm.trans h1_) (by decide), fun _ => hst.2, Q_X9_⟩
                exact steps_nil
              rintro b a W13 hall ⟨g11, m9_, ha, Q_B0, Q_AL, Q_ST, Q_X9_⟩
              clear B0
              have hb0_ := hall 0 (by kernel_rfl)
              have hb1_ := hall 1 (by kernel_rfl)
              have hb2_ := hall 2 (by kernel_rfl)
              have hb3_ := hall 3 (by kernel_rfl)
              have hb4_ := hall 4 (by kernel_rfl)
              have hb5_ := hall 5 (by kernel_rfl)
              have hb6_ := hall 6 (by kernel_rfl)
              have hb7_ := hall 7 (by kernel_rfl)
              have hb8_ := hall 8 (by kernel_rfl)
              have hb9_ := hall 9 (by kernel_rfl)
              have hb10_ := hall 10 (by kernel_rfl)
              subst ha
              obtain rfl := Q_X9_ hb9_
              simp only [putSel, hb0_, hb1_, hb2_, hb3_, hb4_, hb5_, hb6_, hb7_, hb8_, hb9_, hb10_, if_true, Act.put, List.setIfInBounds_toArray, List.set_cons_zero, List.set_cons_succ]
              have B0 := Aside0.mk Q_B0
              clear Q_B0
              clear Q_AL
              have ST := Aside0.mk (Q_ST hb10_)
              clear Q_ST
              clear hall hb0_ hb1_ hb2_ hb3_ hb4_ hb5_ hb6_ hb7_ hb8_ hb9_ hb10_
              have HS13 := Aside0.mk (HS12.out.below B0.out)
              have HB13 := Aside0.mk (below_then HB12.out HB12.out.size B0.out)
              have Z10' := Aside0.mk (blk_below Z10.out B0.out)
              have Z11 := Aside0.mk ST.out.1
              have HNS11 : Aside0 (¬ L.S g11 ∧ g8 ≠ g11) := ⟨fun h => by have := HS12.out.dev.lt _ h; have := ST.out.2; omega, fun h => by have := HS12.out.want.lt; have := ST.out.2; omega⟩
              clear B0 ST Z10 HS12 HB12 HNC
              obtain ⟨lo, hlo⟩ : ∃ k : Nat, k = bn * Pn := ⟨_, rfl⟩
              have HLO : Aside0 (lo + Pn ≤ n ∧ n ≤ 1088) := ⟨by
                have h1 : (bn + 1) * Pn ≤ Bn * Pn := Nat.mul_le_mul_right _ (by have := HBN.out; omega)
                rw [Nat.add_mul, Nat.one_mul] at h1
                have := HN.out; have := HMP.out; omega⟩
              have HWL : Aside0 (IntKind.i64.wrap ((bn : Int) * (Pn : Int)) = (lo : Int)) := ⟨by rw [show (bn : Int) * (Pn : Int) = ((bn * Pn : Nat) : Int) from (Int.natCast_mul ..).symm, ← hlo]; exact (wrap_id (by omega) (by have := HLO.out; omega)).1⟩
              have HLE := Aside0.mk hlo
              have HGL : Aside0 (g8 < W13.heap.size) := ⟨HS13.out.want.lt⟩
              clear hlo
              have y0 := blk_cell Z10'.out 0
              go_upto_if 100 with fail
              go_cut [100] (fun v100 wx => ∃ (D1 : Dv) (ws1 : List (List Int)), Aside0 (OWS W2 wx L g2 g8 n #[.int .i64 (Bn : Int), .int .i64 (Pn : Int), .int .i64 C, .slice Ab bad.length cb, .slice Af fs.length cf] (Bn : Int) (Pn : Int) D1 ws1) ∧ Aside0 (InvW D1 ws1) ∧ Aside0 (wx.heap[g11]? = some (.cells #[.int .i64 (bn : Int), .int .i64 (nn : Int)] 37 (0, 0))))
              case first => as_aux_lemma =>
                clear y0
                by_cases k3 : x.f0 = 3
                case pos => as_aux_lemma =>
                  have e3 : (x.f0 == 3) = true := by simp [k3]
                  clear k3
                  obtain ⟨r1, hr1⟩ : ∃ v, v = (D.erase (bn : Int)).1 := ⟨_, rfl⟩
                  obtain ⟨D1, hD1⟩ : ∃ v, v = (D.erase (bn : Int)).2 := ⟨_, rfl⟩
                  have HR1 := Aside0.mk hr1
                  have HD1 := Aside0.mk hD1
                  have HER := Aside0.mk (own_erase (show OwnD W2 W13 L g8 D from ⟨HS13.out.dev, HS13.out.own⟩) HGL.out (bn : Int))
                  rw [← hr1, ← hD1] at HER
                  have y4 := blk_cell Z11.out 0
                  cases hz : (r1 == 0) with
                  | false =>
                    have HRZ := Aside0.mk hz
                    clear hr1 hD1
                    go_wp2_with (go_at_call 16; refine HER.out.mono ?_; rintro e w15 ⟨rfl, hO, hT⟩; have HS15 := Aside0.mk (HS13.out.turn hO hT HNS.out.1 HNS.out.2 (by rw [HD1.out]; exact (erase_BP _ _).1) (by rw [HD1.out]; exact (erase_BP _ _).2)); have Z15 := Aside0.mk (blk_turn Z11.out hT HNS11.out.1); clear hO hT y4)
                    go_meet
                    exact ⟨D1, ws, HS15, ⟨by rw [HD1.out]; exact inv_erase HDO.out HIV.out _ rfl (fun _ => .inl rfl)⟩, Z15⟩
                  | true =>
                    have HRZ := Aside0.mk hz
                    clear hr1 hD1
                    go_upto_region 16 with (go_at_call 16; refine HER.out.mono ?_; rintro e w15 ⟨rfl, hO, hT⟩; have HS15 := Aside0.mk (HS13.out.turn hO hT HNS.out.1 HNS.out.2 (by rw [HD1.out]; exact (erase_BP _ _).1) (by rw [HD1.out]; exact (erase_BP _ _).2)); have Z15 := Aside0.mk (blk_turn Z11.out hT HNS11.out.1); clear hO hT y4)
                    have y4 := blk_cell Z15.out 0
                    have y5 := blk_cell HS15.out.plan 1
                    have hwl := HWL.out
                    obtain ⟨hiN, hhi⟩ : ∃ k : Nat, k = lo + Pn := ⟨_, rfl⟩
                    have HHI := Aside0.mk hhi
                    have HWH : Aside0 (IntKind.i64.wrap ((bn : Int) + 1) = (bn : Int) + 1 ∧ IntKind.i64.wrap (((bn : Int) + 1) * (Pn : Int)) = (hiN : Int)) := ⟨by
                      have e : ((bn : Int) + 1) * (Pn : Int) = (hiN : Int) := by
                        rw [Int.add_mul, Int.one_mul, show (bn : Int) * (Pn : Int) = ((bn * Pn : Nat) : Int) from (Int.natCast_mul ..).symm, ← HLE.out, hhi, Int.natCast_add]
                      rw [e]
                      exact ⟨(wrap_id (by omega) (by have := HBN.out; have := HGP.out; omega)).1, (wrap_id (by omega) (by have := HLO.out; omega)).1⟩⟩
                    clear hhi
                    go_upto_block 2 with fail
                    clear y4 y5 hwl
                    go_wp2_with fail
                    go_loopg [12] (Pn + 1) (fun kq v12 w' => ∃ kk : Nat, v12 = .int .i64 (kk : Int) ∧ Aside0 (lo ≤ kk ∧ kk ≤ hiN ∧ kq + kk = hiN + 1) ∧ Aside0 (OWS W2 w' L g2 g8 n #[.int .i64 (Bn : Int), .int .i64 (Pn : Int), .int .i64 C, .slice Ab bad.length cb, .slice Af fs.length cf] (Bn : Int) (Pn : Int) D1 (clr ws lo (kk - lo))) ∧ Aside0 (w'.heap[g11]? = some (.cells #[.int .i64 (bn : Int), .int .i64 (nn : Int)] 37 (0, 0))))
                    case atStart => exact ⟨lo, rfl, ⟨by omega, by have := HHI.out; omega, by have := HHI.out; omega⟩, ⟨by rw [Nat.sub_self, clr_zero]; exact HS15.out⟩, Z15⟩
                    case round =>
                      obtain ⟨kk, rfl, HJ, HSJ, ZJ⟩ := hrel
                      clear HS15 Z15
                      have y4 := blk_cell ZJ.out 0
                      have y5 := blk_cell HSJ.out.plan 1
                      have hw1 := HWH.out.1
                      have hw2 := HWH.out.2
                      by_cases hk : kk < hiN
                      case neg =>
                        have t1 : decide ((kk : Int) < (hiN : Int)) = false := decide_eq_false (by omega)
                        have t2 : decide (kk < hiN) = false := decide_eq_false hk
                        have HKE := Aside0.mk hk
                        clear hk
                        go_wp2_with fail
                        go_meet
                        exact ⟨D1, _, HSJ, ⟨by rw [HD1.out]; exact inv_erase HDO.out HIV.out _ (clr_len _ _ _) (fun i => by rw [clr_at]; split; exact .inr rfl; exact .inl rfl)⟩, ZJ⟩
                      case pos =>
                        have t1 : decide ((kk : Int) < (hiN : Int)) = true := decide_eq_true (by omega)
                        have t2 : decide (kk < hiN) = true := decide_eq_true hk
                        have HKE := Aside0.mk hk
                        have p1 := eq_true (show (0 : Int) ≤ (kk : Int) by omega)
                        have q1 := eq_true (show (kk : Int) < (n : Int) by have := HHI.out; have := HLO.out; omega)
                        have q2 := eq_true (show kk < n by have := HHI.out; have := HLO.out; omega)
                        have c8 := HSJ.out.want.cell (texts_get (k := kk) (by rw [HSJ.out.wl]; have := HHI.out; have := HLO.out; omega))
                        obtain ⟨so, hso⟩ : ∃ v, v = strOfNums ((clr ws lo (kk - lo)).getD kk []) := ⟨_, rfl⟩
                        rw [← hso] at c8
                        have f8 := HSJ.out.want.frozen kk
                        obtain ⟨hw5, hw6⟩ := wrap_id (x := (kk : Int) + 1) (by omega) (by have := HHI.out; have := HLO.out; omega)
                        have HSN := Aside0.mk (HSJ.out.set HG8.out.1 HG8.out.2.1 kk [])
                        have ZN := Aside0.mk (blk_far ZJ.out (p := ⟨g8, kk, none⟩) (Ne.symm HNS11.out.2) (.string ⟨#[]⟩))
                        clear hso hk
                        go_wp2_with fail
                        go_roundg (gk - 1)
                        case measure => have := HJ.out; have := HKE.out; omega
                        case rel => exact ⟨kk + 1, by first | rfl | go_num, ⟨by have := HJ.out; omega, by have := HKE.out; omega, by have := HJ.out; have := HKE.out; omega⟩, ⟨by
                          have e : clr ws lo (kk + 1 - lo) = (clr ws lo (kk - lo)).set kk [] := by
                            have h1 := clr_succ ws lo (kk - lo)
                            rw [show kk - lo + 1 = kk + 1 - lo by have := HJ.out; omega, show lo + (kk - lo) = kk by have := HJ.out; omega] at h1
                            exact h1
                          rw [e]
                          exact HSN.out⟩, ZN⟩
                case neg => as_aux_lemma =>
                  have e3 : (x.f0 == 3) = false := by simp [k3]
                  clear k3
                  go_upto_region 20 with fail
                  obtain ⟨r1, hr1⟩ : ∃ v, v = (D.prog (bn : Int) (nn : Int) (fullL x.f2)).1 := ⟨_, rfl⟩
                  obtain ⟨D1, hD1⟩ : ∃ v, v = (D.prog (bn : Int) (nn : Int) (fullL x.f2)).2 := ⟨_, rfl⟩
                  have HR1 := Aside0.mk hr1
                  have HD1 := Aside0.mk hD1
                  have HBP := Aside0.mk (show D1.B = D.B ∧ D1.P = D.P by rw [hD1]; exact prog_BP _ _ _ _)
                  have HLS : Aside0 (∀ k, L.S k → W2.heap.size ≤ k ∧ k < W13.heap.size) := ⟨fun k hk => ⟨HS13.out.dev.2.2 k hk, HS13.out.dev.lt k hk⟩⟩
                  have GX2 := Aside0.mk (Kd.F_below (Kd.C_F (Kd.heap_int _) HX3.out.2) HB2.out)
                  have GX13 : Aside0 (Kd.F (Kd.int .u8) W13 (fun k => k < W.heap.size) A3 x.f2.length x.f2) := ⟨Kd.F_below (Kd.C_F (Kd.heap_int _) HX3.out.2) HB13.out⟩
                  have HFU := Aside0.mk (fun (w' : World) (h : Turn W13 w' L.S) => full_calls (A := A3) (c := c3) (s := x.f2) (Kd.F_now (F_turn GX13.out h (fun k hk _ hs => by have := (HLS.out k hs).1; have := HB2.out.size; omega))) HX3.out.1 (by have := HLN.out; omega))
                  have HPL : Aside0 (∀ (w' : World) (A : Option Addr) (c : Nat), OwnD W2 w' L g8 D → Turn W13 w' L.S → 256 ≤ c → Kd.F (Kd.int .u8) w' (fun k => W13.heap.size ≤ k) A 256 (fullL x.f2) → Calls Try.prog 17 #[.pointer (some ⟨L.g, 0, none⟩), .agg #[.int .i64 (bn : Int), .int .i64 (nn : Int)], .slice A 256 c] w' fun e w2 => e = .returned (.int .i64 r1) ∧ OwnD W2 w2 L g8 D1 ∧ Turn w' w2 L.S) := ⟨by
                    intro w' A c h hT hc hF
                    have k := own_prog h (okl := fun k => W13.heap.size ≤ k) (Nat.lt_of_lt_of_le HGL.out hT.size) (bn : Int) (nn : Int) (fullL x.f2) A c (by rw [fullL_len]; exact hc) (fullL_ok HXB.out).1 (by rw [fullL_len]; exact hF) (fun k hk _ hS => by have := (HLS.out k hS).2; omega)
                    rw [fullL_len] at k
                    rw [hr1, hD1]
                    exact k⟩
                  have TN := Aside0.mk (Turn.of_below (below_drew1 (Below.refl W13.heap.size W13)) L.S)
                  have T : Aside0 (OwnD W2 W13.drew L g8 D) := ⟨OwnD.below (w := W13) ⟨HS13.out.dev, HS13.out.own⟩ (below_drew1 (Below.refl W13.heap.size W13))⟩
                  have FA := True.intro
                  clear hr1 hD1 GX2
                  refine start_ (n := 7) (S := fun w' => True) (ds := []) #[false, false, false, false, false, false, false] (by kernel_rfl) rfl rfl trivial (fun hHeld => ?_)
                  refine with_tabW one20.tab20 one20.bits20 (fun HT_ HW_ => ?_)
                  have T1 := True.intro
                  generalize W13.drew = wq at TN T hHeld ⊢
                  refine inv_at [0, 1, 2, 3, 4, 5, 6] (fun a0_ b a w' => ∃ (Ad : Option Addr) (cd : Nat) (m4_ : Value), a = putSel a0_ b [(0, 126, .pointer (some ⟨L.g, 0, none⟩)), (1, 127, .agg #[.int .i64 (bn : Int), .int .i64 (nn : Int)]), (2, 128, .pointer (some ⟨g10, 3, none⟩)), (3, 129, .slice A3 x.f2.length c3), (4, 130, m4_), (5, 131, .int .i64 r1), (6, 13, .int .i64 r1)] ∧ (Turn W13 w' L.S) ∧ (b 5 = false → OwnD W2 w' L g8 D) ∧ (b 5 = true → OwnD W2 w' L g8 D1) ∧ (b 4 = true → b 5 = false → 256 ≤ cd ∧ Kd.F (Kd.int .u8) w' (fun k => W13.heap.size ≤ k) Ad 256 (fullL x.f2)) ∧ (b 4 = true → (m4_ : Value) = .slice Ad 256 cd)) HT_.out HW_.out (by kernel_rfl) (by kernel_rfl) ?_ ?_ ?_
                  · exact ⟨none, 0, .bool false, by simp only [putSel, Bool.false_eq_true, if_false], TN.out, fun _ => T.out, fun h_ => absurd h_ (by decide), fun h_ => absurd h_ (by decide), fun h_ => absurd h_ (by decide)⟩
                  · skip
                    clear T TN
                    refine steps_cons ?_ ?_
                    · rintro b a w' ⟨Ad, cd, m4_, ha, Q_TN, Q_T, Q_T1, Q_FA, Q_X4_⟩ hb_ hon hoff
                      refine ⟨_, rfl, fun K hK => ?_⟩
                      have e5 : a.tmps[5]? = some (.pointer (some ⟨L.g, 0, none⟩)) := by rw [ha]; exact (putSel_off rfl).trans rfl
                      replace ha := Aside0.mk ha
                      have TN := Aside0.mk Q_TN
                      have T := Aside0.mk (Q_T (hoff 5 (by kernel_rfl)))
                      refine value_ (w1 := w') (v := .pointer (some ⟨L.g, 0, none⟩)) (by rfl) rfl ?_ ?_
                      · go_simp
                        (try simp only [i64_w])
                        try rfl
                      refine hK.out _ _ ⟨Ad, cd, m4_, (by rw [ha.out]; exact putSel_upk 0 hb_ rfl rfl rfl), Q_TN, Q_T, fun h0_ => absurd ((hoff 5 (by kernel_rfl)).symm.trans h0_) (by decide), Q_FA, Q_X4_⟩
                    refine steps_cons ?_ ?_
                    · rintro b a w' ⟨Ad, cd, m4_, ha, Q_TN, Q_T, Q_T1, Q_FA, Q_X4_⟩ hb_ hon hoff
                      refine ⟨_, rfl, fun K hK => ?_⟩
                      have e11 : a.tmps[11]? = some (.pointer (some ⟨g11, 0, none⟩)) := by rw [ha]; exact (putSel_off rfl).trans rfl
                      replace ha := Aside0.mk ha
                      have TN := Aside0.mk Q_TN
                      have T := Aside0.mk (Q_T (hoff 5 (by kernel_rfl)))
                      have c0_ := blk_cell (blk_turn Z11.out TN.out HNS11.out.1) 0
                      have c1_ := blk_cell (blk_turn Z11.out TN.out HNS11.out.1) 1
                      refine value_ (w1 := w') (v := .agg #[.int .i64 (bn : Int), .int .i64 (nn : Int)]) (by rfl) rfl ?_ ?_
                      · go_simp
                        (try simp only [i64_w])
                        try rfl
                      refine hK.out _ _ ⟨Ad, cd, m4_, (by rw [ha.out]; exact putSel_upk 1 hb_ rfl rfl rfl), Q_TN, Q_T, fun h0_ => absurd ((hoff 5 (by kernel_rfl)).symm.trans h0_) (by decide), Q_FA, Q_X4_⟩
                    refine steps_cons ?_ ?_
                    · rintro b a w' ⟨Ad, cd, m4_, ha, Q_TN, Q_T, Q_T1, Q_FA, Q_X4_⟩ hb_ hon hoff
                      refine ⟨_, rfl, fun K hK => ?_⟩
                      have e10 : a.tmps[10]? = some (.pointer (some ⟨g10, 0, none⟩)) := by rw [ha]; exact (putSel_off rfl).trans rfl
                      replace ha := Aside0.mk ha
                      have TN := Aside0.mk Q_TN
                      have T := Aside0.mk (Q_T (hoff 5 (by kernel_rfl)))
                      refine value_ (w1 := w') (v := .pointer (some ⟨g10, 3, none⟩)) (by rfl) rfl ?_ ?_
                      · go_simp
                        (try simp only [i64_w])
                        try rfl
                      refine hK.out _ _ ⟨Ad, cd, m4_, (by rw [ha.out]; exact putSel_upk 2 hb_ rfl rfl rfl), Q_TN, Q_T, fun h0_ => absurd ((hoff 5 (by kernel_rfl)).symm.trans h0_) (by decide), fun h0_ _ => absurd ((hoff 4 (by kernel_rfl)).symm.trans h0_) (by decide), fun h0_ => absurd ((hoff 4 (by kernel_rfl)).symm.trans h0_) (by decide)⟩
                    refine steps_cons ?_ ?_
                    · rintro b a w' ⟨Ad, cd, m4_, ha, Q_TN, Q_T, Q_T1, Q_FA, Q_X4_⟩ hb_ hon hoff
                      refine ⟨_, rfl, fun K hK => ?_⟩
                      have e128 : a.tmps[128]? = some (.pointer (some ⟨g10, 3, none⟩)) := by rw [ha]; exact putSel_on (e := (2, 128, .pointer (some ⟨g10, 3, none⟩))) 2 rfl rfl (hon 2 (by kernel_rfl)) rfl
                      replace ha := Aside0.mk ha
                      have TN := Aside0.mk Q_TN
                      have T := Aside0.mk (Q_T (hoff 5 (by kernel_rfl)))
                      have c0_ := blk_cell (blk_turn Z10'.out TN.out HNS10.out) 3
                      refine value_ (w1 := w') (v := .slice A3 x.f2.length c3) (by rfl) rfl ?_ ?_
                      · go_simp
                        (try simp only [i64_w])
                        try rfl
                      refine hK.out _ _ ⟨Ad, cd, m4_, (by rw [ha.out]; exact putSel_upk 3 hb_ rfl rfl rfl), Q_TN, Q_T, fun h0_ => absurd ((hoff 5 (by kernel_rfl)).symm.trans h0_) (by decide), fun h0_ _ => absurd ((hoff 4 (by kernel_rfl)).symm.trans h0_) (by decide), fun h0_ => absurd ((hoff 4 (by kernel_rfl)).symm.trans h0_) (by decide)⟩
                    refine steps_cons ?_ ?_
                    · rintro b a w' ⟨Ad, cd, m4_, ha, Q_TN, Q_T, Q_T1, Q_FA, Q_X4_⟩ hb_ hon hoff
                      refine ⟨_, rfl, fun K hK => ?_⟩
                      have e129 : a.tmps[129]? = some (.slice A3 x.f2.length c3) := by rw [ha]; exact putSel_on (e := (3, 129, .slice A3 x.f2.length c3)) 3 rfl rfl (hon 3 (by kernel_rfl)) rfl
                      replace ha := Aside0.mk ha
                      have TN := Aside0.mk Q_TN
                      have T := Aside0.mk (Q_T (hoff 5 (by kernel_rfl)))
                      refine goes_ Try.func18 (by kernel_rfl) rfl #[.slice A3 x.f2.length c3] (by rfl) rfl rfl (by first | (simp only [List.map_toArray, List.map_cons, List.map_nil, Act.eval, Array.getD_eq_getD_getElem?, Option.getD_some, e129]; done) | (simp only [List.map_toArray, List.map_cons, List.map_nil, Act.eval, Array.getD_eq_getD_getElem?, Option.getD_some, e129]; rfl)) ?_
                      with_reducible refine (HFU.out _ TN.out).mono ?_
                      rintro e w2 ⟨A_, c_, rfl, hc_, hF_, hb⟩
                      refine ⟨_, rfl, ?_⟩
                      refine hK.out _ _ ⟨A_, c_, (.slice A_ 256 c_), (by rw [ha.out]; exact putSel_upk 4 hb_ rfl rfl rfl), TN.out.below hb, fun _ => T.out.below hb, fun h0_ => absurd ((hoff 5 (by kernel_rfl)).symm.trans h0_) (by decide), fun _ _ => ⟨hc_, Kd.F_mono hF_ (fun k hk => Nat.le_trans TN.out.size hk)⟩, fun _ => rfl⟩
                    refine steps_cons ?_ ?_
                    · rintro b a w' ⟨Ad, cd, m4_, ha, Q_TN, Q_T, Q_T1, Q_FA, Q_X4_⟩ hb_ hon hoff
                      refine ⟨_, rfl, fun K hK => ?_⟩
                      have e126 : a.tmps[126]? = some (.pointer (some ⟨L.g, 0, none⟩)) := by rw [ha]; exact putSel_on (e := (0, 126, .pointer (some ⟨L.g, 0, none⟩))) 0 rfl rfl (hon 0 (by kernel_rfl)) rfl
                      have e127 : a.tmps[127]? = some (.agg #[.int .i64 (bn : Int), .int .i64 (nn : Int)]) := by rw [ha]; exact putSel_on (e := (1, 127, .agg #[.int .i64 (bn : Int), .int .i64 (nn : Int)])) 1 rfl rfl (hon 1 (by kernel_rfl)) rfl
                      have e130 : a.tmps[130]? = some (m4_) := by rw [ha]; exact putSel_on (e := (4, 130, m4_)) 4 rfl rfl (hon 4 (by kernel_rfl)) rfl
                      rw [Q_X4_ (hon 4 (by kernel_rfl))] at e130
                      replace ha := Aside0.mk ha
                      have TN := Aside0.mk Q_TN
                      have T := Aside0.mk (Q_T hb_)
                      have FA := Aside0.mk (Q_FA (hon 4 (by kernel_rfl)) hb_)
                      refine goes_ Try.func17 (by kernel_rfl) rfl #[.pointer (some ⟨L.g, 0, none⟩), .agg #[.int .i64 (bn : Int), .int .i64 (nn : Int)], .slice Ad 256 cd] (by rfl) rfl rfl (by first | (simp only [List.map_toArray, List.map_cons, List.map_nil, Act.eval, Array.getD_eq_getD_getElem?, Option.getD_some, e126, e127, e130]; done) | (simp only [List.map_toArray, List.map_cons, List.map_nil, Act.eval, Array.getD_eq_getD_getElem?, Option.getD_some, e126, e127, e130]; rfl)) ?_
                      with_reducible refine (HPL.out _ _ _ T.out TN.out FA.out.1 FA.out.2).mono ?_
                      rintro e w2 ⟨rfl, hT_, ht_⟩
                      refine ⟨_, rfl, ?_⟩
                      refine hK.out _ _ ⟨Ad, cd, m4_, (by rw [ha.out]; exact putSel_upk 5 hb_ rfl rfl rfl), TN.out.trans ht_ (fun k hk => .inl hk), fun h0_ => absurd ((up_self b 5).symm.trans h0_) (by decide), fun _ => hT_, fun _ h1_ => absurd ((up_self b 5).symm.trans h1_) (by decide), Q_X4_⟩
                    refine steps_cons ?_ ?_
                    · rintro b a w' ⟨Ad, cd, m4_, ha, Q_TN, Q_T, Q_T1, Q_FA, Q_X4_⟩ hb_ hon hoff
                      refine ⟨_, rfl, fun K hK => ?_⟩
                      have e131 : a.tmps[131]? = some (.int .i64 r1) := by rw [ha]; exact putSel_on (e := (5, 131, .int .i64 r1)) 5 rfl rfl (hon 5 (by kernel_rfl)) rfl
                      replace ha := Aside0.mk ha
                      have TN := Aside0.mk Q_TN
                      have T1 := Aside0.mk (Q_T1 (hon 5 (by kernel_rfl)))
                      refine value_ (w1 := w') (v := .int .i64 r1) (by rfl) rfl ?_ ?_
                      · go_simp
                        (try simp only [i64_w])
                        try rfl
                      refine hK.out _ _ ⟨Ad, cd, m4_, (by rw [ha.out]; exact putSel_upk 6 hb_ rfl rfl rfl), Q_TN, fun h0_ => absurd ((hon 5 (by kernel_rfl)).symm.trans h0_) (by decide), Q_T1, fun _ h1_ => absurd ((hon 5 (by kernel_rfl)).symm.trans h1_) (by decide), Q_X4_⟩
                    exact steps_nil
                  rintro b a W20 hall ⟨Ad, cd, m4_, ha, Q_TN, Q_T, Q_T1, Q_FA, Q_X4_⟩
                  clear T TN
                  have hb0_ := hall 0 (by kernel_rfl)
                  have hb1_ := hall 1 (by kernel_rfl)
                  have hb2_ := hall 2 (by kernel_rfl)
                  have hb3_ := hall 3 (by kernel_rfl)
                  have hb4_ := hall 4 (by kernel_rfl)
                  have hb5_ := hall 5 (by kernel_rfl)
                  have hb6_ := hall 6 (by kernel_rfl)
                  subst ha
                  obtain rfl := Q_X4_ hb4_
                  simp only [putSel, hb0_, hb1_, hb2_, hb3_, hb4_, hb5_, hb6_, if_true, Act.put, List.setIfInBounds_toArray, List.set_cons_zero, List.set_cons_succ]
                  have TN := Aside0.mk Q_TN
                  clear Q_TN
                  clear Q_T
                  have T1 := Aside0.mk (Q_T1 hb5_)
                  clear Q_T1
                  clear Q_FA
                  clear hall hb0_ hb1_ hb2_ hb3_ hb4_ hb5_ hb6_
                  have HS20 := Aside0.mk (HS13.out.turn T1.out TN.out HNS.out.1 HNS.out.2 HBP.out.1 HBP.out.2)
                  have Z20 := Aside0.mk (blk_turn Z11.out TN.out HNS11.out.1)
                  have Z20' := Aside0.mk (blk_turn Z10'.out TN.out HNS10.out)
                  have GX20 : Aside0 (Kd.F (Kd.int .u8) W20 (fun k => k < W.heap.size) A3 x.f2.length x.f2) := ⟨F_turn GX13.out TN.out (fun k hk _ hs => by have := (HLS.out k hs).1; have := HB2.out.size; omega)⟩
                  clear T1 TN HFU HPL
                  obtain ⟨gs, hgs⟩ : ∃ q : Bool, q = ((r1 != 3 && r1 != 12) && r1 != 11) := ⟨_, rfl⟩
                  have HGS := Aside0.mk hgs
                  have HNX21 : Aside0 (r1 ≠ 3 → r1 ≠ 12 → r1 ≠ 11 → D.here (bn : Int) (nn : Int) = true ∧ (nn : Int) < D1.nextOf (bn : Int) ∧ InvW D1 (ws.set (D.idx (bn : Int) (nn : Int)) (fullL x.f2))) := ⟨fun h1 h2 h3 => by
                    have k := inv_prog HDO.out HIV.out HDN.out (b := (bn : Int)) (p := (nn : Int)) (l := fullL x.f2) HNX.out (fullL_ok HXB.out).1 (by rw [← HR1.out]; rintro (h | h | h) <;> contradiction)
                    rw [← HD1.out] at k
                    exact ⟨k.1, k.2.2, k.2.1⟩⟩
                  have HNC21 : Aside0 (∀ W', Below W20.heap.size W20 W' → Calls Try.prog 15 #[.pointer (some ⟨L.g, 0, none⟩), .int .i64 (bn : Int)] W' fun e w' => e = .returned (.int .i64 (D1.nextOf (bn : Int))) ∧ Below W'.heap.size W' w') := ⟨fun W' hW => by obtain ⟨ok, hD⟩ := HS20.out.dev.1; exact next_calls (hD.below hW) _⟩
                  clear hgs
                  go_upto_region 21 with fail
                  go_cut [150] (fun v150 wx => v150 = .bool gs ∧ Aside0 (Below W20.heap.size W20 wx))
                  case first => as_aux_lemma =>
                    have B0 := Aside0.mk (below_drew1 (Below.refl W20.heap.size W20))
                    cases h3 : (r1 != 3) with
                    | false =>
                      have HE3 := Aside0.mk h3
                      clear h3
                      refine start_ (n := 19) (S := fun w' => True) (ds := []) #[false, false, false, false, false, false, false, false, false, false, false, false, false, false, false, false, false, false, false] (by kernel_rfl) rfl rfl trivial (fun hHeld => ?_)
                      refine with_tabW one21.tab21 one21.bits21 (fun HT_ HW_ => ?_)
                      generalize W20.drew = wq at B0 hHeld ⊢
                      refine inv_at [0, 1, 2, 3, 4, 5, 6, 7, 8, 9, 10, 11, 12, 13, 14, 15, 16, 17, 18] (fun a0_ b a w' => a = putSel a0_ b [(0, 132, .int .i64 r1), (1, 133, .bool false), (2, 134, .bool false), (3, 135, undef), (4, 136, undef), (5, 137, .bool false), (6, 138, .bool false), (7, 139, undef), (8, 140, undef), (9, 141, .bool false), (10, 142, .bool false), (11, 143, undef), (12, 144, undef), (13, 145, undef), (14, 146, undef), (15, 147, undef), (16, 148, undef), (17, 149, undef), (18, 150, .bool false)] ∧ (Below W20.heap.size W20 w')) HT_.out HW_.out (by kernel_rfl) (by kernel_rfl) ?_ ?_ ?_
                      · exact ⟨by simp only [putSel, Bool.false_eq_true, if_false], B0.out⟩
                      · skip
                        clear B0
                        refine steps_cons ?_ ?_
                        · rintro b a w' ⟨ha, Q_B0⟩ hb_ hon hoff
                          refine ⟨_, rfl, fun K hK => ?_⟩
                          have e13 : a.tmps[13]? = some (.int .i64 r1) := by rw [ha]; exact (putSel_off rfl).trans rfl
                          replace ha := Aside0.mk ha
                          have B0 := Aside0.mk Q_B0
                          refine value_ (w1 := w') (v := .int .i64 r1) (by rfl) rfl ?_ ?_
                          · go_simp
                            (try simp only [i64_w])
                            try rfl
                          refine hK.out _ _ ⟨(by rw [ha.out]; exact putSel_upk 0 hb_ rfl rfl rfl), Q_B0⟩
                        refine steps_cons ?_ ?_
                        · rintro b a w' ⟨ha, Q_B0⟩ hb_ hon hoff
                          refine ⟨_, rfl, fun K hK => ?_⟩
                          have e132 : a.tmps[132]? = some (.int .i64 r1) := by rw [ha]; exact putSel_on (e := (0, 132, .int .i64 r1)) 0 rfl rfl (hon 0 (by kernel_rfl)) rfl
                          replace ha := Aside0.mk ha
                          have B0 := Aside0.mk Q_B0
                          have q_ := HE3.out
                          refine value_ (w1 := w') (v := .bool false) (by rfl) rfl ?_ ?_
                          · go_simp
                            (try simp only [i64_w])
                            try rfl
                          refine hK.out _ _ ⟨(by rw [ha.out]; exact putSel_upk 1 hb_ rfl rfl rfl), Q_B0⟩
                        refine steps_cons ?_ ?_
                        · rintro b a w' ⟨ha, Q_B0⟩ hb_ hon hoff
                          refine ⟨_, rfl, fun K hK => ?_⟩
                          have e133 : a.tmps[133]? = some (.bool false) := by rw [ha]; exact putSel_on (e := (1, 133, .bool false)) 1 rfl rfl (hon 1 (by kernel_rfl)) rfl
                          replace ha := Aside0.mk ha
                          have B0 := Aside0.mk Q_B0
                          refine value_ (w1 := w') (v := .bool false) (by rfl) rfl ?_ ?_
                          · go_simp
                            (try simp only [i64_w])
                            try rfl
                          refine hK.out _ _ ⟨(by rw [ha.out]; exact putSel_upk 2 hb_ rfl rfl rfl), Q_B0⟩
                        refine steps_cons ?_ ?_
                        · rintro b a w' ⟨ha, Q_B0⟩ hb_ hon hoff
                          refine ⟨_, rfl, fun K hK => ?_⟩
                          have e134 : a.tmps[134]? = some (.bool false) := by rw [ha]; exact putSel_on (e := (2, 134, .bool false)) 2 rfl rfl (hon 2 (by kernel_rfl)) rfl
                          replace ha := Aside0.mk ha
                          have B0 := Aside0.mk Q_B0
                          refine off_ (wanted_off rfl rfl rfl (e134.trans (by first | rfl | (simp [*]; done)))) ?_
                          refine hK.out _ _ ⟨(by rw [ha.out]; exact putSel_upk 3 hb_ rfl rfl rfl), Q_B0⟩
                        refine steps_cons ?_ ?_
                        · rintro b a w' ⟨ha, Q_B0⟩ hb_ hon hoff
                          refine ⟨_, rfl, fun K hK => ?_⟩
                          have e134 : a.tmps[134]? = some (.bool false) := by rw [ha]; exact putSel_on (e := (2, 134, .bool false)) 2 rfl rfl (hon 2 (by kernel_rfl)) rfl
                          replace ha := Aside0.mk ha
                          have B0 := Aside0.mk Q_B0
                          refine off_ (wanted_off rfl rfl rfl (e134.trans (by first | rfl | (simp [*]; done)))) ?_
                          refine hK.out _ _ ⟨(by rw [ha.out]; exact putSel_upk 4 hb_ rfl rfl rfl), Q_B0⟩
                        refine steps_cons ?_ ?_
                        · rintro b a w' ⟨ha, Q_B0⟩ hb_ hon hoff
                          refine ⟨_, rfl, fun K hK => ?_⟩
                          have e134 : a.tmps[134]? = some (.bool false) := by rw [ha]; exact putSel_on (e := (2, 134, .bool false)) 2 rfl rfl (hon 2 (by kernel_rfl)) rfl
                          have e136 : a.tmps[136]? = some (undef) := by rw [ha]; exact putSel_on (e := (4, 136, undef)) 4 rfl rfl (hon 4 (by kernel_rfl)) rfl
                          replace ha := Aside0.mk ha
                          have B0 := Aside0.mk Q_B0
                          refine value_ (w1 := w') (v := .bool false) (by rfl) rfl ?_ ?_
                          · go_simp
                            (try simp only [i64_w])
                            try rfl
                          refine hK.out _ _ ⟨(by rw [ha.out]; exact putSel_upk 5 hb_ rfl rfl rfl), Q_B0⟩
                        refine steps_cons ?_ ?_
                        · rintro b a w' ⟨ha, Q_B0⟩ hb_ hon hoff
                          refine ⟨_, rfl, fun K hK => ?_⟩
                          have e137 : a.tmps[137]? = some (.bool false) := by rw [ha]; exact putSel_on (e := (5, 137, .bool false)) 5 rfl rfl (hon 5 (by kernel_rfl)) rfl
                          replace ha := Aside0.mk ha
                          have B0 := Aside0.mk Q_B0
                          refine value_ (w1 := w') (v := .bool false) (by rfl) rfl ?_ ?_
                          · go_simp
                            (try simp only [i64_w])
                            try rfl
                          refine hK.out _ _ ⟨(by rw [ha.out]; exact putSel_upk 6 hb_ rfl rfl rfl), Q_B0⟩
                        refine steps_cons ?_ ?_
                        · rintro b a w' ⟨ha, Q_B0⟩ hb_ hon hoff
                          refine ⟨_, rfl, fun K hK => ?_⟩
                          have e138 : a.tmps[138]? = some (.bool false) := by rw [ha]; exact putSel_on (e := (6, 138, .bool false)) 6 rfl rfl (hon 6 (by kernel_rfl)) rfl
                          replace ha := Aside0.mk ha
                          have B0 := Aside0.mk Q_B0
                          refine off_ (wanted_off rfl rfl rfl (e138.trans (by first | rfl | (simp [*]; done)))) ?_
                          refine hK.out _ _ ⟨(by rw [ha.out]; exact putSel_upk 7 hb_ rfl rfl rfl), Q_B0⟩
                        refine steps_cons ?_ ?_
                        · rintro b a w' ⟨ha, Q_B0⟩ hb_ hon hoff
                          refine ⟨_, rfl, fun K hK => ?_⟩
                          have e138 : a.tmps[138]? = some (.bool false) := by rw [ha]; exact putSel_on (e := (6, 138, .bool false)) 6 rfl rfl (hon 6 (by kernel_rfl)) rfl
                          replace ha := Aside0.mk ha
                          have B0 := Aside0.mk Q_B0
                          refine off_ (wanted_off rfl rfl rfl (e138.trans (by first | rfl | (simp [*]; done)))) ?_
                          refine hK.out _ _ ⟨(by rw [ha.out]; exact putSel_upk 8 hb_ rfl rfl rfl), Q_B0⟩
                        refine steps_cons ?_ ?_
                        · rintro b a w' ⟨ha, Q_B0⟩ hb_ hon hoff
                          refine ⟨_, rfl, fun K hK => ?_⟩
                          have e138 : a.tmps[138]? = some (.bool false) := by rw [ha]; exact putSel_on (e := (6, 138, .bool false)) 6 rfl rfl (hon 6 (by kernel_rfl)) rfl
                          have e140 : a.tmps[140]? = some (undef) := by rw [ha]; exact putSel_on (e := (8, 140, undef)) 8 rfl rfl (hon 8 (by kernel_rfl)) rfl
                          replace ha := Aside0.mk ha
                          have B0 := Aside0.mk Q_B0
                          refine value_ (w1 := w') (v := .bool false) (by rfl) rfl ?_ ?_
                          · go_simp
                            (try simp only [i64_w])
                            try rfl
                          refine hK.out _ _ ⟨(by rw [ha.out]; exact putSel_upk 9 hb_ rfl rfl rfl), Q_B0⟩
                        refine steps_cons ?_ ?_
                        · rintro b a w' ⟨ha, Q_B0⟩ hb_ hon hoff
                          refine ⟨_, rfl, fun K hK => ?_⟩
                          have e141 : a.tmps[141]? = some (.bool false) := by rw [ha]; exact putSel_on (e := (9, 141, .bool false)) 9 rfl rfl (hon 9 (by kernel_rfl)) rfl
                          replace ha := Aside0.mk ha
                          have B0 := Aside0.mk Q_B0
                          refine value_ (w1 := w') (v := .bool false) (by rfl) rfl ?_ ?_
                          · go_simp
                            (try simp only [i64_w])
                            try rfl
                          refine hK.out _ _ ⟨(by rw [ha.out]; exact putSel_upk 10 hb_ rfl rfl rfl), Q_B0⟩
                        refine steps_cons ?_ ?_
                        · rintro b a w' ⟨ha, Q_B0⟩ hb_ hon hoff
                          refine ⟨_, rfl, fun K hK => ?_⟩
                          have e142 : a.tmps[142]? = some (.bool false) := by rw [ha]; exact putSel_on (e := (10, 142, .bool false)) 10 rfl rfl (hon 10 (by kernel_rfl)) rfl
                          replace ha := Aside0.mk ha
                          have B0 := Aside0.mk Q_B0
                          refine off_ (wanted_off rfl rfl rfl (e142.trans (by first | rfl | (simp [*]; done)))) ?_
                          refine hK.out _ _ ⟨(by rw [ha.out]; exact putSel_upk 11 hb_ rfl rfl rfl), Q_B0⟩
                        refine steps_cons ?_ ?_
                        · rintro b a w' ⟨ha, Q_B0⟩ hb_ hon hoff
                          refine ⟨_, rfl, fun K hK => ?_⟩
                          have e142 : a.tmps[142]? = some (.bool false) := by rw [ha]; exact putSel_on (e := (10, 142, .bool false)) 10 rfl rfl (hon 10 (by kernel_rfl)) rfl
                          replace ha := Aside0.mk ha
                          have B0 := Aside0.mk Q_B0
                          refine off_ (wanted_off rfl rfl rfl (e142.trans (by first | rfl | (simp [*]; done)))) ?_
                          refine hK.out _ _ ⟨(by rw [ha.out]; exact putSel_upk 12 hb_ rfl rfl rfl), Q_B0⟩
                        refine steps_cons ?_ ?_
                        · rintro b a w' ⟨ha, Q_B0⟩ hb_ hon hoff
                          refine ⟨_, rfl, fun K hK => ?_⟩
                          have e142 : a.tmps[142]? = some (.bool false) := by rw [ha]; exact putSel_on (e := (10, 142, .bool false)) 10 rfl rfl (hon 10 (by kernel_rfl)) rfl
                          replace ha := Aside0.mk ha
                          have B0 := Aside0.mk Q_B0
                          refine off_ (wanted_off rfl rfl rfl (e142.trans (by first | rfl | (simp [*]; done)))) ?_
                          refine hK.out _ _ ⟨(by rw [ha.out]; exact putSel_upk 13 hb_ rfl rfl rfl), Q_B0⟩
                        refine steps_cons ?_ ?_
                        · rintro b a w' ⟨ha, Q_B0⟩ hb_ hon hoff
                          refine ⟨_, rfl, fun K hK => ?_⟩
                          have e142 : a.tmps[142]? = some (.bool false) := by rw [ha]; exact putSel_on (e := (10, 142, .bool false)) 10 rfl rfl (hon 10 (by kernel_rfl)) rfl
                          replace ha := Aside0.mk ha
                          have B0 := Aside0.mk Q_B0
                          refine off_ (wanted_off rfl rfl rfl (e142.trans (by first | rfl | (simp [*]; done)))) ?_
                          refine hK.out _ _ ⟨(by rw [ha.out]; exact putSel_upk 14 hb_ rfl rfl rfl), Q_B0⟩
                        refine steps_cons ?_ ?_
                        · rintro b a w' ⟨ha, Q_B0⟩ hb_ hon hoff
                          refine ⟨_, rfl, fun K hK => ?_⟩
                          have e142 : a.tmps[142]? = some (.bool false) := by rw [ha]; exact putSel_on (e := (10, 142, .bool false)) 10 rfl rfl (hon 10 (by kernel_rfl)) rfl
                          replace ha := Aside0.mk ha
                          have B0 := Aside0.mk Q_B0
                          refine off_ (wanted_off rfl rfl rfl (e142.trans (by first | rfl | (simp [*]; done)))) ?_
                          refine hK.out _ _ ⟨(by rw [ha.out]; exact putSel_upk 15 hb_ rfl rfl rfl), Q_B0⟩
                        refine steps_cons ?_ ?_
                        · rintro b a w' ⟨ha, Q_B0⟩ hb_ hon hoff
                          refine ⟨_, rfl, fun K hK => ?_⟩
                          have e142 : a.tmps[142]? = some (.bool false) := by rw [ha]; exact putSel_on (e := (10, 142, .bool false)) 10 rfl rfl (hon 10 (by kernel_rfl)) rfl
                          replace ha := Aside0.mk ha
                          have B0 := Aside0.mk Q_B0
                          refine off_ (wanted_off rfl rfl rfl (e142.trans (by first | rfl | (simp [*]; done)))) ?_
                          refine hK.out _ _ ⟨(by rw [ha.out]; exact putSel_upk 16 hb_ rfl rfl rfl), Q_B0⟩
                        refine steps_cons ?_ ?_
                        · rintro b a w' ⟨ha, Q_B0⟩ hb_ hon hoff
                          refine ⟨_, rfl, fun K hK => ?_⟩
                          have e142 : a.tmps[142]? = some (.bool false) := by rw [ha]; exact putSel_on (e := (10, 142, .bool false)) 10 rfl rfl (hon 10 (by kernel_rfl)) rfl
                          replace ha := Aside0.mk ha
                          have B0 := Aside0.mk Q_B0
                          refine off_ (wanted_off rfl rfl rfl (e142.trans (by first | rfl | (simp [*]; done)))) ?_
                          refine hK.out _ _ ⟨(by rw [ha.out]; exact putSel_upk 17 hb_ rfl rfl rfl), Q_B0⟩
                        refine steps_cons ?_ ?_
                        · rintro b a w' ⟨ha, Q_B0⟩ hb_ hon hoff
                          refine ⟨_, rfl, fun K hK => ?_⟩
                          have e142 : a.tmps[142]? = some (.bool false) := by rw [ha]; exact putSel_on (e := (10, 142, .bool false)) 10 rfl rfl (hon 10 (by kernel_rfl)) rfl
                          have e149 : a.tmps[149]? = some (undef) := by rw [ha]; exact putSel_on (e := (17, 149, undef)) 17 rfl rfl (hon 17 (by kernel_rfl)) rfl
                          replace ha := Aside0.mk ha
                          have B0 := Aside0.mk Q_B0
                          refine value_ (w1 := w') (v := .bool false) (by rfl) rfl ?_ ?_
                          · go_simp
                            (try simp only [i64_w])
                            try rfl
                          refine hK.out _ _ ⟨(by rw [ha.out]; exact putSel_upk 18 hb_ rfl rfl rfl), Q_B0⟩
                        exact steps_nil
                      rintro b a W21 hall ⟨ha, Q_B0⟩
                      clear B0
                      have hb0_ := hall 0 (by kernel_rfl)
                      have hb1_ := hall 1 (by kernel_rfl)
                      have hb2_ := hall 2 (by kernel_rfl)
                      have hb3_ := hall 3 (by kernel_rfl)
                      have hb4_ := hall 4 (by kernel_rfl)
                      have hb5_ := hall 5 (by kernel_rfl)
                      have hb6_ := hall 6 (by kernel_rfl)
                      have hb7_ := hall 7 (by kernel_rfl)
                      have hb8_ := hall 8 (by kernel_rfl)
                      have hb9_ := hall 9 (by kernel_rfl)
                      have hb10_ := hall 10 (by kernel_rfl)
                      have hb11_ := hall 11 (by kernel_rfl)
                      have hb12_ := hall 12 (by kernel_rfl)
                      have hb13_ := hall 13 (by kernel_rfl)
                      have hb14_ := hall 14 (by kernel_rfl)
                      have hb15_ := hall 15 (by kernel_rfl)
                      have hb16_ := hall 16 (by kernel_rfl)
                      have hb17_ := hall 17 (by kernel_rfl)
                      have hb18_ := hall 18 (by kernel_rfl)
                      subst ha
                      simp only [putSel, hb0_, hb1_, hb2_, hb3_, hb4_, hb5_, hb6_, hb7_, hb8_, hb9_, hb10_, hb11_, hb12_, hb13_, hb14_, hb15_, hb16_, hb17_, hb18_, if_true, Act.put, List.setIfInBounds_toArray, List.set_cons_zero, List.set_cons_succ]
                      have B0 := Aside0.mk Q_B0
                      clear Q_B0
                      clear hall hb0_ hb1_ hb2_ hb3_ hb4_ hb5_ hb6_ hb7_ hb8_ hb9_ hb10_ hb11_ hb12_ hb13_ hb14_ hb15_ hb16_ hb17_ hb18_
                      go_wp2_with fail
                      go_meet
                      exact ⟨by rw [HGS.out, HE3.out]; rfl, B0⟩
                    | true =>
                      have HE3 := Aside0.mk h3
                      clear h3
                      cases h12 : (r1 != 12) with
                      | false =>
                        have HE12 := Aside0.mk h12
                        clear h12
                        refine start_ (n := 19) (S := fun w' => True) (ds := []) #[false, false, false, false, false, false, false, false, false, false, false, false, false, false, false, false, false, false, false] (by kernel_rfl) rfl rfl trivial (fun hHeld => ?_)
                        refine with_tabW one21.tab21 one21.bits21 (fun HT_ HW_ => ?_)
                        generalize W20.drew = wq at B0 hHeld ⊢
                        refine inv_at [0, 1, 2, 3, 4, 5, 6, 7, 8, 9, 10, 11, 12, 13, 14, 15, 16, 17, 18] (fun a0_ b a w' => a = putSel a0_ b [(0, 132, .int .i64 r1), (1, 133, .bool true), (2, 134, .bool true), (3, 135, .int .i64 r1), (4, 136, .bool false), (5, 137, .bool false), (6, 138, .bool false), (7, 139, undef), (8, 140, undef), (9, 141, .bool false), (10, 142, .bool false), (11, 143, undef), (12, 144, undef), (13, 145, undef), (14, 146, undef), (15, 147, undef), (16, 148, undef), (17, 149, undef), (18, 150, .bool false)] ∧ (Below W20.heap.size W20 w')) HT_.out HW_.out (by kernel_rfl) (by kernel_rfl) ?_ ?_ ?_
                        · exact ⟨by simp only [putSel, Bool.false_eq_true, if_false], B0.out⟩
                        · skip
                          clear B0
                          refine steps_cons ?_ ?_
                          · rintro b a w' ⟨ha, Q_B0⟩ hb_ hon hoff
                            refine ⟨_, rfl, fun K hK => ?_⟩
                            have e13 : a.tmps[13]? = some (.int .i64 r1) := by rw [ha]; exact (putSel_off rfl).trans rfl
                            replace ha := Aside0.mk ha
                            have B0 := Aside0.mk Q_B0
                            refine value_ (w1 := w') (v := .int .i64 r1) (by rfl) rfl ?_ ?_
                            · go_simp
                              (try simp only [i64_w])
                              try rfl
                            refine hK.out _ _ ⟨(by rw [ha.out]; exact putSel_upk 0 hb_ rfl rfl rfl), Q_B0⟩
                          refine steps_cons ?_ ?_
                          · rintro b a w' ⟨ha, Q_B0⟩ hb_ hon hoff
                            refine ⟨_, rfl, fun K hK => ?_⟩
                            have e132 : a.tmps[132]? = some (.int .i64 r1) := by rw [ha]; exact putSel_on (e := (0, 132, .int .i64 r1)) 0 rfl rfl (hon 0 (by kernel_rfl)) rfl
                            replace ha := Aside0.mk ha
                            have B0 := Aside0.mk Q_B0
                            have q_ := HE3.out
                            refine value_ (w1 := w') (v := .bool true) (by rfl) rfl ?_ ?_
                            · go_simp
                              (try simp only [i64_w])
                              try rfl
                            refine hK.out _ _ ⟨(by rw [ha.out]; exact putSel_upk 1 hb_ rfl rfl rfl), Q_B0⟩
                          refine steps_cons ?_ ?_
                          · rintro b a w' ⟨ha, Q_B0⟩ hb_ hon hoff
                            refine ⟨_, rfl, fun K hK => ?_⟩
                            have e133 : a.tmps[133]? = some (.bool true) := by rw [ha]; exact putSel_on (e := (1, 133, .bool true)) 1 rfl rfl (hon 1 (by kernel_rfl)) rfl
                            replace ha := Aside0.mk ha
                            have B0 := Aside0.mk Q_B0
                            refine value_ (w1 := w') (v := .bool true) (by rfl) rfl ?_ ?_
                            · go_simp
                              (try simp only [i64_w])
                              try rfl
                            refine hK.out _ _ ⟨(by rw [ha.out]; exact putSel_upk 2 hb_ rfl rfl rfl), Q_B0⟩
                          refine steps_cons ?_ ?_
                          · rintro b a w' ⟨ha, Q_B0⟩ hb_ hon hoff
                            refine ⟨_, rfl, fun K hK => ?_⟩
                            have e13 : a.tmps[13]? = some (.int .i64 r1) := by rw [ha]; exact (putSel_off rfl).trans rfl
                            have e134 : a.tmps[134]? = some (.bool true) := by rw [ha]; exact putSel_on (e := (2, 134, .bool true)) 2 rfl rfl (hon 2 (by kernel_rfl)) rfl
                            replace ha := Aside0.mk ha
                            have B0 := Aside0.mk Q_B0
                            refine value_ (w1 := w') (v := .int .i64 r1) (wanted_on rfl rfl rfl (e134.trans (by first | rfl | (simp [*]; done)))) rfl ?_ ?_
                            · go_simp
                              (try simp only [i64_w])
                              try rfl
                            refine hK.out _ _ ⟨(by rw [ha.out]; exact putSel_upk 3 hb_ rfl rfl rfl), Q_B0⟩
                          refine steps_cons ?_ ?_
                          · rintro b a w' ⟨ha, Q_B0⟩ hb_ hon hoff
                            refine ⟨_, rfl, fun K hK => ?_⟩
                            have e135 : a.tmps[135]? = some (.int .i64 r1) := by rw [ha]; exact putSel_on (e := (3, 135, .int .i64 r1)) 3 rfl rfl (hon 3 (by kernel_rfl)) rfl
                            have e134 : a.tmps[134]? = some (.bool true) := by rw [ha]; exact putSel_on (e := (2, 134, .bool true)) 2 rfl rfl (hon 2 (by kernel_rfl)) rfl
                            replace ha := Aside0.mk ha
                            have B0 := Aside0.mk Q_B0
                            have q_ := HE12.out
                            refine value_ (w1 := w') (v := .bool false) (wanted_on rfl rfl rfl (e134.trans (by first | rfl | (simp [*]; done)))) rfl ?_ ?_
                            · go_simp
                              (try simp only [i64_w])
                              try rfl
                            refine hK.out _ _ ⟨(by rw [ha.out]; exact putSel_upk 4 hb_ rfl rfl rfl), Q_B0⟩
                          refine steps_cons ?_ ?_
                          · rintro b a w' ⟨ha, Q_B0⟩ hb_ hon hoff
                            refine ⟨_, rfl, fun K hK => ?_⟩
                            have e134 : a.tmps[134]? = some (.bool true) := by rw [ha]; exact putSel_on (e := (2, 134, .bool true)) 2 rfl rfl (hon 2 (by kernel_rfl)) rfl
                            have e136 : a.tmps[136]? = some (.bool false) := by rw [ha]; exact putSel_on (e := (4, 136, .bool false)) 4 rfl rfl (hon 4 (by kernel_rfl)) rfl
                            replace ha := Aside0.mk ha
                            have B0 := Aside0.mk Q_B0
                            refine value_ (w1 := w') (v := .bool false) (by rfl) rfl ?_ ?_
                            · go_simp
                              (try simp only [i64_w])
                              try rfl
                            refine hK.out _ _ ⟨(by rw [ha.out]; exact putSel_upk 5 hb_ rfl rfl rfl), Q_B0⟩
                          refine steps_cons ?_ ?_
                          · rintro b a w' ⟨ha, Q_B0⟩ hb_ hon hoff
                            refine ⟨_, rfl, fun K hK => ?_⟩
                            have e137 : a.tmps[137]? = some (.bool false) := by rw [ha]; exact putSel_on (e := (5, 137, .bool false)) 5 rfl rfl (hon 5 (by kernel_rfl)) rfl
                            replace ha := Aside0.mk ha
                            have B0 := Aside0.mk Q_B0
                            refine value_ (w1 := w') (v := .bool false) (by rfl) rfl ?_ ?_
                            · go_simp
                              (try simp only [i64_w])
                              try rfl
                            refine hK.out _ _ ⟨(by rw [ha.out]; exact putSel_upk 6 hb_ rfl rfl rfl), Q_B0⟩
                          refine steps_cons ?_ ?_
                          · rintro b a w' ⟨ha, Q_B0⟩ hb_ hon hoff
                            refine ⟨_, rfl, fun K hK => ?_⟩
                            have e138 : a.tmps[138]? = some (.bool false) := by rw [ha]; exact putSel_on (e := (6, 138, .bool false)) 6 rfl rfl (hon 6 (by kernel_rfl)) rfl
                            replace ha := Aside0.mk ha
                            have B0 := Aside0.mk Q_B0
                            refine off_ (wanted_off rfl rfl rfl (e138.trans (by first | rfl | (simp [*]; done)))) ?_
                            refine hK.out _ _ ⟨(by rw [ha.out]; exact putSel_upk 7 hb_ rfl rfl rfl), Q_B0⟩
                          refine steps_cons ?_ ?_
                          · rintro b a w' ⟨ha, Q_B0⟩ hb_ hon hoff
                            refine ⟨_, rfl, fun K hK => ?_⟩
                            have e138 : a.tmps[138]? = some (.bool false) := by rw [ha]; exact putSel_on (e := (6, 138, .bool false)) 6 rfl rfl (hon 6 (by kernel_rfl)) rfl
                            replace ha := Aside0.mk ha
                            have B0 := Aside0.mk Q_B0
                            refine off_ (wanted_off rfl rfl rfl (e138.trans (by first | rfl | (simp [*]; done)))) ?_
                            refine hK.out _ _ ⟨(by rw [ha.out]; exact putSel_upk 8 hb_ rfl rfl rfl), Q_B0⟩
                          refine steps_cons ?_ ?_
                          · rintro b a w' ⟨ha, Q_B0⟩ hb_ hon hoff
                            refine ⟨_, rfl, fun K hK => ?_⟩
                            have e138 : a.tmps[138]? = some (.bool false) := by rw [ha]; exact putSel_on (e := (6, 138, .bool false)) 6 rfl rfl (hon 6 (by kernel_rfl)) rfl
                            have e140 : a.tmps[140]? = some (undef) := by rw [ha]; exact putSel_on (e := (8, 140, undef)) 8 rfl rfl (hon 8 (by kernel_rfl)) rfl
                            replace ha := Aside0.mk ha
                            have B0 := Aside0.mk Q_B0
                            refine value_ (w1 := w') (v := .bool false) (by rfl) rfl ?_ ?_
                            · go_simp
                              (try simp only [i64_w])
                              try rfl
                            refine hK.out _ _ ⟨(by rw [ha.out]; exact putSel_upk 9 hb_ rfl rfl rfl), Q_B0⟩
                          refine steps_cons ?_ ?_
                          · rintro b a w' ⟨ha, Q_B0⟩ hb_ hon hoff
                            refine ⟨_, rfl, fun K hK => ?_⟩
                            have e141 : a.tmps[141]? = some (.bool false) := by rw [ha]; exact putSel_on (e := (9, 141, .bool false)) 9 rfl rfl (hon 9 (by kernel_rfl)) rfl
                            replace ha := Aside0.mk ha
                            have B0 := Aside0.mk Q_B0
                            refine value_ (w1 := w') (v := .bool false) (by rfl) rfl ?_ ?_
                            · go_simp
                              (try simp only [i64_w])
                              try rfl
                            refine hK.out _ _ ⟨(by rw [ha.out]; exact putSel_upk 10 hb_ rfl rfl rfl), Q_B0⟩
                          refine steps_cons ?_ ?_
                          · rintro b a w' ⟨ha, Q_B0⟩ hb_ hon hoff
                            refine ⟨_, rfl, fun K hK => ?_⟩
                            have e142 : a.tmps[142]? = some (.bool false) := by rw [ha]; exact putSel_on (e := (10, 142, .bool false)) 10 rfl rfl (hon 10 (by kernel_rfl)) rfl
                            replace ha := Aside0.mk ha
                            have B0 := Aside0.mk Q_B0
                            refine off_ (wanted_off rfl rfl rfl (e142.trans (by first | rfl | (simp [*]; done)))) ?_
                            refine hK.out _ _ ⟨(by rw [ha.out]; exact putSel_upk 11 hb_ rfl rfl rfl), Q_B0⟩
                          refine steps_cons ?_ ?_
                          · rintro b a w' ⟨ha, Q_B0⟩ hb_ hon hoff
                            refine ⟨_, rfl, fun K hK => ?_⟩
                            have e142 : a.tmps[142]? = some (.bool false) := by rw [ha]; exact putSel_on (e := (10, 142, .bool false)) 10 rfl rfl (hon 10 (by kernel_rfl)) rfl
                            replace ha := Aside0.mk ha
                            have B0 := Aside0.mk Q_B0
                            refine off_ (wanted_off rfl rfl rfl (e142.trans (by first | rfl | (simp [*]; done)))) ?_
                            refine hK.out _ _ ⟨(by rw [ha.out]; exact putSel_upk 12 hb_ rfl rfl rfl), Q_B0⟩
                          refine steps_cons ?_ ?_
                          · rintro b a w' ⟨ha, Q_B0⟩ hb_ hon hoff
                            refine ⟨_, rfl, fun K hK => ?_⟩
                            have e142 : a.tmps[142]? = some (.bool false) := by rw [ha]; exact putSel_on (e := (10, 142, .bool false)) 10 rfl rfl (hon 10 (by kernel_rfl)) rfl
                            replace ha := Aside0.mk ha
                            have B0 := Aside0.mk Q_B0
                            refine off_ (wanted_off rfl rfl rfl (e142.trans (by first | rfl | (simp [*]; done)))) ?_
                            refine hK.out _ _ ⟨(by rw [ha.out]; exact putSel_upk 13 hb_ rfl rfl rfl), Q_B0⟩
                          refine steps_cons ?_ ?_
                          · rintro b a w' ⟨ha, Q_B0⟩ hb_ hon hoff
                            refine ⟨_, rfl, fun K hK => ?_⟩
                            have e142 : a.tmps[142]? = some (.bool false) := by rw [ha]; exact putSel_on (e := (10, 142, .bool false)) 10 rfl rfl (hon 10 (by kernel_rfl)) rfl
                            replace ha := Aside0.mk ha
                            have B0 := Aside0.mk Q_B0
                            refine off_ (wanted_off rfl rfl rfl (e142.trans (by first | rfl | (simp [*]; done)))) ?_
                            refine hK.out _ _ ⟨(by rw [ha.out]; exact putSel_upk 14 hb_ rfl rfl rfl), Q_B0⟩
                          refine steps_cons ?_ ?_
                          · rintro b a w' ⟨ha, Q_B0⟩ hb_ hon hoff
                            refine ⟨_, rfl, fun K hK => ?_⟩
                            have e142 : a.tmps[142]? = some (.bool false) := by rw [ha]; exact putSel_on (e := (10, 142, .bool false)) 10 rfl rfl (hon 10 (by kernel_rfl)) rfl
                            replace ha := Aside0.mk ha
                            have B0 := Aside0.mk Q_B0
                            refine off_ (wanted_off rfl rfl rfl (e142.trans (by first | rfl | (simp [*]; done)))) ?_
                            refine hK.out _ _ ⟨(by rw [ha.out]; exact putSel_upk 15 hb_ rfl rfl rfl), Q_B0⟩
                          refine steps_cons ?_ ?_
                          · rintro b a w' ⟨ha, Q_B0⟩ hb_ hon hoff
                            refine ⟨_, rfl, fun K hK => ?_⟩
                            have e142 : a.tmps[142]? = some (.bool false) := by rw [ha]; exact putSel_on (e := (10, 142, .bool false)) 10 rfl rfl (hon 10 (by kernel_rfl)) rfl
                            replace ha := Aside0.mk ha
                            have B0 := Aside0.mk Q_B0
                            refine off_ (wanted_off rfl rfl rfl (e142.trans (by first | rfl | (simp [*]; done)))) ?_
                            refine hK.out _ _ ⟨(by rw [ha.out]; exact putSel_upk 16 hb_ rfl rfl rfl), Q_B0⟩
                          refine steps_cons ?_ ?_
                          · rintro b a w' ⟨ha, Q_B0⟩ hb_ hon hoff
                            refine ⟨_, rfl, fun K hK => ?_⟩
                            have e142 : a.tmps[142]? = some (.bool false) := by rw [ha]; exact putSel_on (e := (10, 142, .bool false)) 10 rfl rfl (hon 10 (by kernel_rfl)) rfl
                            replace ha := Aside0.mk ha
                            have B0 := Aside0.mk Q_B0
                            refine off_ (wanted_off rfl rfl rfl (e142.trans (by first | rfl | (simp [*]; done)))) ?_
                            refine hK.out _ _ ⟨(by rw [ha.out]; exact putSel_upk 17 hb_ rfl rfl rfl), Q_B0⟩
                          refine steps_cons ?_ ?_
                          · rintro b a w' ⟨ha, Q_B0⟩ hb_ hon hoff
                            refine ⟨_, rfl, fun K hK => ?_⟩
                            have e142 : a.tmps[142]? = some (.bool false) := by rw [ha]; exact putSel_on (e := (10, 142, .bool false)) 10 rfl rfl (hon 10 (by kernel_rfl)) rfl
                            have e149 : a.tmps[149]? = some (undef) := by rw [ha]; exact putSel_on (e := (17, 149, undef)) 17 rfl rfl (hon 17 (by kernel_rfl)) rfl
                            replace ha := Aside0.mk ha
                            have B0 := Aside0.mk Q_B0
                            refine value_ (w1 := w') (v := .bool false) (by rfl) rfl ?_ ?_
                            · go_simp
                              (try simp only [i64_w])
                              try rfl
                            refine hK.out _ _ ⟨(by rw [ha.out]; exact putSel_upk 18 hb_ rfl rfl rfl), Q_B0⟩
                          exact steps_nil
                        rintro b a W21 hall ⟨ha, Q_B0⟩
                        clear B0
                        have hb0_ := hall 0 (by kernel_rfl)
                        have hb1_ := hall 1 (by kernel_rfl)
                        have hb2_ := hall 2 (by kernel_rfl)
                        have hb3_ := hall 3 (by kernel_rfl)
                        have hb4_ := hall 4 (by kernel_rfl)
                        have hb5_ := hall 5 (by kernel_rfl)
                        have hb6_ := hall 6 (by kernel_rfl)
                        have hb7_ := hall 7 (by kernel_rfl)
                        have hb8_ := hall 8 (by kernel_rfl)
                        have hb9_ := hall 9 (by kernel_rfl)
                        have hb10_ := hall 10 (by kernel_rfl)
                        have hb11_ := hall 11 (by kernel_rfl)
                        have hb12_ := hall 12 (by kernel_rfl)
                        have hb13_ := hall 13 (by kernel_rfl)
                        have hb14_ := hall 14 (by kernel_rfl)
                        have hb15_ := hall 15 (by kernel_rfl)
                        have hb16_ := hall 16 (by kernel_rfl)
                        have hb17_ := hall 17 (by kernel_rfl)
                        have hb18_ := hall 18 (by kernel_rfl)
                        subst ha
                        simp only [putSel, hb0_, hb1_, hb2_, hb3_, hb4_, hb5_, hb6_, hb7_, hb8_, hb9_, hb10_, hb11_, hb12_, hb13_, hb14_, hb15_, hb16_, hb17_, hb18_, if_true, Act.put, List.setIfInBounds_toArray, List.set_cons_zero, List.set_cons_succ]
                        have B0 := Aside0.mk Q_B0
                        clear Q_B0
                        clear hall hb0_ hb1_ hb2_ hb3_ hb4_ hb5_ hb6_ hb7_ hb8_ hb9_ hb10_ hb11_ hb12_ hb13_ hb14_ hb15_ hb16_ hb17_ hb18_
                        go_wp2_with fail
                        go_meet
                        exact ⟨by rw [HGS.out, HE3.out, HE12.out]; rfl, B0⟩
                      | true =>
                        have HE12 := Aside0.mk h12
                        clear h12
                        cases h11 : (r1 != 11) with
                        | false =>
                          have HE11 := Aside0.mk h11
                          clear h11
                          refine start_ (n := 19) (S := fun w' => True) (ds := []) #[false, false, false, false, false, false, false, false, false, false, false, false, false, false, false, false, false, false, false] (by kernel_rfl) rfl rfl trivial (fun hHeld => ?_)
                          refine with_tabW one21.tab21 one21.bits21 (fun HT_ HW_ => ?_)
                          generalize W20.drew = wq at B0 hHeld ⊢
                          refine inv_at [0, 1, 2, 3, 4, 5, 6, 7, 8, 9, 10, 11, 12, 13, 14, 15, 16, 17, 18] (fun a0_ b a w' => a = putSel a0_ b [(0, 132, .int .i64 r1), (1, 133, .bool true), (2, 134, .bool true), (3, 135, .int .i64 r1), (4, 136, .bool true), (5, 137, .bool true), (6, 138, .bool true), (7, 139, .int .i64 r1), (8, 140, .bool false), (9, 141, .bool false), (10, 142, .bool false), (11, 143, undef), (12, 144, undef), (13, 145, undef), (14, 146, undef), (15, 147, undef), (16, 148, undef), (17, 149, undef), (18, 150, .bool false)] ∧ (Below W20.heap.size W20 w')) HT_.out HW_.out (by kernel_rfl) (by kernel_rfl) ?_ ?_ ?_
                          · exact ⟨by simp only [putSel, Bool.false_eq_true, if_false], B0.out⟩
                          · skip
                            clear B0
                            refine steps_cons ?_ ?_
                            · rintro b a w' ⟨ha, Q_B0⟩ hb_ hon hoff
                              refine ⟨_, rfl, fun K hK => ?_⟩
                              have e13 : a.tmps[13]? = some (.int .i64 r1) := by rw [ha]; exact (putSel_off rfl).trans rfl
                              replace ha := Aside0.mk ha
                              have B0 := Aside0.mk Q_B0
                              refine value_ (w1 := w') (v := .int .i64 r1) (by rfl) rfl ?_ ?_
                              · go_simp
                                (try simp only [i64_w])
                                try rfl
                              refine hK.out _ _ ⟨(by rw [ha.out]; exact putSel_upk 0 hb_ rfl rfl rfl), Q_B0⟩
                            refine steps_cons ?_ ?_
                            · rintro b a w' ⟨ha, Q_B0⟩ hb_ hon hoff
                              refine ⟨_, rfl, fun K hK => ?_⟩
                              have e132 : a.tmps[132]? = some (.int .i64 r1) := by rw [ha]; exact putSel_on (e := (0, 132, .int .i64 r1)) 0 rfl rfl (hon 0 (by kernel_rfl)) rfl
                              replace ha := Aside0.mk ha
                              have B0 := Aside0.mk Q_B0
                              have q_ := HE3.out
                              refine value_ (w1 := w') (v := .bool true) (by rfl) rfl ?_ ?_
                              · go_simp
                                (try simp only [i64_w])
                                try rfl
                              refine hK.out _ _ ⟨(by rw [ha.out]; exact putSel_upk 1 hb_ rfl rfl rfl), Q_B0⟩
                            refine steps_cons ?_ ?_
                            · rintro b a w' ⟨ha, Q_B0⟩ hb_ hon hoff
                              refine ⟨_, rfl, fun K hK => ?_⟩
                              have e133 : a.tmps[133]? = some (.bool true) := by rw [ha]; exact putSel_on (e := (1, 133, .bool true)) 1 rfl rfl (hon 1 (by kernel_rfl)) rfl
                              replace ha := Aside0.mk ha
                              have B0 := Aside0.mk Q_B0
                              refine value_ (w1 := w') (v := .bool true) (by rfl) rfl ?_ ?_
                              · go_simp
                                (try simp only [i64_w])
                                try rfl
                              refine hK.out _ _ ⟨(by rw [ha.out]; exact putSel_upk 2 hb_ rfl rfl rfl), Q_B0⟩
                            refine steps_cons ?_ ?_
                            · rintro b a w' ⟨ha, Q_B0⟩ hb_ hon hoff
                              refine ⟨_, rfl, fun K hK => ?_⟩
                              have e13 : a.tmps[13]? = some (.int .i64 r1) := by rw [ha]; exact (putSel_off rfl).trans rfl
                              have e134 : a.tmps[134]? = some (.bool true) := by rw [ha]; exact putSel_on (e := (2, 134, .bool true)) 2 rfl rfl (hon 2 (by kernel_rfl)) rfl
                              replace ha := Aside0.mk ha
                              have B0 := Aside0.mk Q_B0
                              refine value_ (w1 := w') (v := .int .i64 r1) (wanted_on rfl rfl rfl (e134.trans (by first | rfl | (simp [*]; done)))) rfl ?_ ?_
                              · go_simp
                                (try simp only [i64_w])
                                try rfl
                              refine hK.out _ _ ⟨(by rw [ha.out]; exact putSel_upk 3 hb_ rfl rfl rfl), Q_B0⟩
                            refine steps_cons ?_ ?_
                            · rintro b a w' ⟨ha, Q_B0⟩ hb_ hon hoff
                              refine ⟨_, rfl, fun K hK => ?_⟩
                              have e135 : a.tmps[135]? = some (.int .i64 r1) := by rw [ha]; exact putSel_on (e := (3, 135, .int .i64 r1)) 3 rfl rfl (hon 3 (by kernel_rfl)) rfl
                              have e134 : a.tmps[134]? = some (.bool true) := by rw [ha]; exact putSel_on (e := (2, 134, .bool true)) 2 rfl rfl (hon 2 (by kernel_rfl)) rfl
                              replace ha := Aside0.mk ha
                              have B0 := Aside0.mk Q_B0
                              have q_ := HE12.out
                              refine value_ (w1 := w') (v := .bool true) (wanted_on rfl rfl rfl (e134.trans (by first | rfl | (simp [*]; done)))) rfl ?_ ?_
                              · go_simp
                                (try simp only [i64_w])
                                try rfl
                              refine hK.out _ _ ⟨(by rw [ha.out]; exact putSel_upk 4 hb_ rfl rfl rfl), Q_B0⟩
                            refine steps_cons ?_ ?_
                            · rintro b a w' ⟨ha, Q_B0⟩ hb_ hon hoff
                              refine ⟨_, rfl, fun K hK => ?_⟩
                              have e134 : a.tmps[134]? = some (.bool true) := by rw [ha]; exact putSel_on (e := (2, 134, .bool true)) 2 rfl rfl (hon 2 (by kernel_rfl)) rfl
                              have e136 : a.tmps[136]? = some (.bool true) := by rw [ha]; exact putSel_on (e := (4, 136, .bool true)) 4 rfl rfl (hon 4 (by kernel_rfl)) rfl
                              replace ha := Aside0.mk ha
                              have B0 := Aside0.mk Q_B0
                              refine value_ (w1 := w') (v := .bool true) (by rfl) rfl ?_ ?_
                              · go_simp
                                (try simp only [i64_w])
                                try rfl
                              refine hK.out _ _ ⟨(by rw [ha.out]; exact putSel_upk 5 hb_ rfl rfl rfl), Q_B0⟩
                            refine steps_cons ?_ ?_
                            · rintro b a w' ⟨ha, Q_B0⟩ hb_ hon hoff
                              refine ⟨_, rfl, fun K hK => ?_⟩
                              have e137 : a.tmps[137]? = some (.bool true) := by rw [ha]; exact putSel_on (e := (5, 137, .bool true)) 5 rfl rfl (hon 5 (by kernel_rfl)) rfl
                              replace ha := Aside0.mk ha
                              have B0 := Aside0.mk Q_B0
                              refine value_ (w1 := w') (v := .bool true) (by rfl) rfl ?_ ?_
                              · go_simp
                                (try simp only [i64_w])
                                try rfl
                              refine hK.out _ _ ⟨(by rw [ha.out]; exact putSel_upk 6 hb_ rfl rfl rfl), Q_B0⟩
                            refine steps_cons ?_ ?_
                            · rintro b a w' ⟨ha, Q_B0⟩ hb_ hon hoff
                              refine ⟨_, rfl, fun K hK => ?_⟩
                              have e13 : a.tmps[13]? = some (.int .i64 r1) := by rw [ha]; exact (putSel_off rfl).trans rfl
                              have e138 : a.tmps[138]? = some (.bool true) := by rw [ha]; exact putSel_on (e := (6, 138, .bool true)) 6 rfl rfl (hon 6 (by kernel_rfl)) rfl
                              replace ha := Aside0.mk ha
                              have B0 := Aside0.mk Q_B0
                              refine value_ (w1 := w') (v := .int .i64 r1) (wanted_on rfl rfl rfl (e138.trans (by first | rfl | (simp [*]; done)))) rfl ?_ ?_
                              · go_simp
                                (try simp only [i64_w])
                                try rfl
                              refine hK.out _ _ ⟨(by rw [ha.out]; exact putSel_upk 7 hb_ rfl rfl rfl), Q_B0⟩
                            refine steps_cons ?_ ?_
                            · rintro b a w' ⟨ha, Q_B0⟩ hb_ hon hoff
                              refine ⟨_, rfl, fun K hK => ?_⟩
                              have e139 : a.tmps[139]? = some (.int .i64 r1) := by rw [ha]; exact putSel_on (e := (7, 139, .int .i64 r1)) 7 rfl rfl (hon 7 (by kernel_rfl)) rfl
                              have e138 : a.tmps[138]? = some (.bool true) := by rw [ha]; exact putSel_on (e := (6, 138, .bool true)) 6 rfl rfl (hon 6 (by kernel_rfl)) rfl
                              replace ha := Aside0.mk ha
                              have B0 := Aside0.mk Q_B0
                              have q_ := HE11.out
                              refine value_ (w1 := w') (v := .bool false) (wanted_on rfl rfl rfl (e138.trans (by first | rfl | (simp [*]; done)))) rfl ?_ ?_
                              · go_simp
                                (try simp only [i64_w])
                                try rfl
                              refine hK.out _ _ ⟨(by rw [ha.out]; exact putSel_upk 8 hb_ rfl rfl rfl), Q_B0⟩
                            refine steps_cons ?_ ?_
                            · rintro b a w' ⟨ha, Q_B0⟩ hb_ hon hoff
                              refine ⟨_, rfl, fun K hK => ?_⟩
                              have e138 : a.tmps[138]? = some (.bool true) := by rw [ha]; exact putSel_on (e := (6, 138, .bool true)) 6 rfl rfl (hon 6 (by kernel_rfl)) rfl
                              have e140 : a.tmps[140]? = some (.bool false) := by rw [ha]; exact putSel_on (e := (8, 140, .bool false)) 8 rfl rfl (hon 8 (by kernel_rfl)) rfl
                              replace ha := Aside0.mk ha
                              have B0 := Aside0.mk Q_B0
                              refine value_ (w1 := w') (v := .bool false) (by rfl) rfl ?_ ?_
                              · go_simp
                                (try simp only [i64_w])
                                try rfl
                              refine hK.out _ _ ⟨(by rw [ha.out]; exact putSel_upk 9 hb_ rfl rfl rfl), Q_B0⟩
                            refine steps_cons ?_ ?_
                            · rintro b a w' ⟨ha, Q_B0⟩ hb_ hon hoff
                              refine ⟨_, rfl, fun K hK => ?_⟩
                              have e141 : a.tmps[141]? = some (.bool false) := by rw [ha]; exact putSel_on (e := (9, 141, .bool false)) 9 rfl rfl (hon 9 (by kernel_rfl)) rfl
                              replace ha := Aside0.mk ha
                              have B0 := Aside0.mk Q_B0
                              refine value_ (w1 := w') (v := .bool false) (by rfl) rfl ?_ ?_
                              · go_simp
                                (try simp only [i64_w])
                                try rfl
                              refine hK.out _ _ ⟨(by rw [ha.out]; exact putSel_upk 10 hb_ rfl rfl rfl), Q_B0⟩
                            refine steps_cons ?_ ?_
                            · rintro b a w' ⟨ha, Q_B0⟩ hb_ hon hoff
                              refine ⟨_, rfl, fun K hK => ?_⟩
                              have e142 : a.tmps[142]? = some (.bool false) := by rw [ha]; exact putSel_on (e := (10, 142, .bool false)) 10 rfl rfl (hon 10 (by kernel_rfl)) rfl
                              replace ha := Aside0.mk ha
                              have B0 := Aside0.mk Q_B0
                              refine off_ (wanted_off rfl rfl rfl (e142.trans (by first | rfl | (simp [*]; done)))) ?_
                              refine hK.out _ _ ⟨(by rw [ha.out]; exact putSel_upk 11 hb_ rfl rfl rfl), Q_B0⟩
                            refine steps_cons ?_ ?_
                            · rintro b a w' ⟨ha, Q_B0⟩ hb_ hon hoff
                              refine ⟨_, rfl, fun K hK => ?_⟩
                              have e142 : a.tmps[142]? = some (.bool false) := by rw [ha]; exact putSel_on (e := (10, 142, .bool false)) 10 rfl rfl (hon 10 (by kernel_rfl)) rfl
                              replace ha := Aside0.mk ha
                              have B0 := Aside0.mk Q_B0
                              refine off_ (wanted_off rfl rfl rfl (e142.trans (by first | rfl | (simp [*]; done)))) ?_
                              refine hK.out _ _ ⟨(by rw [ha.out]; exact putSel_upk 12 hb_ rfl rfl rfl), Q_B0⟩
                            refine steps_cons ?_ ?_
                            · rintro b a w' ⟨ha, Q_B0⟩ hb_ hon hoff
                              refine ⟨_, rfl, fun K hK => ?_⟩
                              have e142 : a.tmps[142]? = some (.bool false) := by rw [ha]; exact putSel_on (e := (10, 142, .bool false)) 10 rfl rfl (hon 10 (by kernel_rfl)) rfl
                              replace ha := Aside0.mk ha
                              have B0 := Aside0.mk Q_B0
                              refine off_ (wanted_off rfl rfl rfl (e142.trans (by first | rfl | (simp [*]; done)))) ?_
                              refine hK.out _ _ ⟨(by rw [ha.out]; exact putSel_upk 13 hb_ rfl rfl rfl), Q_B0⟩
                            refine steps_cons ?_ ?_
                            · rintro b a w' ⟨ha, Q_B0⟩ hb_ hon hoff
                              refine ⟨_, rfl, fun K hK => ?_⟩
                              have e142 : a.tmps[142]? = some (.bool false) := by rw [ha]; exact putSel_on (e := (10, 142, .bool false)) 10 rfl rfl (hon 10 (by kernel_rfl)) rfl
                              replace ha := Aside0.mk ha
                              have B0 := Aside0.mk Q_B0
                              refine off_ (wanted_off rfl rfl rfl (e142.trans (by first | rfl | (simp [*]; done)))) ?_
                              refine hK.out _ _ ⟨(by rw [ha.out]; exact putSel_upk 14 hb_ rfl rfl rfl), Q_B0⟩
                            refine steps_cons ?_ ?_
                            · rintro b a w' ⟨ha, Q_B0⟩ hb_ hon hoff
                              refine ⟨_, rfl, fun K hK => ?_⟩
                              have e142 : a.tmps[142]? = some (.bool false) := by rw [ha]; exact putSel_on (e := (10, 142, .bool false)) 10 rfl rfl (hon 10 (by kernel_rfl)) rfl
                              replace ha := Aside0.mk ha
                              have B0 := Aside0.mk Q_B0
                              refine off_ (wanted_off rfl rfl rfl (e142.trans (by first | rfl | (simp [*]; done)))) ?_
                              refine hK.out _ _ ⟨(by rw [ha.out]; exact putSel_upk 15 hb_ rfl rfl rfl), Q_B0⟩
                            refine steps_cons ?_ ?_
                            · rintro b a w' ⟨ha, Q_B0⟩ hb_ hon hoff
                              refine ⟨_, rfl, fun K hK => ?_⟩
                              have e142 : a.tmps[142]? = some (.bool false) := by rw [ha]; exact putSel_on (e := (10, 142, .bool false)) 10 rfl rfl (hon 10 (by kernel_rfl)) rfl
                              replace ha := Aside0.mk ha
                              have B0 := Aside0.mk Q_B0
                              refine off_ (wanted_off rfl rfl rfl (e142.trans (by first | rfl | (simp [*]; done)))) ?_
                              refine hK.out _ _ ⟨(by rw [ha.out]; exact putSel_upk 16 hb_ rfl rfl rfl), Q_B0⟩
                            refine steps_cons ?_ ?_
                            · rintro b a w' ⟨ha, Q_B0⟩ hb_ hon hoff
                              refine ⟨_, rfl, fun K hK => ?_⟩
                              have e142 : a.tmps[142]? = some (.bool false) := by rw [ha]; exact putSel_on (e := (10, 142, .bool false)) 10 rfl rfl (hon 10 (by kernel_rfl)) rfl
                              replace ha := Aside0.mk ha
                              have B0 := Aside0.mk Q_B0
                              refine off_ (wanted_off rfl rfl rfl (e142.trans (by first | rfl | (simp [*]; done)))) ?_
                              refine hK.out _ _ ⟨(by rw [ha.out]; exact putSel_upk 17 hb_ rfl rfl rfl), Q_B0⟩
                            refine steps_cons ?_ ?_
                            · rintro b a w' ⟨ha, Q_B0⟩ hb_ hon hoff
                              refine ⟨_, rfl, fun K hK => ?_⟩
                              have e142 : a.tmps[142]? = some (.bool false) := by rw [ha]; exact putSel_on (e := (10, 142, .bool false)) 10 rfl rfl (hon 10 (by kernel_rfl)) rfl
                              have e149 : a.tmps[149]? = some (undef) := by rw [ha]; exact putSel_on (e := (17, 149, undef)) 17 rfl rfl (hon 17 (by kernel_rfl)) rfl
                              replace ha := Aside0.mk ha
                              have B0 := Aside0.mk Q_B0
                              refine value_ (w1 := w') (v := .bool false) (by rfl) rfl ?_ ?_
                              · go_simp
                                (try simp only [i64_w])
                                try rfl
                              refine hK.out _ _ ⟨(by rw [ha.out]; exact putSel_upk 18 hb_ rfl rfl rfl), Q_B0⟩
                            exact steps_nil
                          rintro b a W21 hall ⟨ha, Q_B0⟩
                          clear B0
                          have hb0_ := hall 0 (by kernel_rfl)
                          have hb1_ := hall 1 (by kernel_rfl)
                          have hb2_ := hall 2 (by kernel_rfl)
                          have hb3_ := hall 3 (by kernel_rfl)
                          have hb4_ := hall 4 (by kernel_rfl)
                          have hb5_ := hall 5 (by kernel_rfl)
                          have hb6_ := hall 6 (by kernel_rfl)
                          have hb7_ := hall 7 (by kernel_rfl)
                          have hb8_ := hall 8 (by kernel_rfl)
                          have hb9_ := hall 9 (by kernel_rfl)
                          have hb10_ := hall 10 (by kernel_rfl)
                          have hb11_ := hall 11 (by kernel_rfl)
                          have hb12_ := hall 12 (by kernel_rfl)
                          have hb13_ := hall 13 (by kernel_rfl)
                          have hb14_ := hall 14 (by kernel_rfl)
                          have hb15_ := hall 15 (by kernel_rfl)
                          have hb16_ := hall 16 (by kernel_rfl)
                          have hb17_ := hall 17 (by kernel_rfl)
                          have hb18_ := hall 18 (by kernel_rfl)
                          subst ha
                          simp only [putSel, hb0_, hb1_, hb2_, hb3_, hb4_, hb5_, hb6_, hb7_, hb8_, hb9_, hb10_, hb11_, hb12_, hb13_, hb14_, hb15_, hb16_, hb17_, hb18_, if_true, Act.put, List.setIfInBounds_toArray, List.set_cons_zero, List.set_cons_succ]
                          have B0 := Aside0.mk Q_B0
                          clear Q_B0
                          clear hall hb0_ hb1_ hb2_ hb3_ hb4_ hb5_ hb6_ hb7_ hb8_ hb9_ hb10_ hb11_ hb12_ hb13_ hb14_ hb15_ hb16_ hb17_ hb18_
                          go_wp2_with fail
                          go_meet
                          exact ⟨by rw [HGS.out, HE3.out, HE12.out, HE11.out]; rfl, B0⟩
                        | true =>
                          have HE11 := Aside0.mk h11
                          have hgo := HNX21.out (by have := HE3.out; simpa using this) (by have := HE12.out; simpa using this) (by have := HE11.out; simpa using this)
                          obtain ⟨nz, hnz⟩ : ∃ v, v = D1.nextOf (bn : Int) := ⟨_, rfl⟩
                          rw [← hnz] at hgo
                          have HNC21 := Aside0.mk HNC21.out
                          rw [← hnz] at HNC21
                          have HGT := Aside0.mk (decide_eq_true (show nz > (nn : Int) from hgo.2.1))
                          clear h11 hgo hnz
                          refine start_ (n := 19) (S := fun w' => True) (ds := []) #[false, false, false, false, false, false, false, false, false, false, false, false, false, false, false, false, false, false, false] (by kernel_rfl) rfl rfl trivial (fun hHeld => ?_)
                          refine with_tabW one21.tab21 one21.bits21 (fun HT_ HW_ => ?_)
                          generalize W20.drew = wq at B0 hHeld ⊢
                          refine inv_at [0, 1, 2, 3, 4, 5, 6, 7, 8, 9, 10, 11, 12, 13, 14, 15, 16, 17, 18] (fun a0_ b a w' => a = putSel a0_ b [(0, 132, .int .i64 r1), (1, 133, .bool true), (2, 134, .bool true), (3, 135, .int .i64 r1), (4, 136, .bool true), (5, 137, .bool true), (6, 138, .bool true), (7, 139, .int .i64 r1), (8, 140, .bool true), (9, 141, .bool true), (10, 142, .bool true), (11, 143, .pointer (some ⟨L.g, 0, none⟩)), (12, 144, .pointer (some ⟨g11, 0, none⟩)), (13, 145, .int .i64 (bn : Int)), (14, 146, .int .i64 nz), (15, 147, .pointer (some ⟨g11, 1, none⟩)), (16, 148, .int .i64 (nn : Int)), (17, 149, .bool true), (18, 150, .bool true)] ∧ (Below W20.heap.size W20 w')) HT_.out HW_.out (by kernel_rfl) (by kernel_rfl) ?_ ?_ ?_
                          · exact ⟨by simp only [putSel, Bool.false_eq_true, if_false], B0.out⟩
                          · skip
                            clear B0
                            refine steps_cons ?_ ?_
                            · rintro b a w' ⟨ha, Q_B0⟩ hb_ hon hoff
                              refine ⟨_, rfl, fun K hK => ?_⟩
                              have e13 : a.tmps[13]? = some (.int .i64 r1) := by rw [ha]; exact (putSel_off rfl).trans rfl
                              replace ha := Aside0.mk ha
                              have B0 := Aside0.mk Q_B0
                              refine value_ (w1 := w') (v := .int .i64 r1) (by rfl) rfl ?_ ?_
                              · go_simp
                                (try simp only [i64_w])
                                try rfl
                              refine hK.out _ _ ⟨(by rw [ha.out]; exact putSel_upk 0 hb_ rfl rfl rfl), Q_B0⟩
                            refine steps_cons ?_ ?_
                            · rintro b a w' ⟨ha, Q_B0⟩ hb_ hon hoff
                              refine ⟨_, rfl, fun K hK => ?_⟩
                              have e132 : a.tmps[132]? = some (.int .i64 r1) := by rw [ha]; exact putSel_on (e := (0, 132, .int .i64 r1)) 0 rfl rfl (hon 0 (by kernel_rfl)) rfl
                              replace ha := Aside0.mk ha
                              have B0 := Aside0.mk Q_B0
                              have q_ := HE3.out
                              refine value_ (w1 := w') (v := .bool true) (by rfl) rfl ?_ ?_
                              · go_simp
                                (try simp only [i64_w])
                                try rfl
                              refine hK.out _ _ ⟨(by rw [ha.out]; exact putSel_upk 1 hb_ rfl rfl rfl), Q_B0⟩
                            refine steps_cons ?_ ?_
                            · rintro b a w' ⟨ha, Q_B0⟩ hb_ hon hoff
                              refine ⟨_, rfl, fun K hK => ?_⟩
                              have e133 : a.tmps[133]? = some (.bool true) := by rw [ha]; exact putSel_on (e := (1, 133, .bool true)) 1 rfl rfl (hon 1 (by kernel_rfl)) rfl
                              replace ha := Aside0.mk ha
                              have B0 := Aside0.mk Q_B0
                              refine value_ (w1 := w') (v := .bool true) (by rfl) rfl ?_ ?_
                              · go_simp
                                (try simp only [i64_w])
                                try rfl
                              refine hK.out _ _ ⟨(by rw [ha.out]; exact putSel_upk 2 hb_ rfl rfl rfl), Q_B0⟩
                            refine steps_cons ?_ ?_
                            · rintro b a w' ⟨ha, Q_B0⟩ hb_ hon hoff
                              refine ⟨_, rfl, fun K hK => ?_⟩
                              have e13 : a.tmps[13]? = some (.int .i64 r1) := by rw [ha]; exact (putSel_off rfl).trans rfl
                              have e134 : a.tmps[134]? = some (.bool true) := by rw [ha]; exact putSel_on (e := (2, 134, .bool true)) 2 rfl rfl (hon 2 (by kernel_rfl)) rfl
                              replace ha := Aside0.mk ha
                              have B0 := Aside0.mk Q_B0
                              refine value_ (w1 := w') (v := .int .i64 r1) (wanted_on rfl rfl rfl (e134.trans (by first | rfl | (simp [*]; done)))) rfl ?_ ?_
                              · go_simp
                                (try simp only [i64_w])
                                try rfl
                              refine hK.out _ _ ⟨(by rw [ha.out]; exact putSel_upk 3 hb_ rfl rfl rfl), Q_B0⟩
                            refine steps_cons ?_ ?_
                            · rintro b a w' ⟨ha, Q_B0⟩ hb_ hon hoff
                              refine ⟨_, rfl, fun K hK => ?_⟩
                              have e135 : a.tmps[135]? = some (.int .i64 r1) := by rw [ha]; exact putSel_on (e := (3, 135, .int .i64 r1)) 3 rfl rfl (hon 3 (by kernel_rfl)) rfl
                              have e134 : a.tmps[134]? = some (.bool true) := by rw [ha]; exact putSel_on (e := (2, 134, .bool true)) 2 rfl rfl (hon 2 (by kernel_rfl)) rfl
                              replace ha := Aside0.mk ha
                              have B0 := Aside0.mk Q_B0
                              have q_ := HE12.out
                              refine value_ (w1 := w') (v := .bool true) (wanted_on rfl rfl rfl (e134.trans (by first | rfl | (simp [*]; done)))) rfl ?_ ?_
                              · go_simp
                                (try simp only [i64_w])
                                try rfl
                              refine hK.out _ _ ⟨(by rw [ha.out]; exact putSel_upk 4 hb_ rfl rfl rfl), Q_B0⟩
                            refine steps_cons ?_ ?_
                            · rintro b a w' ⟨ha, Q_B0⟩ hb_ hon hoff
                              refine ⟨_, rfl, fun K hK => ?_⟩
                              have e134 : a.tmps[134]? = some (.bool true) := by rw [ha]; exact putSel_on (e := (2, 134, .bool true)) 2 rfl rfl (hon 2 (by kernel_rfl)) rfl
                              have e136 : a.tmps[136]? = some (.bool true) := by rw [ha]; exact putSel_on (e := (4, 136, .bool true)) 4 rfl rfl (hon 4 (by kernel_rfl)) rfl
                              replace ha := Aside0.mk ha
                              have B0 := Aside0.mk Q_B0
                              refine value_ (w1 := w') (v := .bool true) (by rfl) rfl ?_ ?_
                              · go_simp
                                (try simp only [i64_w])
                                try rfl
                              refine hK.out _ _ ⟨(by rw [ha.out]; exact putSel_upk 5 hb_ rfl rfl rfl), Q_B0⟩
                            refine steps_cons ?_ ?_
                            · rintro b a w' ⟨ha, Q_B0⟩ hb_ hon hoff
                              refine ⟨_, rfl, fun K hK => ?_⟩
                              have e137 : a.tmps[137]? = some (.bool true) := by rw [ha]; exact putSel_on (e := (5, 137, .bool true)) 5 rfl rfl (hon 5 (by kernel_rfl)) rfl
                              replace ha := Aside0.mk ha
                              have B0 := Aside0.mk Q_B0
                              refine value_ (w1 := w') (v := .bool true) (by rfl) rfl ?_ ?_
                              · go_simp
                                (try simp only [i64_w])
                                try rfl
                              refine hK.out _ _ ⟨(by rw [ha.out]; exact putSel_upk 6 hb_ rfl rfl rfl), Q_B0⟩
                            refine steps_cons ?_ ?_
                            · rintro b a w' ⟨ha, Q_B0⟩ hb_ hon hoff
                              refine ⟨_, rfl, fun K hK => ?_⟩
                              have e13 : a.tmps[13]? = some (.int .i64 r1) := by rw [ha]; exact (putSel_off rfl).trans rfl
                              have e138 : a.tmps[138]? = some (.bool true) := by rw [ha]; exact putSel_on (e := (6, 138, .bool true)) 6 rfl rfl (hon 6 (by kernel_rfl)) rfl
                              replace ha := Aside0.mk ha
                              have B0 := Aside0.mk Q_B0
                              refine value_ (w1 := w') (v := .int .i64 r1) (wanted_on rfl rfl rfl (e138.trans (by first | rfl | (simp [*]; done)))) rfl ?_ ?_
                              · go_simp
                                (try simp only [i64_w])
                                try rfl
                              refine hK.out _ _ ⟨(by rw [ha.out]; exact putSel_upk 7 hb_ rfl rfl rfl), Q_B0⟩
                            refine steps_cons ?_ ?_
                            · rintro b a w' ⟨ha, Q_B0⟩ hb_ hon hoff
                              refine ⟨_, rfl, fun K hK => ?_⟩
                              have e139 : a.tmps[139]? = some (.int .i64 r1) := by rw [ha]; exact putSel_on (e := (7, 139, .int .i64 r1)) 7 rfl rfl (hon 7 (by kernel_rfl)) rfl
                              have e138 : a.tmps[138]? = some (.bool true) := by rw [ha]; exact putSel_on (e := (6, 138, .bool true)) 6 rfl rfl (hon 6 (by kernel_rfl)) rfl
                              replace ha := Aside0.mk ha
                              have B0 := Aside0.mk Q_B0
                              have q_ := HE11.out
                              refine value_ (w1 := w') (v := .bool true) (wanted_on rfl rfl rfl (e138.trans (by first | rfl | (simp [*]; done)))) rfl ?_ ?_
                              · go_simp
                                (try simp only [i64_w])
                                try rfl
                              refine hK.out _ _ ⟨(by rw [ha.out]; exact putSel_upk 8 hb_ rfl rfl rfl), Q_B0⟩
                            refine steps_cons ?_ ?_
                            · rintro b a w' ⟨ha, Q_B0⟩ hb_ hon hoff
                              refine ⟨_, rfl, fun K hK => ?_⟩
                              have e138 : a.tmps[138]? = some (.bool true) := by rw [ha]; exact putSel_on (e := (6, 138, .bool true)) 6 rfl rfl (hon 6 (by kernel_rfl)) rfl
                              have e140 : a.tmps[140]? = some (.bool true) := by rw [ha]; exact putSel_on (e := (8, 140, .bool true)) 8 rfl rfl (hon 8 (by kernel_rfl)) rfl
                              replace ha := Aside0.mk ha
                              have B0 := Aside0.mk Q_B0
                              refine value_ (w1 := w') (v := .bool true) (by rfl) rfl ?_ ?_
                              · go_simp
                                (try simp only [i64_w])
                                try rfl
                              refine hK.out _ _ ⟨(by rw [ha.out]; exact putSel_upk 9 hb_ rfl rfl rfl), Q_B0⟩
                            refine steps_cons ?_ ?_
                            · rintro b a w' ⟨ha, Q_B0⟩ hb_ hon hoff
                              refine ⟨_, rfl, fun K hK => ?_⟩
                              have e141 : a.tmps[141]? = some (.bool true) := by rw [ha]; exact putSel_on (e := (9, 141, .bool true)) 9 rfl rfl (hon 9 (by kernel_rfl)) rfl
                              replace ha := Aside0.mk ha
                              have B0 := Aside0.mk Q_B0
                              refine value_ (w1 := w') (v := .bool true) (by rfl) rfl ?_ ?_
                              · go_simp
                                (try simp only [i64_w])
                                try rfl
                              refine hK.out _ _ ⟨(by rw [ha.out]; exact putSel_upk 10 hb_ rfl rfl rfl), Q_B0⟩
                            refine steps_cons ?_ ?_
                            · rintro b a w' ⟨ha, Q_B0⟩ hb_ hon hoff
                              refine ⟨_, rfl, fun K hK => ?_⟩
                              have e5 : a.tmps[5]? = some (.pointer (some ⟨L.g, 0, none⟩)) := by rw [ha]; exact (putSel_off rfl).trans rfl
                              have e142 : a.tmps[142]? = some (.bool true) := by rw [ha]; exact putSel_on (e := (10, 142, .bool true)) 10 rfl rfl (hon 10 (by kernel_rfl)) rfl
                              replace ha := Aside0.mk ha
                              have B0 := Aside0.mk Q_B0
                              refine value_ (w1 := w') (v := .pointer (some ⟨L.g, 0, none⟩)) (wanted_on rfl rfl rfl (e142.trans (by first | rfl | (simp [*]; done)))) rfl ?_ ?_
                              · go_simp
                                (try simp only [i64_w])
                                try rfl
                              refine hK.out _ _ ⟨(by rw [ha.out]; exact putSel_upk 11 hb_ rfl rfl rfl), Q_B0⟩
                            refine steps_cons ?_ ?_
                            · rintro b a w' ⟨ha, Q_B0⟩ hb_ hon hoff
                              refine ⟨_, rfl, fun K hK => ?_⟩
                              have e11 : a.tmps[11]? = some (.pointer (some ⟨g11, 0, none⟩)) := by rw [ha]; exact (putSel_off rfl).trans rfl
                              have e142 : a.tmps[142]? = some (.bool true) := by rw [ha]; exact putSel_on (e := (10, 142, .bool true)) 10 rfl rfl (hon 10 (by kernel_rfl)) rfl
                              replace ha := Aside0.mk ha
                              have B0 := Aside0.mk Q_B0
                              refine value_ (w1 := w') (v := .pointer (some ⟨g11, 0, none⟩)) (wanted_on rfl rfl rfl (e142.trans (by first | rfl | (simp [*]; done)))) rfl ?_ ?_
                              · go_simp
                                (try simp only [i64_w])
                                try rfl
                              refine hK.out _ _ ⟨(by rw [ha.out]; exact putSel_upk 12 hb_ rfl rfl rfl), Q_B0⟩
                            refine steps_cons ?_ ?_
                            · rintro b a w' ⟨ha, Q_B0⟩ hb_ hon hoff
                              refine ⟨_, rfl, fun K hK => ?_⟩
                              have e144 : a.tmps[144]? = some (.pointer (some ⟨g11, 0, none⟩)) := by rw [ha]; exact putSel_on (e := (12, 144, .pointer (some ⟨g11, 0, none⟩))) 12 rfl rfl (hon 12 (by kernel_rfl)) rfl
                              have e142 : a.tmps[142]? = some (.bool true) := by rw [ha]; exact putSel_on (e := (10, 142, .bool true)) 10 rfl rfl (hon 10 (by kernel_rfl)) rfl
                              replace ha := Aside0.mk ha
                              have B0 := Aside0.mk Q_B0
                              have c0_ := blk_cell (blk_below Z20.out B0.out) 0
                              refine value_ (w1 := w') (v := .int .i64 (bn : Int)) (wanted_on rfl rfl rfl (e142.trans (by first | rfl | (simp [*]; done)))) rfl ?_ ?_
                              · go_simp
                                (try simp only [i64_w])
                                try rfl
                              refine hK.out _ _ ⟨(by rw [ha.out]; exact putSel_upk 13 hb_ rfl rfl rfl), Q_B0⟩
                            refine steps_cons ?_ ?_
                            · rintro b a w' ⟨ha, Q_B0⟩ hb_ hon hoff
                              refine ⟨_, rfl, fun K hK => ?_⟩
                              have e143 : a.tmps[143]? = some (.pointer (some ⟨L.g, 0, none⟩)) := by rw [ha]; exact putSel_on (e := (11, 143, .pointer (some ⟨L.g, 0, none⟩))) 11 rfl rfl (hon 11 (by kernel_rfl)) rfl
                              have e145 : a.tmps[145]? = some (.int .i64 (bn : Int)) := by rw [ha]; exact putSel_on (e := (13, 145, .int .i64 (bn : Int))) 13 rfl rfl (hon 13 (by kernel_rfl)) rfl
                              have e142 : a.tmps[142]? = some (.bool true) := by rw [ha]; exact putSel_on (e := (10, 142, .bool true)) 10 rfl rfl (hon 10 (by kernel_rfl)) rfl
                              replace ha := Aside0.mk ha
                              have B0 := Aside0.mk Q_B0
                              refine goes_ Try.func15 (by kernel_rfl) rfl #[.pointer (some ⟨L.g, 0, none⟩), .int .i64 (bn : Int)] (wanted_on rfl rfl rfl (e142.trans rfl)) rfl rfl (by first | (simp only [List.map_toArray, List.map_cons, List.map_nil, Act.eval, Array.getD_eq_getD_getElem?, Option.getD_some, e143, e145, e142]; done) | (simp only [List.map_toArray, List.map_cons, List.map_nil, Act.eval, Array.getD_eq_getD_getElem?, Option.getD_some, e143, e145, e142]; rfl)) ?_
                              with_reducible refine (HNC21.out _ B0.out).mono ?_
                              rintro e w2 ⟨rfl, hb⟩
                              refine ⟨_, rfl, ?_⟩
                              refine hK.out _ _ ⟨(by rw [ha.out]; exact putSel_upk 14 hb_ rfl rfl rfl), below_then B0.out B0.out.size hb⟩
                            refine steps_cons ?_ ?_
                            · rintro b a w' ⟨ha, Q_B0⟩ hb_ hon hoff
                              refine ⟨_, rfl, fun K hK => ?_⟩
                              have e11 : a.tmps[11]? = some (.pointer (some ⟨g11, 0, none⟩)) := by rw [ha]; exact (putSel_off rfl).trans rfl
                              have e142 : a.tmps[142]? = some (.bool true) := by rw [ha]; exact putSel_on (e := (10, 142, .bool true)) 10 rfl rfl (hon 10 (by kernel_rfl)) rfl
                              replace ha := Aside0.mk ha
                              have B0 := Aside0.mk Q_B0
                              refine value_ (w1 := w') (v := .pointer (some ⟨g11, 1, none⟩)) (wanted_on rfl rfl rfl (e142.trans (by first | rfl | (simp [*]; done)))) rfl ?_ ?_
                              · go_simp
                                (try simp only [i64_w])
                                try rfl
                              refine hK.out _ _ ⟨(by rw [ha.out]; exact putSel_upk 15 hb_ rfl rfl rfl), Q_B0⟩
                            refine steps_cons ?_ ?_
                            · rintro b a w' ⟨ha, Q_B0⟩ hb_ hon hoff
                              refine ⟨_, rfl, fun K hK => ?_⟩
                              have e147 : a.tmps[147]? = some (.pointer (some ⟨g11, 1, none⟩)) := by rw [ha]; exact putSel_on (e := (15, 147, .pointer (some ⟨g11, 1, none⟩))) 15 rfl rfl (hon 15 (by kernel_rfl)) rfl
                              have e142 : a.tmps[142]? = some (.bool true) := by rw [ha]; exact putSel_on (e := (10, 142, .bool true)) 10 rfl rfl (hon 10 (by kernel_rfl)) rfl
                              replace ha := Aside0.mk ha
                              have B0 := Aside0.mk Q_B0
                              have c0_ := blk_cell (blk_below Z20.out B0.out) 1
                              refine value_ (w1 := w') (v := .int .i64 (nn : Int)) (wanted_on rfl rfl rfl (e142.trans (by first | rfl | (simp [*]; done)))) rfl ?_ ?_
                              · go_simp
                                (try simp only [i64_w])
                                try rfl
                              refine hK.out _ _ ⟨(by rw [ha.out]; exact putSel_upk 16 hb_ rfl rfl rfl), Q_B0⟩
                            refine steps_cons ?_ ?_
                            · rintro b a w' ⟨ha, Q_B0⟩ hb_ hon hoff
                              refine ⟨_, rfl, fun K hK => ?_⟩
                              have e146 : a.tmps[146]? = some (.int .i64 nz) := by rw [ha]; exact putSel_on (e := (14, 146, .int .i64 nz)) 14 rfl rfl (hon 14 (by kernel_rfl)) rfl
                              have e148 : a.tmps[148]? = some (.int .i64 (nn : Int)) := by rw [ha]; exact putSel_on (e := (16, 148, .int .i64 (nn : Int))) 16 rfl rfl (hon 16 (by kernel_rfl)) rfl
                              have e142 : a.tmps[142]? = some (.bool true) := by rw [ha]; exact putSel_on (e := (10, 142, .bool true)) 10 rfl rfl (hon 10 (by kernel_rfl)) rfl
                              replace ha := Aside0.mk ha
                              have B0 := Aside0.mk Q_B0
                              have q_ := HGT.out
                              refine value_ (w1 := w') (v := .bool true) (wanted_on rfl rfl rfl (e142.trans (by first | rfl | (simp [*]; done)))) rfl ?_ ?_
                              · go_simp
                                (try simp only [i64_w])
                                try rfl
                              refine hK.out _ _ ⟨(by rw [ha.out]; exact putSel_upk 17 hb_ rfl rfl rfl), Q_B0⟩
                            refine steps_cons ?_ ?_
                            · rintro b a w' ⟨ha, Q_B0⟩ hb_ hon hoff
                              refine ⟨_, rfl, fun K hK => ?_⟩
                              have e142 : a.tmps[142]? = some (.bool true) := by rw [ha]; exact putSel_on (e := (10, 142, .bool true)) 10 rfl rfl (hon 10 (by kernel_rfl)) rfl
                              have e149 : a.tmps[149]? = some (.bool true) := by rw [ha]; exact putSel_on (e := (17, 149, .bool true)) 17 rfl rfl (hon 17 (by kernel_rfl)) rfl
                              replace ha := Aside0.mk ha
                              have B0 := Aside0.mk Q_B0
                              refine value_ (w1 := w') (v := .bool true) (by rfl) rfl ?_ ?_
                              · go_simp
                                (try simp only [i64_w])
                                try rfl
                              refine hK.out _ _ ⟨(by rw [ha.out]; exact putSel_upk 18 hb_ rfl rfl rfl), Q_B0⟩
                            exact steps_nil
                          rintro b a W21 hall ⟨ha, Q_B0⟩
                          clear B0
                          have hb0_ := hall 0 (by kernel_rfl)
                          have hb1_ := hall 1 (by kernel_rfl)
                          have hb2_ := hall 2 (by kernel_rfl)
                          have hb3_ := hall 3 (by kernel_rfl)
                          have hb4_ := hall 4 (by kernel_rfl)
                          have hb5_ := hall 5 (by kernel_rfl)
                          have hb6_ := hall 6 (by kernel_rfl)
                          have hb7_ := hall 7 (by kernel_rfl)
                          have hb8_ := hall 8 (by kernel_rfl)
                          have hb9_ := hall 9 (by kernel_rfl)
                          have hb10_ := hall 10 (by kernel_rfl)
                          have hb11_ := hall 11 (by kernel_rfl)
                          have hb12_ := hall 12 (by kernel_rfl)
                          have hb13_ := hall 13 (by kernel_rfl)
                          have hb14_ := hall 14 (by kernel_rfl)
                          have hb15_ := hall 15 (by kernel_rfl)
                          have hb16_ := hall 16 (by kernel_rfl)
                          have hb17_ := hall 17 (by kernel_rfl)
                          have hb18_ := hall 18 (by kernel_rfl)
                          subst ha
                          simp only [putSel, hb0_, hb1_, hb2_, hb3_, hb4_, hb5_, hb6_, hb7_, hb8_, hb9_, hb10_, hb11_, hb12_, hb13_, hb14_, hb15_, hb16_, hb17_, hb18_, if_true, Act.put, List.setIfInBounds_toArray, List.set_cons_zero, List.set_cons_succ]
                          have B0 := Aside0.mk Q_B0
                          clear Q_B0
                          clear hall hb0_ hb1_ hb2_ hb3_ hb4_ hb5_ hb6_ hb7_ hb8_ hb9_ hb10_ hb11_ hb12_ hb13_ hb14_ hb15_ hb16_ hb17_ hb18_
                          go_wp2_with fail
                          go_meet
                          exact ⟨by rw [HGS.out, HE3.out, HE12.out, HE11.out]; rfl, B0⟩
                  case rest =>
                  obtain ⟨rfl, HB21⟩ := hcut
                  obtain ⟨W21, hw21⟩ : ∃ w : World, w = wc := ⟨_, rfl⟩
                  subst hw21
                  have HS21 := Aside0.mk (HS20.out.below HB21.out)
                  have Z21 := Aside0.mk (blk_below Z20.out HB21.out)
                  have Z21' := Aside0.mk (blk_below Z20'.out HB21.out)
                  have GX21 := Aside0.mk (Kd.F_below GX20.out HB21.out)
                  clear HS20 Z20 Z20' GX20 HB21 HNC21
                  go_upto_if 150 with fail
                  cases gs with
                  | false =>
                    have hst : D1 = D := by
                      rw [HD1.out]
                      refine prog_stays ?_
                      have k := HGS.out.symm
                      rw [← HR1.out]
                      simp only [Bool.and_eq_false_iff, bne_eq_false_iff_eq] at k
                      rcases k with (k | k) | k
                      · exact .inl k
                      · exact .inr (.inl k)
                      · exact .inr (.inr k)
                    have HST := Aside0.mk hst
                    clear hst
                    go_wp2_with fail
                    go_meet
                    exact ⟨D1, ws, HS21, ⟨by rw [HST.out]; exact HIV.out⟩, Z21⟩
                  | true => as_aux_lemma =>
                    have hgo : D.here (bn : Int) (nn : Int) = true ∧ (nn : Int) < D1.nextOf (bn : Int) ∧ InvW D1 (ws.set (D.idx (bn : Int) (nn : Int)) (fullL x.f2)) := by
                      have k := HGS.out.symm
                      rw [Bool.and_eq_true, Bool.and_eq_true] at k
                      exact HNX21.out (bne_iff_ne.1 k.1.1) (bne_iff_ne.1 k.1.2) (bne_iff_ne.1 k.2)
                    obtain ⟨kx, hkx⟩ : ∃ k : Nat, k = lo + nn := ⟨_, rfl⟩
                    obtain ⟨hix, hkn⟩ := ow_idx HDO.out HS13.out.sb HS13.out.sp HN.out HLE.out hgo.1
                    rw [← hkx] at hix hkn
                    have HIV1 := Aside0.mk hgo.2.2
                    rw [hix] at HIV1
                    have HKX := Aside0.mk (And.intro (eq_true (Int.natCast_nonneg kx)) (eq_true (Int.ofNat_lt.2 hkn)))
                    have HWK : Aside0 (IntKind.i64.wrap ((lo : Int) + (nn : Int)) = (kx : Int)) := ⟨wrap_add_nat hkx (Nat.le_trans (Nat.le_of_lt hkn) (Nat.le_trans HLO.out.2 (by decide)))⟩
                    obtain ⟨sf, hsf⟩ : ∃ s, s = strOfNums (fullL x.f2) := ⟨_, rfl⟩
                    have HSF := Aside0.mk hsf
                    have HCV : Aside0 (∀ W A c, Kd.C (Kd.int .u8) W A 256 (fullL x.f2) → (convert 38 9 (.slice A 256 c)).run Try.prog W = .ok (.string sf) W) := ⟨fun W A c hC => by rw [hsf]; exact Kd.C_string Try.underlying38 Try.underlying5 Try.underlying9 hC⟩
                    have HFU := Aside0.mk (fun (w' : World) (h : Below W21.heap.size W21 w') => full_calls (A := A3) (c := c3) (s := x.f2) (Kd.F_now (Kd.F_below GX21.out h)) HX3.out.1 (by have := HLN.out; omega))
                    obtain ⟨so, hso⟩ : ∃ v, v = strOfNums (ws.getD kx []) := ⟨_, rfl⟩
                    have HTG : Aside0 ((texts ws)[kx]? = some (.string so)) := ⟨by rw [hso]; exact texts_get (by rw [HS21.out.wl]; exact hkn)⟩
                    go_upto_region 22 with fail
                    have B0 := Aside0.mk (below_drew1 (Below.refl W21.heap.size W21))
                    have FA := True.intro
                    have FIN := True.intro
                    clear hgo hkx hix hkn hsf hso
                    refine start_ (n := 16) (S := fun w' => True) (ds := []) #[false, false, false, false, false, false, false, false, false, false, false, false, false, false, false, false] (by kernel_rfl) rfl rfl trivial (fun hHeld => ?_)
                    refine with_tabW one22.tab22 one22.bits22 (fun HT_ HW_ => ?_)
                    generalize W21.drew = wq at B0 hHeld ⊢
                    refine inv_at [0, 1, 2, 3, 4, 5, 6, 7, 8, 9, 10, 11, 12, 13, 14, 15] (fun a0_ b a w' => ∃ (Ad : Option Addr) (cd : Nat) (m12_ : Value), a = putSel a0_ b [(0, 151, .slice (some ⟨g8, 0, none⟩) n n), (1, 152, .pointer (some ⟨g11, 0, none⟩)), (2, 153, .int .i64 (bn : Int)), (3, 154, .pointer (some ⟨g2, 0, none⟩)), (4, 155, .pointer (some ⟨g2, 1, none⟩)), (5, 156, .int .i64 (Pn : Int)), (6, 157, .int .i64 (lo : Int)), (7, 158, .pointer (some ⟨g11, 1, none⟩)), (8, 159, .int .i64 (nn : Int)), (9, 160, .int .i64 (kx : Int)), (10, 161, .pointer (some ⟨g10, 3, none⟩)), (11, 162, .slice A3 x.f2.length c3), (12, 163, m12_), (13, 164, .string sf), (14, 165, .pointer (some ⟨g8, kx, none⟩))] ∧ (b 15 = false → Below W21.heap.size W21 w') ∧ (b 12 = true → b 15 = false → 256 ≤ cd ∧ Kd.F (Kd.int .u8) w' (fun k => W21.heap.size ≤ k) Ad 256 (fullL x.f2)) ∧ (b 15 = true → ∃ wb : World, Below W21.heap.size W21 wb ∧ w' = wb.setCell ⟨g8, kx, none⟩ (.string sf)) ∧ (b 12 = true → (m12_ : Value) = .slice Ad 256 cd)) HT_.out HW_.out (by kernel_rfl) (by kernel_rfl) ?_ ?_ ?_
                    · exact ⟨none, 0, .bool false, by simp only [putSel, Bool.false_eq_true, if_false], fun _ => B0.out, fun h_ => absurd h_ (by decide), fun h_ => absurd h_ (by decide), fun h_ => absurd h_ (by decide)⟩
                    · skip
                      clear B0
                      refine steps_cons ?_ ?_
                      · rintro b a w' ⟨Ad, cd, m12_, ha, Q_B0, Q_FA, Q_FIN, Q_X12_⟩ hb_ hon hoff
                        refine ⟨_, rfl, fun K hK => ?_⟩
                        have e8 : a.tmps[8]? = some (.slice (some ⟨g8, 0, none⟩) n n) := by rw [ha]; exact (putSel_off rfl).trans rfl
                        replace ha := Aside0.mk ha
                        have B0 := Aside0.mk (Q_B0 (hoff 15 (by kernel_rfl)))
                        refine value_ (w1 := w') (v := .slice (some ⟨g8, 0, none⟩) n n) (by rfl) rfl ?_ ?_
                        · go_simp
                          (try simp only [i64_w])
                          try rfl
                        refine hK.out _ _ ⟨Ad, cd, m12_, (by rw [ha.out]; exact putSel_upk 0 hb_ rfl rfl rfl), Q_B0, Q_FA, fun h0_ => absurd ((hoff 15 (by kernel_rfl)).symm.trans h0_) (by decide), Q_X12_⟩
                      refine steps_cons ?_ ?_
                      · rintro b a w' ⟨Ad, cd, m12_, ha, Q_B0, Q_FA, Q_FIN, Q_X12_⟩ hb_ hon hoff
                        refine ⟨_, rfl, fun K hK => ?_⟩
                        have e11 : a.tmps[11]? = some (.pointer (some ⟨g11, 0, none⟩)) := by rw [ha]; exact (putSel_off rfl).trans rfl
                        replace ha := Aside0.mk ha
                        have B0 := Aside0.mk (Q_B0 (hoff 15 (by kernel_rfl)))
                        refine value_ (w1 := w') (v := .pointer (some ⟨g11, 0, none⟩)) (by rfl) rfl ?_ ?_
                        · go_simp
                          (try simp only [i64_w])
                          try rfl
                        refine hK.out _ _ ⟨Ad, cd, m12_, (by rw [ha.out]; exact putSel_upk 1 hb_ rfl rfl rfl), Q_B0, Q_FA, fun h0_ => absurd ((hoff 15 (by kernel_rfl)).symm.trans h0_) (by decide), Q_X12_⟩
                      refine steps_cons ?_ ?_
                      · rintro b a w' ⟨Ad, cd, m12_, ha, Q_B0, Q_FA, Q_FIN, Q_X12_⟩ hb_ hon hoff
                        refine ⟨_, rfl, fun K hK => ?_⟩
                        have e152 : a.tmps[152]? = some (.pointer (some ⟨g11, 0, none⟩)) := by rw [ha]; exact putSel_on (e := (1, 152, .pointer (some ⟨g11, 0, none⟩))) 1 rfl rfl (hon 1 (by kernel_rfl)) rfl
                        replace ha := Aside0.mk ha
                        have B0 := Aside0.mk (Q_B0 (hoff 15 (by kernel_rfl)))
                        have c0_ := blk_cell (blk_below Z21.out B0.out) 0
                        refine value_ (w1 := w') (v := .int .i64 (bn : Int)) (by rfl) rfl ?_ ?_
                        · go_simp
                          (try simp only [i64_w])
                          try rfl
                        refine hK.out _ _ ⟨Ad, cd, m12_, (by rw [ha.out]; exact putSel_upk 2 hb_ rfl rfl rfl), Q_B0, Q_FA, fun h0_ => absurd ((hoff 15 (by kernel_rfl)).symm.trans h0_) (by decide), Q_X12_⟩
                      refine steps_cons ?_ ?_
                      · rintro b a w' ⟨Ad, cd, m12_, ha, Q_B0, Q_FA, Q_FIN, Q_X12_⟩ hb_ hon hoff
                        refine ⟨_, rfl, fun K hK => ?_⟩
                        have e2 : a.tmps[2]? = some (.pointer (some ⟨g2, 0, none⟩)) := by rw [ha]; exact (putSel_off rfl).trans rfl
                        replace ha := Aside0.mk ha
                        have B0 := Aside0.mk (Q_B0 (hoff 15 (by kernel_rfl)))
                        refine value_ (w1 := w') (v := .pointer (some ⟨g2, 0, none⟩)) (by rfl) rfl ?_ ?_
                        · go_simp
                          (try simp only [i64_w])
                          try rfl
                        refine hK.out _ _ ⟨Ad, cd, m12_, (by rw [ha.out]; exact putSel_upk 3 hb_ rfl rfl rfl), Q_B0, Q_FA, fun h0_ => absurd ((hoff 15 (by kernel_rfl)).symm.trans h0_) (by decide), Q_X12_⟩
                      refine steps_cons ?_ ?_
                      · rintro b a w' ⟨Ad, cd, m12_, ha, Q_B0, Q_FA, Q_FIN, Q_X12_⟩ hb_ hon hoff
                        refine ⟨_, rfl, fun K hK => ?_⟩
                        have e154 : a.tmps[154]? = some (.pointer (some ⟨g2, 0, none⟩)) := by rw [ha]; exact putSel_on (e := (3, 154, .pointer (some ⟨g2, 0, none⟩))) 3 rfl rfl (hon 3 (by kernel_rfl)) rfl
                        replace ha := Aside0.mk ha
                        have B0 := Aside0.mk (Q_B0 (hoff 15 (by kernel_rfl)))
                        refine value_ (w1 := w') (v := .pointer (some ⟨g2, 1, none⟩)) (by rfl) rfl ?_ ?_
                        · go_simp
                          (try simp only [i64_w])
                          try rfl
                        refine hK.out _ _ ⟨Ad, cd, m12_, (by rw [ha.out]; exact putSel_upk 4 hb_ rfl rfl rfl), Q_B0, Q_FA, fun h0_ => absurd ((hoff 15 (by kernel_rfl)).symm.trans h0_) (by decide), Q_X12_⟩
                      refine steps_cons ?_ ?_
                      · rintro b a w' ⟨Ad, cd, m12_, ha, Q_B0, Q_FA, Q_FIN, Q_X12_⟩ hb_ hon hoff
                        refine ⟨_, rfl, fun K hK => ?_⟩
                        have e155 : a.tmps[155]? = some (.pointer (some ⟨g2, 1, none⟩)) := by rw [ha]; exact putSel_on (e := (4, 155, .pointer (some ⟨g2, 1, none⟩))) 4 rfl rfl (hon 4 (by kernel_rfl)) rfl
                        replace ha := Aside0.mk ha
                        have B0 := Aside0.mk (Q_B0 (hoff 15 (by kernel_rfl)))
                        have c0_ := blk_cell ((HS21.out.below B0.out).plan) 1
                        refine value_ (w1 := w') (v := .int .i64 (Pn : Int)) (by rfl) rfl ?_ ?_
                        · go_simp
                          (try simp only [i64_w])
                          try rfl
                        refine hK.out _ _ ⟨Ad, cd, m12_, (by rw [ha.out]; exact putSel_upk 5 hb_ rfl rfl rfl), Q_B0, Q_FA, fun h0_ => absurd ((hoff 15 (by kernel_rfl)).symm.trans h0_) (by decide), Q_X12_⟩
                      refine steps_cons ?_ ?_
                      · rintro b a w' ⟨Ad, cd, m12_, ha, Q_B0, Q_FA, Q_FIN, Q_X12_⟩ hb_ hon hoff
                        refine ⟨_, rfl, fun K hK => ?_⟩
                        have e153 : a.tmps[153]? = some (.int .i64 (bn : Int)) := by rw [ha]; exact putSel_on (e := (2, 153, .int .i64 (bn : Int))) 2 rfl rfl (hon 2 (by kernel_rfl)) rfl
                        have e156 : a.tmps[156]? = some (.int .i64 (Pn : Int)) := by rw [ha]; exact putSel_on (e := (5, 156, .int .i64 (Pn : Int))) 5 rfl rfl (hon 5 (by kernel_rfl)) rfl
                        replace ha := Aside0.mk ha
                        have B0 := Aside0.mk (Q_B0 (hoff 15 (by kernel_rfl)))
                        have q_ := HWL.out
                        refine value_ (w1 := w') (v := .int .i64 (lo : Int)) (by rfl) rfl ?_ ?_
                        · go_simp
                          (try simp only [i64_w])
                          try rfl
                        refine hK.out _ _ ⟨Ad, cd, m12_, (by rw [ha.out]; exact putSel_upk 6 hb_ rfl rfl rfl), Q_B0, Q_FA, fun h0_ => absurd ((hoff 15 (by kernel_rfl)).symm.trans h0_) (by decide), Q_X12_⟩
                      refine steps_cons ?_ ?_
                      · rintro b a w' ⟨Ad, cd, m12_, ha, Q_B0, Q_FA, Q_FIN, Q_X12_⟩ hb_ hon hoff
                        refine ⟨_, rfl, fun K hK => ?_⟩
                        have e11 : a.tmps[11]? = some (.pointer (some ⟨g11, 0, none⟩)) := by rw [ha]; exact (putSel_off rfl).trans rfl
                        replace ha := Aside0.mk ha
                        have B0 := Aside0.mk (Q_B0 (hoff 15 (by kernel_rfl)))
                        refine value_ (w1 := w') (v := .pointer (some ⟨g11, 1, none⟩)) (by rfl) rfl ?_ ?_
                        · go_simp
                          (try simp only [i64_w])
                          try rfl
                        refine hK.out _ _ ⟨Ad, cd, m12_, (by rw [ha.out]; exact putSel_upk 7 hb_ rfl rfl rfl), Q_B0, Q_FA, fun h0_ => absurd ((hoff 15 (by kernel_rfl)).symm.trans h0_) (by decide), Q_X12_⟩
                      refine steps_cons ?_ ?_
                      · rintro b a w' ⟨Ad, cd, m12_, ha, Q_B0, Q_FA, Q_FIN, Q_X12_⟩ hb_ hon hoff
                        refine ⟨_, rfl, fun K hK => ?_⟩
                        have e158 : a.tmps[158]? = some (.pointer (some ⟨g11, 1, none⟩)) := by rw [ha]; exact putSel_on (e := (7, 158, .pointer (some ⟨g11, 1, none⟩))) 7 rfl rfl (hon 7 (by kernel_rfl)) rfl
                        replace ha := Aside0.mk ha
                        have B0 := Aside0.mk (Q_B0 (hoff 15 (by kernel_rfl)))
                        have c0_ := blk_cell (blk_below Z21.out B0.out) 1
                        refine value_ (w1 := w') (v := .int .i64 (nn : Int)) (by rfl) rfl ?_ ?_
                        · go_simp
                          (try simp only [i64_w])
                          try rfl
                        refine hK.out _ _ ⟨Ad, cd, m12_, (by rw [ha.out]; exact putSel_upk 8 hb_ rfl rfl rfl), Q_B0, Q_FA, fun h0_ => absurd ((hoff 15 (by kernel_rfl)).symm.trans h0_) (by decide), Q_X12_⟩
                      refine steps_cons ?_ ?_
                      · rintro b a w' ⟨Ad, cd, m12_, ha, Q_B0, Q_FA, Q_FIN, Q_X12_⟩ hb_ hon hoff
                        refine ⟨_, rfl, fun K hK => ?_⟩
                        have e157 : a.tmps[157]? = some (.int .i64 (lo : Int)) := by rw [ha]; exact putSel_on (e := (6, 157, .int .i64 (lo : Int))) 6 rfl rfl (hon 6 (by kernel_rfl)) rfl
                        have e159 : a.tmps[159]? = some (.int .i64 (nn : Int)) := by rw [ha]; exact putSel_on (e := (8, 159, .int .i64 (nn : Int))) 8 rfl rfl (hon 8 (by kernel_rfl)) rfl
                        replace ha := Aside0.mk ha
                        have B0 := Aside0.mk (Q_B0 (hoff 15 (by kernel_rfl)))
                        have q_ := HWK.out
                        refine value_ (w1 := w') (v := .int .i64 (kx : Int)) (by rfl) rfl ?_ ?_
                        · go_simp
                          (try simp only [i64_w])
                          try rfl
                        refine hK.out _ _ ⟨Ad, cd, m12_, (by rw [ha.out]; exact putSel_upk 9 hb_ rfl rfl rfl), Q_B0, Q_FA, fun h0_ => absurd ((hoff 15 (by kernel_rfl)).symm.trans h0_) (by decide), Q_X12_⟩
                      refine steps_cons ?_ ?_
                      · rintro b a w' ⟨Ad, cd, m12_, ha, Q_B0, Q_FA, Q_FIN, Q_X12_⟩ hb_ hon hoff
                        refine ⟨_, rfl, fun K hK => ?_⟩
                        have e10 : a.tmps[10]? = some (.pointer (some ⟨g10, 0, none⟩)) := by rw [ha]; exact (putSel_off rfl).trans rfl
                        replace ha := Aside0.mk ha
                        have B0 := Aside0.mk (Q_B0 (hoff 15 (by kernel_rfl)))
                        refine value_ (w1 := w') (v := .pointer (some ⟨g10, 3, none⟩)) (by rfl) rfl ?_ ?_
                        · go_simp
                          (try simp only [i64_w])
                          try rfl
                        refine hK.out _ _ ⟨Ad, cd, m12_, (by rw [ha.out]; exact putSel_upk 10 hb_ rfl rfl rfl), Q_B0, fun h0_ _ => absurd ((hoff 12 (by kernel_rfl)).symm.trans h0_) (by decide), fun h0_ => absurd ((hoff 15 (by kernel_rfl)).symm.trans h0_) (by decide), fun h0_ => absurd ((hoff 12 (by kernel_rfl)).symm.trans h0_) (by decide)⟩
                      refine steps_cons ?_ ?_
                      · rintro b a w' ⟨Ad, cd, m12_, ha, Q_B0, Q_FA, Q_FIN, Q_X12_⟩ hb_ hon hoff
                        refine ⟨_, rfl, fun K hK => ?_⟩
                        have e161 : a.tmps[161]? = some (.pointer (some ⟨g10, 3, none⟩)) := by rw [ha]; exact putSel_on (e := (10, 161, .pointer (some ⟨g10, 3, none⟩))) 10 rfl rfl (hon 10 (by kernel_rfl)) rfl
                        replace ha := Aside0.mk ha
                        have B0 := Aside0.mk (Q_B0 (hoff 15 (by kernel_rfl)))
                        have c0_ := blk_cell (blk_below Z21'.out B0.out) 3
                        refine value_ (w1 := w') (v := .slice A3 x.f2.length c3) (by rfl) rfl ?_ ?_
                        · go_simp
                          (try simp only [i64_w])
                          try rfl
                        refine hK.out _ _ ⟨Ad, cd, m12_, (by rw [ha.out]; exact putSel_upk 11 hb_ rfl rfl rfl), Q_B0, fun h0_ _ => absurd ((hoff 12 (by kernel_rfl)).symm.trans h0_) (by decide), fun h0_ => absurd ((hoff 15 (by kernel_rfl)).symm.trans h0_) (by decide), fun h0_ => absurd ((hoff 12 (by kernel_rfl)).symm.trans h0_) (by decide)⟩
                      refine steps_cons ?_ ?_
                      · rintro b a w' ⟨Ad, cd, m12_, ha, Q_B0, Q_FA, Q_FIN, Q_X12_⟩ hb_ hon hoff
                        refine ⟨_, rfl, fun K hK => ?_⟩
                        have e162 : a.tmps[162]? = some (.slice A3 x.f2.length c3) := by rw [ha]; exact putSel_on (e := (11, 162, .slice A3 x.f2.length c3)) 11 rfl rfl (hon 11 (by kernel_rfl)) rfl
                        replace ha := Aside0.mk ha
                        have B0 := Aside0.mk (Q_B0 (hoff 15 (by kernel_rfl)))
                        refine goes_ Try.func18 (by kernel_rfl) rfl #[.slice A3 x.f2.length c3] (by rfl) rfl rfl (by first | (simp only [List.map_toArray, List.map_cons, List.map_nil, Act.eval, Array.getD_eq_getD_getElem?, Option.getD_some, e162]; done) | (simp only [List.map_toArray, List.map_cons, List.map_nil, Act.eval, Array.getD_eq_getD_getElem?, Option.getD_some, e162]; rfl)) ?_
                        with_reducible refine (HFU.out _ B0.out).mono ?_
                        rintro e w2 ⟨A_, c_, rfl, hc_, hF_, hb⟩
                        refine ⟨_, rfl, ?_⟩
                        refine hK.out _ _ ⟨A_, c_, (.slice A_ 256 c_), (by rw [ha.out]; exact putSel_upk 12 hb_ rfl rfl rfl), fun _ => below_then B0.out B0.out.size hb, fun _ _ => ⟨hc_, Kd.F_mono hF_ (fun k hk => Nat.le_trans B0.out.size hk)⟩, fun h0_ => absurd ((hoff 15 (by kernel_rfl)).symm.trans h0_) (by decide), fun _ => rfl⟩
                      refine steps_cons ?_ ?_
                      · rintro b a w' ⟨Ad, cd, m12_, ha, Q_B0, Q_FA, Q_FIN, Q_X12_⟩ hb_ hon hoff
                        refine ⟨_, rfl, fun K hK => ?_⟩
                        have e163 : a.tmps[163]? = some (m12_) := by rw [ha]; exact putSel_on (e := (12, 163, m12_)) 12 rfl rfl (hon 12 (by kernel_rfl)) rfl
                        rw [Q_X12_ (hon 12 (by kernel_rfl))] at e163
                        replace ha := Aside0.mk ha
                        have B0 := Aside0.mk (Q_B0 (hoff 15 (by kernel_rfl)))
                        have FA := Aside0.mk (Q_FA (hon 12 (by kernel_rfl)) (hoff 15 (by kernel_rfl)))
                        have q_ := HCV.out w' Ad cd (Kd.F_now FA.out.2)
                        refine value_ (w1 := w') (v := .string sf) (by rfl) rfl ?_ ?_
                        · go_simp
                          (try simp only [i64_w])
                          try rfl
                        refine hK.out _ _ ⟨Ad, cd, m12_, (by rw [ha.out]; exact putSel_upk 13 hb_ rfl rfl rfl), Q_B0, Q_FA, fun h0_ => absurd ((hoff 15 (by kernel_rfl)).symm.trans h0_) (by decide), Q_X12_⟩
                      refine steps_cons ?_ ?_
                      · rintro b a w' ⟨Ad, cd, m12_, ha, Q_B0, Q_FA, Q_FIN, Q_X12_⟩ hb_ hon hoff
                        refine ⟨_, rfl, fun K hK => ?_⟩
                        have e151 : a.tmps[151]? = some (.slice (some ⟨g8, 0, none⟩) n n) := by rw [ha]; exact putSel_on (e := (0, 151, .slice (some ⟨g8, 0, none⟩) n n)) 0 rfl rfl (hon 0 (by kernel_rfl)) rfl
                        have e160 : a.tmps[160]? = some (.int .i64 (kx : Int)) := by rw [ha]; exact putSel_on (e := (9, 160, .int .i64 (kx : Int))) 9 rfl rfl (hon 9 (by kernel_rfl)) rfl
                        replace ha := Aside0.mk ha
                        have B0 := Aside0.mk (Q_B0 (hoff 15 (by kernel_rfl)))
                        have FA := Aside0.mk (Q_FA (hon 12 (by kernel_rfl)) (hoff 15 (by kernel_rfl)))
                        have p_ := HKX.out.1
                        have q_ := HKX.out.2
                        refine value_ (w1 := w') (v := .pointer (some ⟨g8, kx, none⟩)) (by rfl) rfl ?_ ?_
                        · go_simp
                          (try simp only [i64_w])
                          try rfl
                        refine hK.out _ _ ⟨Ad, cd, m12_, (by rw [ha.out]; exact putSel_upk 14 hb_ rfl rfl rfl), Q_B0, Q_FA, fun h0_ => absurd ((hoff 15 (by kernel_rfl)).symm.trans h0_) (by decide), Q_X12_⟩
                      refine steps_cons ?_ ?_
                      · rintro b a w' ⟨Ad, cd, m12_, ha, Q_B0, Q_FA, Q_FIN, Q_X12_⟩ hb_ hon hoff
                        refine ⟨_, rfl, fun K hK => ?_⟩
                        have e165 : a.tmps[165]? = some (.pointer (some ⟨g8, kx, none⟩)) := by rw [ha]; exact putSel_on (e := (14, 165, .pointer (some ⟨g8, kx, none⟩))) 14 rfl rfl (hon 14 (by kernel_rfl)) rfl
                        have e164 : a.tmps[164]? = some (.string sf) := by rw [ha]; exact putSel_on (e := (13, 164, .string sf)) 13 rfl rfl (hon 13 (by kernel_rfl)) rfl
                        replace ha := Aside0.mk ha
                        have B0 := Aside0.mk (Q_B0 hb_)
                        have FA := Aside0.mk (Q_FA (hon 12 (by kernel_rfl)) hb_)
                        have c_ := (HS21.out.want.below B0.out).cell HTG.out
                        have fr_ := (HS21.out.want.below B0.out).frozen kx
                        refine skip_ (w1 := ?_) (by rfl) rfl ?_ ?_
                        rotate_left
                        · go_simp
                          rfl
                        refine hK.out _ _ ⟨Ad, cd, m12_, (by rw [ha.out]; exact putSel_none (v := undef) rfl), fun h0_ => absurd ((up_self b 15).symm.trans h0_) (by decide), fun _ h1_ => absurd ((up_self b 15).symm.trans h1_) (by decide), fun _ => ⟨_, B0.out, rfl⟩, Q_X12_⟩
                      exact steps_nil
                    rintro b a W22 hall ⟨Ad, cd, m12_, ha, Q_B0, Q_FA, Q_FIN, Q_X12_⟩
                    clear B0
                    have hb0_ := hall 0 (by kernel_rfl)
                    have hb1_ := hall 1 (by kernel_rfl)
                    have hb2_ := hall 2 (by kernel_rfl)
                    have hb3_ := hall 3 (by kernel_rfl)
                    have hb4_ := hall 4 (by kernel_rfl)
                    have hb5_ := hall 5 (by kernel_rfl)
                    have hb6_ := hall 6 (by kernel_rfl)
                    have hb7_ := hall 7 (by kernel_rfl)
                    have hb8_ := hall 8 (by kernel_rfl)
                    have hb9_ := hall 9 (by kernel_rfl)
                    have hb10_ := hall 10 (by kernel_rfl)
                    have hb11_ := hall 11 (by kernel_rfl)
                    have hb12_ := hall 12 (by kernel_rfl)
                    have hb13_ := hall 13 (by kernel_rfl)
                    have hb14_ := hall 14 (by kernel_rfl)
                    have hb15_ := hall 15 (by kernel_rfl)
                    subst ha
                    obtain rfl := Q_X12_ hb12_
                    simp only [putSel, hb0_, hb1_, hb2_, hb3_, hb4_, hb5_, hb6_, hb7_, hb8_, hb9_, hb10_, hb11_, hb12_, hb13_, hb14_, hb15_, if_true, Act.put, List.setIfInBounds_toArray, List.set_cons_zero, List.set_cons_succ]
                    clear Q_B0
                    clear Q_FA
                    have FIN := Aside0.mk (Q_FIN hb15_)
                    clear Q_FIN
                    clear hall hb0_ hb1_ hb2_ hb3_ hb4_ hb5_ hb6_ hb7_ hb8_ hb9_ hb10_ hb11_ hb12_ hb13_ hb14_ hb15_
                    obtain ⟨wb, hwb, hwe⟩ := FIN.out
                    have hsb := (HS21.out.below hwb).set HG8.out.1 HG8.out.2.1 kx (fullL x.f2)
                    have hzb := blk_far (blk_below Z21.out hwb) (p := ⟨g8, kx, none⟩) (Ne.symm HNS11.out.2) (.string sf)
                    rw [← HSF.out, ← hwe] at hsb
                    rw [← hwe] at hzb
                    have HSB := Aside0.mk hsb
                    have HZB := Aside0.mk hzb
                    clear hwb hwe hsb hzb FIN
                    go_wp2_with fail
                    go_meet
                    exact ⟨D1, _, HSB, HIV1, HZB⟩
              case rest => as_aux_lemma =>
              obtain ⟨D1, ws1, HS1, HIV1, Z1⟩ := hcut
              obtain ⟨W1, hw1⟩ : ∃ w : World, w = wc := ⟨_, rfl⟩
              subst hw1
              clear y0
              go_upto_region 24 with (go_at_call 19; refine (own_power (show OwnD W2 W1 L g8 D1 from ⟨HS1.out.dev, HS1.out.own⟩)).mono ?_; rintro e w23 ⟨rfl, hO, hT⟩; have HS23 := Aside0.mk (HS1.out.turn hO hT HNS.out.1 HNS.out.2 rfl rfl); have Z23 := Aside0.mk (blk_turn Z1.out hT HNS11.out.1); clear hO hT)
              obtain ⟨okp, hDV⟩ := HS23.out.dev.1
              have HDO2 := Aside0.mk hDV.ok
              clear hDV
              obtain ⟨q, k, hk, hq, hkn, hdiv, hmod, hlow⟩ := ow_read (nn := nn) HGP.out.2 HGP.out.1.2 HBN.out HN.out HLE.out HNP.out
              have HRV := Aside0.mk (ow_readv HDO2.out HS23.out.sb HS23.out.sp HN.out HLE.out HBN.out hq hk rfl)
              have HLW : Aside0 (∀ w, Calls Try.prog 20 #[.int .i64 (nn : Int), .int .i64 ((Pn : Int) - 1)] w fun e w' => e = .returned (.int .i64 (q : Int)) ∧ Below w.heap.size w w') := ⟨fun w => (wagtailref01_Low.calls _ _ _ w (by unfold wagtailref01_Low.f; rw [← hlow]; split <;> rfl)).mono fun e w' h => ⟨h.1, h.2.below⟩⟩
              have HKK := Aside0.mk (And.intro hk (And.intro hq hkn))
              have HWP : Aside0 (IntKind.i64.wrap ((Pn : Int) - 1) = (Pn : Int) - 1) := ⟨(wrap_id (by omega) (by have := HGP.out; omega)).1⟩
              have HWK : Aside0 (IntKind.i64.wrap ((lo : Int) + (q : Int)) = (k : Int)) := ⟨wrap_add_nat hk (by have := HLO.out; omega)⟩
              have HDM : Aside0 ((Int.tdiv (k : Int) (Pn : Int) = (bn : Int) ∧ Int.tmod (k : Int) (Pn : Int) = (q : Int)) ∧ (IntKind.i64.wrap (bn : Int) = (bn : Int) ∧ IntKind.i64.wrap (q : Int) = (q : Int)) ∧ ((Pn : Int) == 0) = false ∧ ¬ Pn = 0) := ⟨⟨⟨hdiv, hmod⟩, ⟨wrap_nat (by have := HBN.out; have := HGP.out; omega), wrap_nat (by have := HGP.out; omega)⟩, by have := HGP.out; simp; omega, by have := HGP.out; omega⟩⟩
              have B0 := Aside0.mk (below_drew1 (Below.refl w23.heap.size w23))
              clear hk hq hkn hdiv hmod hlow HS1 Z1 HIV HS13 Z10'
              refine start_ (n := 15) (S := fun w' => True) (ds := []) #[false, false, false, false, false, false, false, false, false, false, false, false, false, false, false] (by kernel_rfl) rfl rfl trivial (fun hHeld => ?_)
              refine with_tabW one24.tab24 one24.bits24 (fun HT_ HW_ => ?_)
              generalize w23.drew = wq at B0 hHeld ⊢
              refine inv_at [0, 1, 2, 3, 4, 5, 6, 7, 8, 9, 10, 11, 12, 13, 14] (fun a0_ b a w' => a = putSel a0_ b [(0, 168, .pointer (some ⟨g11, 0, none⟩)), (1, 169, .int .i64 (bn : Int)), (2, 170, .pointer (some ⟨g2, 0, none⟩)), (3, 171, .pointer (some ⟨g2, 1, none⟩)), (4, 172, .int .i64 (Pn : Int)), (5, 173, .int .i64 (lo : Int)), (6, 174, .pointer (some ⟨g11, 1, none⟩)), (7, 175, .int .i64 (nn : Int)), (8, 176, .pointer (some ⟨g2, 0, none⟩)), (9, 177, .pointer (some ⟨g2, 1, none⟩)), (10, 178, .int .i64 (Pn : Int)), (11, 179, .int .i64 ((Pn : Int) - 1)), (12, 180, .int .i64 (q : Int)), (13, 181, .int .i64 (k : Int)), (14, 14, .int .i64 (k : Int))] ∧ (Below w23.heap.size w23 w')) HT_.out HW_.out (by kernel_rfl) (by kernel_rfl) ?_ ?_ ?_
              · exact ⟨by simp only [putSel, Bool.false_eq_true, if_false], B0.out⟩
              · skip
                clear B0
                refine steps_cons ?_ ?_
                · rintro b a w' ⟨ha, Q_B0⟩ hb_ hon hoff
                  refine ⟨_, rfl, fun K hK => ?_⟩
                  have e11 : a.tmps[11]? = some (.pointer (some ⟨g11, 0, none⟩)) := by rw [ha]; exact (putSel_off rfl).trans rfl
                  replace ha := Aside0.mk ha
                  have B0 := Aside0.mk Q_B0
                  refine value_ (w1 := w') (v := .pointer (some ⟨g11, 0, none⟩)) (by rfl) rfl ?_ ?_
                  · go_simp
                    (try simp only [i64_w])
                    try rfl
                  refine hK.out _ _ ⟨(by rw [ha.out]; exact putSel_upk 0 hb_ rfl rfl rfl), Q_B0⟩
                refine steps_cons ?_ ?_
                · rintro b a w' ⟨ha, Q_B0⟩ hb_ hon hoff
                  refine ⟨_, rfl, fun K hK => ?_⟩
                  have e168 : a.tmps[168]? = some (.pointer (some ⟨g11, 0, none⟩)) := by rw [ha]; exact putSel_on (e := (0, 168, .pointer (some ⟨g11, 0, none⟩))) 0 rfl rfl (hon 0 (by kernel_rfl)) rfl
                  replace ha := Aside0.mk ha
                  have B0 := Aside0.mk Q_B0
                  have c0_ := blk_cell (blk_below Z23.out B0.out) 0
                  refine value_ (w1 := w') (v := .int .i64 (bn : Int)) (by rfl) rfl ?_ ?_
                  · go_simp
                    (try simp only [i64_w])
                    try rfl
                  refine hK.out _ _ ⟨(by rw [ha.out]; exact putSel_upk 1 hb_ rfl rfl rfl), Q_B0⟩
                refine steps_cons ?_ ?_
                · rintro b a w' ⟨ha, Q_B0⟩ hb_ hon hoff
                  refine ⟨_, rfl, fun K hK => ?_⟩
                  have e2 : a.tmps[2]? = some (.pointer (some ⟨g2, 0, none⟩)) := by rw [ha]; exact (putSel_off rfl).trans rfl
                  replace ha := Aside0.mk ha
                  have B0 := Aside0.mk Q_B0
                  refine value_ (w1 := w') (v := .pointer (some ⟨g2, 0, none⟩)) (by rfl) rfl ?_ ?_
                  · go_simp
                    (try simp only [i64_w])
                    try rfl
                  refine hK.out _ _ ⟨(by rw [ha.out]; exact putSel_upk 2 hb_ rfl rfl rfl), Q_B0⟩
                refine steps_cons ?_ ?_
                · rintro b a w' ⟨ha, Q_B0⟩ hb_ hon hoff
                  refine ⟨_, rfl, fun K hK => ?_⟩
                  have e170 : a.tmps[170]? = some (.pointer (some ⟨g2, 0, none⟩)) := by rw [ha]; exact putSel_on (e := (2, 170, .pointer (some ⟨g2, 0, none⟩))) 2 rfl rfl (hon 2 (by kernel_rfl)) rfl
                  replace ha := Aside0.mk ha
                  have B0 := Aside0.mk Q_B0
                  refine value_ (w1 := w') (v := .pointer (some ⟨g2, 1, none⟩)) (by rfl) rfl ?_ ?_
                  · go_simp
                    (try simp only [i64_w])
                    try rfl
                  refine hK.out _ _ ⟨(by rw [ha.out]; exact putSel_upk 3 hb_ rfl rfl rfl), Q_B0⟩
                refine steps_cons ?_ ?_
                · rintro b a w' ⟨ha, Q_B0⟩ hb_ hon hoff
                  refine ⟨_, rfl, fun K hK => ?_⟩
                  have e171 : a.tmps[171]? = some (.pointer (some ⟨g2, 1, none⟩)) := by rw [ha]; exact putSel_on (e := (3, 171, .pointer (some ⟨g2, 1, none⟩))) 3 rfl rfl (hon 3 (by kernel_rfl)) rfl
                  replace ha := Aside0.mk ha
                  have B0 := Aside0.mk Q_B0
                  have c0_ := blk_cell ((HS23.out.below B0.out).plan) 1
                  refine value_ (w1 := w') (v := .int .i64 (Pn : Int)) (by rfl) rfl ?_ ?_
                  · go_simp
                    (try simp only [i64_w])
                    try rfl
                  refine hK.out _ _ ⟨(by rw [ha.out]; exact putSel_upk 4 hb_ rfl rfl rfl), Q_B0⟩
                refine steps_cons ?_ ?_
                · rintro b a w' ⟨ha, Q_B0⟩ hb_ hon hoff
                  refine ⟨_, rfl, fun K hK => ?_⟩
                  have e169 : a.tmps[169]? = some (.int .i64 (bn : Int)) := by rw [ha]; exact putSel_on (e := (1, 169, .int .i64 (bn : Int))) 1 rfl rfl (hon 1 (by kernel_rfl)) rfl
                  have e172 : a.tmps[172]? = some (.int .i64 (Pn : Int)) := by rw [ha]; exact putSel_on (e := (4, 172, .int .i64 (Pn : Int))) 4 rfl rfl (hon 4 (by kernel_rfl)) rfl
                  replace ha := Aside0.mk ha
                  have B0 := Aside0.mk Q_B0
                  have q_ := HWL.out
                  refine value_ (w1 := w') (v := .int .i64 (lo : Int)) (by rfl) rfl ?_ ?_
                  · go_simp
                    (try simp only [i64_w])
                    try rfl
                  refine hK.out _ _ ⟨(by rw [ha.out]; exact putSel_upk 5 hb_ rfl rfl rfl), Q_B0⟩
                refine steps_cons ?_ ?_
                · rintro b a w' ⟨ha, Q_B0⟩ hb_ hon hoff
                  refine ⟨_, rfl, fun K hK => ?_⟩
                  have e11 : a.tmps[11]? = some (.pointer (some ⟨g11, 0, none⟩)) := by rw [ha]; exact (putSel_off rfl).trans rfl
                  replace ha := Aside0.mk ha
                  have B0 := Aside0.mk Q_B0
                  refine value_ (w1 := w') (v := .pointer (some ⟨g11, 1, none⟩)) (by rfl) rfl ?_ ?_
                  · go_simp
                    (try simp only [i64_w])
                    try rfl
                  refine hK.out _ _ ⟨(by rw [ha.out]; exact putSel_upk 6 hb_ rfl rfl rfl), Q_B0⟩
                refine steps_cons ?_ ?_
                · rintro b a w' ⟨ha, Q_B0⟩ hb_ hon hoff
                  refine ⟨_, rfl, fun K hK => ?_⟩
                  have e174 : a.tmps[174]? = some (.pointer (some ⟨g11, 1, none⟩)) := by rw [ha]; exact putSel_on (e := (6, 174, .pointer (some ⟨g11, 1, none⟩))) 6 rfl rfl (hon 6 (by kernel_rfl)) rfl
                  replace ha := Aside0.mk ha
                  have B0 := Aside0.mk Q_B0
                  have c0_ := blk_cell (blk_below Z23.out B0.out) 1
                  refine value_ (w1 := w') (v := .int .i64 (nn : Int)) (by rfl) rfl ?_ ?_
                  · go_simp
                    (try simp only [i64_w])
                    try rfl
                  refine hK.out _ _ ⟨(by rw [ha.out]; exact putSel_upk 7 hb_ rfl rfl rfl), Q_B0⟩
                refine steps_cons ?_ ?_
                · rintro b a w' ⟨ha, Q_B0⟩ hb_ hon hoff
                  refine ⟨_, rfl, fun K hK => ?_⟩
                  have e2 : a.tmps[2]? = some (.pointer (some ⟨g2, 0, none⟩)) := by rw [ha]; exact (putSel_off rfl).trans rfl
                  replace ha := Aside0.mk ha
                  have B0 := Aside0.mk Q_B0
                  refine value_ (w1 := w') (v := .pointer (some ⟨g2, 0, none⟩)) (by rfl) rfl ?_ ?_
                  · go_simp
                    (try simp only [i64_w])
                    try rfl
                  refine hK.out _ _ ⟨(by rw [ha.out]; exact putSel_upk 8 hb_ rfl rfl rfl), Q_B0⟩
                refine steps_cons ?_ ?_
                · rintro b a w' ⟨ha, Q_B0⟩ hb_ hon hoff
                  refine ⟨_, rfl, fun K hK => ?_⟩
                  have e176 : a.tmps[176]? = some (.pointer (some ⟨g2, 0, none⟩)) := by rw [ha]; exact putSel_on (e := (8, 176, .pointer (some ⟨g2, 0, none⟩))) 8 rfl rfl (hon 8 (by kernel_rfl)) rfl
                  replace ha := Aside0.mk ha
                  have B0 := Aside0.mk Q_B0
                  refine value_ (w1 := w') (v := .pointer (some ⟨g2, 1, none⟩)) (by rfl) rfl ?_ ?_
                  · go_simp
                    (try simp only [i64_w])
                    try rfl
                  refine hK.out _ _ ⟨(by rw [ha.out]; exact putSel_upk 9 hb_ rfl rfl rfl), Q_B0⟩
                refine steps_cons ?_ ?_
                · rintro b a w' ⟨ha, Q_B0⟩ hb_ hon hoff
                  refine ⟨_, rfl, fun K hK => ?_⟩
                  have e177 : a.tmps[177]? = some (.pointer (some ⟨g2, 1, none⟩)) := by rw [ha]; exact putSel_on (e := (9, 177, .pointer (some ⟨g2, 1, none⟩))) 9 rfl rfl (hon 9 (by kernel_rfl)) rfl
                  replace ha := Aside0.mk ha
                  have B0 := Aside0.mk Q_B0
                  have c0_ := blk_cell ((HS23.out.below B0.out).plan) 1
                  refine value_ (w1 := w') (v := .int .i64 (Pn : Int)) (by rfl) rfl ?_ ?_
                  · go_simp
                    (try simp only [i64_w])
                    try rfl
                  refine hK.out _ _ ⟨(by rw [ha.out]; exact putSel_upk 10 hb_ rfl rfl rfl), Q_B0⟩
                refine steps_cons ?_ ?_
                · rintro b a w' ⟨ha, Q_B0⟩ hb_ hon hoff
                  refine ⟨_, rfl, fun K hK => ?_⟩
                  have e178 : a.tmps[178]? = some (.int .i64 (Pn : Int)) := by rw [ha]; exact putSel_on (e := (10, 178, .int .i64 (Pn : Int))) 10 rfl rfl (hon 10 (by kernel_rfl)) rfl
                  replace ha := Aside0.mk ha
                  have B0 := Aside0.mk Q_B0
                  have q_ := HWP.out
                  refine value_ (w1 := w') (v := .int .i64 ((Pn : Int) - 1)) (by rfl) rfl ?_ ?_
                  · go_simp
                    (try simp only [i64_w])
                    try rfl
                  refine hK.out _ _ ⟨(by rw [ha.out]; exact putSel_upk 11 hb_ rfl rfl rfl), Q_B0⟩
                refine steps_cons ?_ ?_
                · rintro b a w' ⟨ha, Q_B0⟩ hb_ hon hoff
                  refine ⟨_, rfl, fun K hK => ?_⟩
                  have e175 : a.tmps[175]? = some (.int .i64 (nn : Int)) := by rw [ha]; exact putSel_on (e := (7, 175, .int .i64 (nn : Int))) 7 rfl rfl (hon 7 (by kernel_rfl)) rfl
                  have e179 : a.tmps[179]? = some (.int .i64 ((Pn : Int) - 1)) := by rw [ha]; exact putSel_on (e := (11, 179, .int .i64 ((Pn : Int) - 1))) 11 rfl rfl (hon 11 (by kernel_rfl)) rfl
                  replace ha := Aside0.mk ha
                  have B0 := Aside0.mk Q_B0
                  refine goes_ Try.func20 (by kernel_rfl) rfl #[.int .i64 (nn : Int), .int .i64 ((Pn : Int) - 1)] (by rfl) rfl rfl (by first | (simp only [List.map_toArray, List.map_cons, List.map_nil, Act.eval, Array.getD_eq_getD_getElem?, Option.getD_some, e175, e179]; done) | (simp only [List.map_toArray, List.map_cons, List.map_nil, Act.eval, Array.getD_eq_getD_getElem?, Option.getD_some, e175, e179]; rfl)) ?_
                  with_reducible refine (HLW.out w').mono ?_
                  rintro e w2 ⟨rfl, hb⟩
                  refine ⟨_, rfl, ?_⟩
                  refine hK.out _ _ ⟨(by rw [ha.out]; exact putSel_upk 12 hb_ rfl rfl rfl), below_then B0.out B0.out.size hb⟩
                refine steps_cons ?_ ?_
                · rintro b a w' ⟨ha, Q_B0⟩ hb_ hon hoff
                  refine ⟨_, rfl, fun K hK => ?_⟩
                  have e173 : a.tmps[173]? = some (.int .i64 (lo : Int)) := by rw [ha]; exact putSel_on (e := (5, 173, .int .i64 (lo : Int))) 5 rfl rfl (hon 5 (by kernel_rfl)) rfl
                  have e180 : a.tmps[180]? = some (.int .i64 (q : Int)) := by rw [ha]; exact putSel_on (e := (12, 180, .int .i64 (q : Int))) 12 rfl rfl (hon 12 (by kernel_rfl)) rfl
                  replace ha := Aside0.mk ha
                  have B0 := Aside0.mk Q_B0
                  have q_ := HWK.out
                  refine value_ (w1 := w') (v := .int .i64 (k : Int)) (by rfl) rfl ?_ ?_
                  · go_simp
                    (try simp only [i64_w])
                    try rfl
                  refine hK.out _ _ ⟨(by rw [ha.out]; exact putSel_upk 13 hb_ rfl rfl rfl), Q_B0⟩
                refine steps_cons ?_ ?_
                · rintro b a w' ⟨ha, Q_B0⟩ hb_ hon hoff
                  refine ⟨_, rfl, fun K hK => ?_⟩
                  have e181 : a.tmps[181]? = some (.int .i64 (k : Int)) := by rw [ha]; exact putSel_on (e := (13, 181, .int .i64 (k : Int))) 13 rfl rfl (hon 13 (by kernel_rfl)) rfl
                  replace ha := Aside0.mk ha
                  have B0 := Aside0.mk Q_B0
                  refine value_ (w1 := w') (v := .int .i64 (k : Int)) (by rfl) rfl ?_ ?_
                  · go_simp
                    (try simp only [i64_w])
                    try rfl
                  refine hK.out _ _ ⟨(by rw [ha.out]; exact putSel_upk 14 hb_ rfl rfl rfl), Q_B0⟩
                exact steps_nil
              rintro b a w24 hall ⟨ha, Q_B0⟩
              clear B0
              have hb0_ := hall 0 (by kernel_rfl)
              have hb1_ := hall 1 (by kernel_rfl)
              have hb2_ := hall 2 (by kernel_rfl)
              have hb3_ := hall 3 (by kernel_rfl)
              have hb4_ := hall 4 (by kernel_rfl)
              have hb5_ := hall 5 (by kernel_rfl)
              have hb6_ := hall 6 (by kernel_rfl)
              have hb7_ := hall 7 (by kernel_rfl)
              have hb8_ := hall 8 (by kernel_rfl)
              have hb9_ := hall 9 (by kernel_rfl)
              have hb10_ := hall 10 (by kernel_rfl)
              have hb11_ := hall 11 (by kernel_rfl)
              have hb12_ := hall 12 (by kernel_rfl)
              have hb13_ := hall 13 (by kernel_rfl)
              have hb14_ := hall 14 (by kernel_rfl)
              subst ha
              simp only [putSel, hb0_, hb1_, hb2_, hb3_, hb4_, hb5_, hb6_, hb7_, hb8_, hb9_, hb10_, hb11_, hb12_, hb13_, hb14_, if_true, Act.put, List.setIfInBounds_toArray, List.set_cons_zero, List.set_cons_succ]
              have B0 := Aside0.mk Q_B0
              clear Q_B0
              clear hall hb0_ hb1_ hb2_ hb3_ hb4_ hb5_ hb6_ hb7_ hb8_ hb9_ hb10_ hb11_ hb12_ hb13_ hb14_
              have HS24 := Aside0.mk (HS23.out.below B0.out)
              have Z24 := Aside0.mk (blk_below Z23.out B0.out)
              clear B0 HS23 Z23 HLW
              obtain ⟨pk, hpk⟩ : ∃ v, v = D1.power.pages.getD k [] := ⟨_, rfl⟩
              have HPK := Aside0.mk hpk
              have hpo : isBytes pk ∧ pk.length = 256 := by
                rw [hpk]
                refine page_ok HDO2.out ?_
                have := HDO2.out.pl
                rw [HS24.out.sb, HS24.out.sp, ← Int.natCast_mul, ← HN.out] at this
                have := HKK.out.2.2
                omega
              have HPO := Aside0.mk hpo
              have HRD : Aside0 (∀ W', Below w24.heap.size w24 W' → Calls Try.prog 21 #[.pointer (some ⟨L.g, 0, none⟩), .agg #[.int .i64 (bn : Int), .int .i64 (q : Int)]] W' fun e w' => ∃ A c, e = .returned (.tuple #[.slice A 256 c, .int .i64 0]) ∧ 256 ≤ c ∧ Kd.F (Kd.int .u8) w' (fun j => W'.heap.size ≤ j) A 256 pk ∧ Below W'.heap.size W' w') := ⟨fun W' hW => by
                obtain ⟨ok, hD⟩ := HS24.out.dev.1
                refine (read_calls (hD.below hW) (bn : Int) (q : Int)).mono ?_
                rw [HRV.out, ← hpk]
                rintro e w' ⟨A, c, h1, h2, h3, h4⟩
                rw [show (pk, (0 : Int)).1.length = 256 from hpo.2] at h1 h2 h3
                exact ⟨A, c, h1, h2, h3, h4⟩⟩
              have B0 := Aside0.mk (below_drew1 (Below.refl w24.heap.size w24))
              have RD := True.intro
              clear hpk hpo HRV
              go_upto_region 25 with fail
              refine start_ (n := 18) (S := fun w' => True) (ds := []) #[false, false, false, false, false, false, false, false, false, false, false, false, false, false, false, false, false, false] (by kernel_rfl) rfl rfl trivial (fun hHeld => ?_)
              refine with_tabW one25.tab25 one25.bits25 (fun HT_ HW_ => ?_)
              generalize w24.drew = wq at B0 hHeld ⊢
              refine inv_at [0, 1, 2, 3, 4, 5, 6, 7, 8, 9, 10, 11, 12, 13, 14, 15, 16, 17] (fun a0_ b a w' => ∃ (Ar : Option Addr) (cr : Nat) (m12_ : Value) (m13_ : Value) (m14_ : Value) (m16_ : Value), a = putSel a0_ b [(0, 183, .pointer (some ⟨L.g, 0, none⟩)), (1, 184, .int .i64 (k : Int)), (2, 185, .pointer (some ⟨g2, 0, none⟩)), (3, 186, .pointer (some ⟨g2, 1, none⟩)), (4, 187, .int .i64 (Pn : Int)), (5, 188, .int .i64 (bn : Int)), (6, 189, .int .i64 (k : Int)), (7, 190, .pointer (some ⟨g2, 0, none⟩)), (8, 191, .pointer (some ⟨g2, 1, none⟩)), (9, 192, .int .i64 (Pn : Int)), (10, 193, .int .i64 (q : Int)), (11, 194, .agg #[.int .i64 (bn : Int), .int .i64 (q : Int)]), (12, 195, m12_), (13, 182, m13_), (14, 196, m14_), (15, 197, .int .i64 0), (16, 15, m16_), (17, 16, .int .i64 0)] ∧ (Below w24.heap.size w24 w') ∧ (b 12 = true → 256 ≤ cr ∧ Kd.C (Kd.int .u8) w' Ar 256 pk) ∧ (b 12 = true → (m12_ : Value) = .tuple #[.slice Ar 256 cr, .int .i64 0]) ∧ (b 13 = true → (m13_ : Value) = .tuple #[.slice Ar 256 cr, .int .i64 0]) ∧ (b 14 = true → (m14_ : Value) = .slice Ar 256 cr) ∧ (b 16 = true → (m16_ : Value) = .slice Ar 256 cr)) HT_.out HW_.out (by kernel_rfl) (by kernel_rfl) ?_ ?_ ?_
              · exact ⟨none, 0, .bool false, .bool false, .bool false, .bool false, by simp only [putSel, Bool.false_eq_true, if_false], B0.out, fun h_ => absurd h_ (by decide), fun h_ => absurd h_ (by decide), fun h_ => absurd h_ (by decide), fun h_ => absurd h_ (by decide), fun h_ => absurd h_ (by decide)⟩
              · skip
                clear B0
                refine steps_cons ?_ ?_
                · rintro b a w' ⟨Ar, cr, m12_, m13_, m14_, m16_, ha, Q_B0, Q_RD, Q_X12_, Q_X13_, Q_X14_, Q_X16_⟩ hb_ hon hoff
                  refine ⟨_, rfl, fun K hK => ?_⟩
                  have e5 : a.tmps[5]? = some (.pointer (some ⟨L.g, 0, none⟩)) := by rw [ha]; exact (putSel_off rfl).trans rfl
                  replace ha := Aside0.mk ha
                  have B0 := Aside0.mk Q_B0
                  refine value_ (w1 := w') (v := .pointer (some ⟨L.g, 0, none⟩)) (by rfl) rfl ?_ ?_
                  · go_simp
                    (try simp only [i64_w])
                    try rfl
                  refine hK.out _ _ ⟨Ar, cr, m12_, m13_, m14_, m16_, (by rw [ha.out]; exact putSel_upk 0 hb_ rfl rfl rfl), Q_B0, fun h0_ => absurd ((hoff 12 (by kernel_rfl)).symm.trans h0_) (by decide), fun h0_ => absurd ((hoff 12 (by kernel_rfl)).symm.trans h0_) (by decide), fun h0_ => absurd ((hoff 13 (by kernel_rfl)).symm.trans h0_) (by decide), fun h0_ => absurd ((hoff 14 (by kernel_rfl)).symm.trans h0_) (by decide), fun h0_ => absurd ((hoff 16 (by kernel_rfl)).symm.trans h0_) (by decide)⟩
                refine steps_cons ?_ ?_
                · rintro b a w' ⟨Ar, cr, m12_, m13_, m14_, m16_, ha, Q_B0, Q_RD, Q_X12_, Q_X13_, Q_X14_, Q_X16_⟩ hb_ hon hoff
                  refine ⟨_, rfl, fun K hK => ?_⟩
                  have e14 : a.tmps[14]? = some (.int .i64 (k : Int)) := by rw [ha]; exact (putSel_off rfl).trans rfl
                  replace ha := Aside0.mk ha
                  have B0 := Aside0.mk Q_B0
                  refine value_ (w1 := w') (v := .int .i64 (k : Int)) (by rfl) rfl ?_ ?_
                  · go_simp
                    (try simp only [i64_w])
                    try rfl
                  refine hK.out _ _ ⟨Ar, cr, m12_, m13_, m14_, m16_, (by rw [ha.out]; exact putSel_upk 1 hb_ rfl rfl rfl), Q_B0, fun h0_ => absurd ((hoff 12 (by kernel_rfl)).symm.trans h0_) (by decide), fun h0_ => absurd ((hoff 12 (by kernel_rfl)).symm.trans h0_) (by decide), fun h0_ => absurd ((hoff 13 (by kernel_rfl)).symm.trans h0_) (by decide), fun h0_ => absurd ((hoff 14 (by kernel_rfl)).symm.trans h0_) (by decide), fun h0_ => absurd ((hoff 16 (by kernel_rfl)).symm.trans h0_) (by decide)⟩
                refine steps_cons ?_ ?_
                · rintro b a w' ⟨Ar, cr, m12_, m13_, m14_, m16_, ha, Q_B0, Q_RD, Q_X12_, Q_X13_, Q_X14_, Q_X16_⟩ hb_ hon hoff
                  refine ⟨_, rfl, fun K hK => ?_⟩
                  have e2 : a.tmps[2]? = some (.pointer (some ⟨g2, 0, none⟩)) := by rw [ha]; exact (putSel_off rfl).trans rfl
                  replace ha := Aside0.mk ha
                  have B0 := Aside0.mk Q_B0
                  refine value_ (w1 := w') (v := .pointer (some ⟨g2, 0, none⟩)) (by rfl) rfl ?_ ?_
                  · go_simp
                    (try simp only [i64_w])
                    try rfl
                  refine hK.out _ _ ⟨Ar, cr, m12_, m13_, m14_, m16_, (by rw [ha.out]; exact putSel_upk 2 hb_ rfl rfl rfl), Q_B0, fun h0_ => absurd ((hoff 12 (by kernel_rfl)).symm.trans h0_) (by decide), fun h0_ => absurd ((hoff 12 (by kernel_rfl)).symm.trans h0_) (by decide), fun h0_ => absurd ((hoff 13 (by kernel_rfl)).symm.trans h0_) (by decide), fun h0_ => absurd ((hoff 14 (by kernel_rfl)).symm.trans h0_) (by decide), fun h0_ => absurd ((hoff 16 (by kernel_rfl)).symm.trans h0_) (by decide)⟩
                refine steps_cons ?_ ?_
                · rintro b a w' ⟨Ar, cr, m12_, m13_, m14_, m16_, ha, Q_B0, Q_RD, Q_X12_, Q_X13_, Q_X14_, Q_X16_⟩ hb_ hon hoff
                  refine ⟨_, rfl, fun K hK => ?_⟩
                  have e185 : a.tmps[185]? = some (.pointer (some ⟨g2, 0, none⟩)) := by rw [ha]; exact putSel_on (e := (2, 185, .pointer (some ⟨g2, 0, none⟩))) 2 rfl rfl (hon 2 (by kernel_rfl)) rfl
                  replace ha := Aside0.mk ha
                  have B0 := Aside0.mk Q_B0
                  refine value_ (w1 := w') (v := .pointer (some ⟨g2, 1, none⟩)) (by rfl) rfl ?_ ?_
                  · go_simp
                    (try simp only [i64_w])
                    try rfl
                  refine hK.out _ _ ⟨Ar, cr, m12_, m13_, m14_, m16_, (by rw [ha.out]; exact putSel_upk 3 hb_ rfl rfl rfl), Q_B0, fun h0_ => absurd ((hoff 12 (by kernel_rfl)).symm.trans h0_) (by decide), fun h0_ => absurd ((hoff 12 (by kernel_rfl)).symm.trans h0_) (by decide), fun h0_ => absurd ((hoff 13 (by kernel_rfl)).symm.trans h0_) (by decide), fun h0_ => absurd ((hoff 14 (by kernel_rfl)).symm.trans h0_) (by decide), fun h0_ => absurd ((hoff 16 (by kernel_rfl)).symm.trans h0_) (by decide)⟩
                refine steps_cons ?_ ?_
                · rintro b a w' ⟨Ar, cr, m12_, m13_, m14_, m16_, ha, Q_B0, Q_RD, Q_X12_, Q_X13_, Q_X14_, Q_X16_⟩ hb_ hon hoff
                  refine ⟨_, rfl, fun K hK => ?_⟩
                  have e186 : a.tmps[186]? = some (.pointer (some ⟨g2, 1, none⟩)) := by rw [ha]; exact putSel_on (e := (3, 186, .pointer (some ⟨g2, 1, none⟩))) 3 rfl rfl (hon 3 (by kernel_rfl)) rfl
                  replace ha := Aside0.mk ha
                  have B0 := Aside0.mk Q_B0
                  have c0_ := blk_cell ((HS24.out.below B0.out).plan) 1
                  refine value_ (w1 := w') (v := .int .i64 (Pn : Int)) (by rfl) rfl ?_ ?_
                  · go_simp
                    (try simp only [i64_w])
                    try rfl
                  refine hK.out _ _ ⟨Ar, cr, m12_, m13_, m14_, m16_, (by rw [ha.out]; exact putSel_upk 4 hb_ rfl rfl rfl), Q_B0, fun h0_ => absurd ((hoff 12 (by kernel_rfl)).symm.trans h0_) (by decide), fun h0_ => absurd ((hoff 12 (by kernel_rfl)).symm.trans h0_) (by decide), fun h0_ => absurd ((hoff 13 (by kernel_rfl)).symm.trans h0_) (by decide), fun h0_ => absurd ((hoff 14 (by kernel_rfl)).symm.trans h0_) (by decide), fun h0_ => absurd ((hoff 16 (by kernel_rfl)).symm.trans h0_) (by decide)⟩
                refine steps_cons ?_ ?_
                · rintro b a w' ⟨Ar, cr, m12_, m13_, m14_, m16_, ha, Q_B0, Q_RD, Q_X12_, Q_X13_, Q_X14_, Q_X16_⟩ hb_ hon hoff
                  refine ⟨_, rfl, fun K hK => ?_⟩
                  have e184 : a.tmps[184]? = some (.int .i64 (k : Int)) := by rw [ha]; exact putSel_on (e := (1, 184, .int .i64 (k : Int))) 1 rfl rfl (hon 1 (by kernel_rfl)) rfl
                  have e187 : a.tmps[187]? = some (.int .i64 (Pn : Int)) := by rw [ha]; exact putSel_on (e := (4, 187, .int .i64 (Pn : Int))) 4 rfl rfl (hon 4 (by kernel_rfl)) rfl
                  replace ha := Aside0.mk ha
                  have B0 := Aside0.mk Q_B0
                  have q1_ := HDM.out.1.1
                  have q2_ := HDM.out.2.1.1
                  have q3_ := HDM.out.2.2.1
                  have q4_ := HDM.out.2.2.2
                  refine value_ (w1 := w') (v := .int .i64 (bn : Int)) (by rfl) rfl ?_ ?_
                  · go_simp
                    (try simp only [i64_w])
                    try rfl
                  refine hK.out _ _ ⟨Ar, cr, m12_, m13_, m14_, m16_, (by rw [ha.out]; exact putSel_upk 5 hb_ rfl rfl rfl), Q_B0, fun h0_ => absurd ((hoff 12 (by kernel_rfl)).symm.trans h0_) (by decide), fun h0_ => absurd ((hoff 12 (by kernel_rfl)).symm.trans h0_) (by decide), fun h0_ => absurd ((hoff 13 (by kernel_rfl)).symm.trans h0_) (by decide), fun h0_ => absurd ((hoff 14 (by kernel_rfl)).symm.trans h0_) (by decide), fun h0_ => absurd ((hoff 16 (by kernel_rfl)).symm.trans h0_) (by decide)⟩
                refine steps_cons ?_ ?_
                · rintro b a w' ⟨Ar, cr, m12_, m13_, m14_, m16_, ha, Q_B0, Q_RD, Q_X12_, Q_X13_, Q_X14_, Q_X16_⟩ hb_ hon hoff
                  refine ⟨_, rfl, fun K hK => ?_⟩
                  have e14 : a.tmps[14]? = some (.int .i64 (k : Int)) := by rw [ha]; exact (putSel_off rfl).trans rfl
                  replace ha := Aside0.mk ha
                  have B0 := Aside0.mk Q_B0
                  refine value_ (w1 := w') (v := .int .i64 (k : Int)) (by rfl) rfl ?_ ?_
                  · go_simp
                    (try simp only [i64_w])
                    try rfl
                  refine hK.out _ _ ⟨Ar, cr, m12_, m13_, m14_, m16_, (by rw [ha.out]; exact putSel_upk 6 hb_ rfl rfl rfl), Q_B0, fun h0_ => absurd ((hoff 12 (by kernel_rfl)).symm.trans h0_) (by decide), fun h0_ => absurd ((hoff 12 (by kernel_rfl)).symm.trans h0_) (by decide), fun h0_ => absurd ((hoff 13 (by kernel_rfl)).symm.trans h0_) (by decide), fun h0_ => absurd ((hoff 14 (by kernel_rfl)).symm.trans h0_) (by decide), fun h0_ => absurd ((hoff 16 (by kernel_rfl)).symm.trans h0_) (by decide)⟩
                refine steps_cons ?_ ?_
                · rintro b a w' ⟨Ar, cr, m12_, m13_, m14_, m16_, ha, Q_B0, Q_RD, Q_X12_, Q_X13_, Q_X14_, Q_X16_⟩ hb_ hon hoff
                  refine ⟨_, rfl, fun K hK => ?_⟩
                  have e2 : a.tmps[2]? = some (.pointer (some ⟨g2, 0, none⟩)) := by rw [ha]; exact (putSel_off rfl).trans rfl
                  replace ha := Aside0.mk ha
                  have B0 := Aside0.mk Q_B0
                  refine value_ (w1 := w') (v := .pointer (some ⟨g2, 0, none⟩)) (by rfl) rfl ?_ ?_
                  · go_simp
                    (try simp only [i64_w])
                    try rfl
                  refine hK.out _ _ ⟨Ar, cr, m12_, m13_, m14_, m16_, (by rw [ha.out]; exact putSel_upk 7 hb_ rfl rfl rfl), Q_B0, fun h0_ => absurd ((hoff 12 (by kernel_rfl)).symm.trans h0_) (by decide), fun h0_ => absurd ((hoff 12 (by kernel_rfl)).symm.trans h0_) (by decide), fun h0_ => absurd ((hoff 13 (by kernel_rfl)).symm.trans h0_) (by decide), fun h0_ => absurd ((hoff 14 (by kernel_rfl)).symm.trans h0_) (by decide), fun h0_ => absurd ((hoff 16 (by kernel_rfl)).symm.trans h0_) (by decide)⟩
                refine steps_cons ?_ ?_
                · rintro b a w' ⟨Ar, cr, m12_, m13_, m14_, m16_, ha, Q_B0, Q_RD, Q_X12_, Q_X13_, Q_X14_, Q_X16_⟩ hb_ hon hoff
                  refine ⟨_, rfl, fun K hK => ?_⟩
                  have e190 : a.tmps[190]? = some (.pointer (some ⟨g2, 0, none⟩)) := by rw [ha]; exact putSel_on (e := (7, 190, .pointer (some ⟨g2, 0, none⟩))) 7 rfl rfl (hon 7 (by kernel_rfl)) rfl
                  replace ha := Aside0.mk ha
                  have B0 := Aside0.mk Q_B0
                  refine value_ (w1 := w') (v := .pointer (some ⟨g2, 1, none⟩)) (by rfl) rfl ?_ ?_
                  · go_simp
                    (try simp only [i64_w])
                    try rfl
                  refine hK.out _ _ ⟨Ar, cr, m12_, m13_, m14_, m16_, (by rw [ha.out]; exact putSel_upk 8 hb_ rfl rfl rfl), Q_B0, fun h0_ => absurd ((hoff 12 (by kernel_rfl)).symm.trans h0_) (by decide), fun h0_ => absurd ((hoff 12 (by kernel_rfl)).symm.trans h0_) (by decide), fun h0_ => absurd ((hoff 13 (by kernel_rfl)).symm.trans h0_) (by decide), fun h0_ => absurd ((hoff 14 (by kernel_rfl)).symm.trans h0_) (by decide), fun h0_ => absurd ((hoff 16 (by kernel_rfl)).symm.trans h0_) (by decide)⟩
                refine steps_cons ?_ ?_
                · rintro b a w' ⟨Ar, cr, m12_, m13_, m14_, m16_, ha, Q_B0, Q_RD, Q_X12_, Q_X13_, Q_X14_, Q_X16_⟩ hb_ hon hoff
                  refine ⟨_, rfl, fun K hK => ?_⟩
                  have e191 : a.tmps[191]? = some (.pointer (some ⟨g2, 1, none⟩)) := by rw [ha]; exact putSel_on (e := (8, 191, .pointer (some ⟨g2, 1, none⟩))) 8 rfl rfl (hon 8 (by kernel_rfl)) rfl
                  replace ha := Aside0.mk ha
                  have B0 := Aside0.mk Q_B0
                  have c0_ := blk_cell ((HS24.out.below B0.out).plan) 1
                  refine value_ (w1 := w') (v := .int .i64 (Pn : Int)) (by rfl) rfl ?_ ?_
                  · go_simp
                    (try simp only [i64_w])
                    try rfl
                  refine hK.out _ _ ⟨Ar, cr, m12_, m13_, m14_, m16_, (by rw [ha.out]; exact putSel_upk 9 hb_ rfl rfl rfl), Q_B0, fun h0_ => absurd ((hoff 12 (by kernel_rfl)).symm.trans h0_) (by decide), fun h0_ => absurd ((hoff 12 (by kernel_rfl)).symm.trans h0_) (by decide), fun h0_ => absurd ((hoff 13 (by kernel_rfl)).symm.trans h0_) (by decide), fun h0_ => absurd ((hoff 14 (by kernel_rfl)).symm.trans h0_) (by decide), fun h0_ => absurd ((hoff 16 (by kernel_rfl)).symm.trans h0_) (by decide)⟩
                refine steps_cons ?_ ?_
                · rintro b a w' ⟨Ar, cr, m12_, m13_, m14_, m16_, ha, Q_B0, Q_RD, Q_X12_, Q_X13_, Q_X14_, Q_X16_⟩ hb_ hon hoff
                  refine ⟨_, rfl, fun K hK => ?_⟩
                  have e189 : a.tmps[189]? = some (.int .i64 (k : Int)) := by rw [ha]; exact putSel_on (e := (6, 189, .int .i64 (k : Int))) 6 rfl rfl (hon 6 (by kernel_rfl)) rfl
                  have e192 : a.tmps[192]? = some (.int .i64 (Pn : Int)) := by rw [ha]; exact putSel_on (e := (9, 192, .int .i64 (Pn : Int))) 9 rfl rfl (hon 9 (by kernel_rfl)) rfl
                  replace ha := Aside0.mk ha
                  have B0 := Aside0.mk Q_B0
                  have q1_ := HDM.out.1.2
                  have q2_ := HDM.out.2.1.2
                  have q3_ := HDM.out.2.2.1
                  have q4_ := HDM.out.2.2.2
                  refine value_ (w1 := w') (v := .int .i64 (q : Int)) (by rfl) rfl ?_ ?_
                  · go_simp
                    (try simp only [i64_w])
                    try rfl
                  refine hK.out _ _ ⟨Ar, cr, m12_, m13_, m14_, m16_, (by rw [ha.out]; exact putSel_upk 10 hb_ rfl rfl rfl), Q_B0, fun h0_ => absurd ((hoff 12 (by kernel_rfl)).symm.trans h0_) (by decide), fun h0_ => absurd ((hoff 12 (by kernel_rfl)).symm.trans h0_) (by decide), fun h0_ => absurd ((hoff 13 (by kernel_rfl)).symm.trans h0_) (by decide), fun h0_ => absurd ((hoff 14 (by kernel_rfl)).symm.trans h0_) (by decide), fun h0_ => absurd ((hoff 16 (by kernel_rfl)).symm.trans h0_) (by decide)⟩
                refine steps_cons ?_ ?_
                · rintro b a w' ⟨Ar, cr, m12_, m13_, m14_, m16_, ha, Q_B0, Q_RD, Q_X12_, Q_X13_, Q_X14_, Q_X16_⟩ hb_ hon hoff
                  refine ⟨_, rfl, fun K hK => ?_⟩
                  have e188 : a.tmps[188]? = some (.int .i64 (bn : Int)) := by rw [ha]; exact putSel_on (e := (5, 188, .int .i64 (bn : Int))) 5 rfl rfl (hon 5 (by kernel_rfl)) rfl
                  have e193 : a.tmps[193]? = some (.int .i64 (q : Int)) := by rw [ha]; exact putSel_on (e := (10, 193, .int .i64 (q : Int))) 10 rfl rfl (hon 10 (by kernel_rfl)) rfl
                  replace ha := Aside0.mk ha
                  have B0 := Aside0.mk Q_B0
                  refine value_ (w1 := w') (v := .agg #[.int .i64 (bn : Int), .int .i64 (q : Int)]) (by rfl) rfl ?_ ?_
                  · go_simp
                    (try simp only [i64_w])
                    try rfl
                  refine hK.out _ _ ⟨Ar, cr, m12_, m13_, m14_, m16_, (by rw [ha.out]; exact putSel_upk 11 hb_ rfl rfl rfl), Q_B0, fun h0_ => absurd ((hoff 12 (by kernel_rfl)).symm.trans h0_) (by decide), fun h0_ => absurd ((hoff 12 (by kernel_rfl)).symm.trans h0_) (by decide), fun h0_ => absurd ((hoff 13 (by kernel_rfl)).symm.trans h0_) (by decide), fun h0_ => absurd ((hoff 14 (by kernel_rfl)).symm.trans h0_) (by decide), fun h0_ => absurd ((hoff 16 (by kernel_rfl)).symm.trans h0_) (by decide)⟩
                refine steps_cons ?_ ?_
                · rintro b a w' ⟨Ar, cr, m12_, m13_, m14_, m16_, ha, Q_B0, Q_RD, Q_X12_, Q_X13_, Q_X14_, Q_X16_⟩ hb_ hon hoff
                  refine ⟨_, rfl, fun K hK => ?_⟩
                  have e183 : a.tmps[183]? = some (.pointer (some ⟨L.g, 0, none⟩)) := by rw [ha]; exact putSel_on (e := (0, 183, .pointer (some ⟨L.g, 0, none⟩))) 0 rfl rfl (hon 0 (by kernel_rfl)) rfl
                  have e194 : a.tmps[194]? = some (.agg #[.int .i64 (bn : Int), .int .i64 (q : Int)]) := by rw [ha]; exact putSel_on (e := (11, 194, .agg #[.int .i64 (bn : Int), .int .i64 (q : Int)])) 11 rfl rfl (hon 11 (by kernel_rfl)) rfl
                  replace ha := Aside0.mk ha
                  have B0 := Aside0.mk Q_B0
                  refine goes_ Try.func21 (by kernel_rfl) rfl #[.pointer (some ⟨L.g, 0, none⟩), .agg #[.int .i64 (bn : Int), .int .i64 (q : Int)]] (by rfl) rfl rfl (by first | (simp only [List.map_toArray, List.map_cons, List.map_nil, Act.eval, Array.getD_eq_getD_getElem?, Option.getD_some, e183, e194]; done) | (simp only [List.map_toArray, List.map_cons, List.map_nil, Act.eval, Array.getD_eq_getD_getElem?, Option.getD_some, e183, e194]; rfl)) ?_
                  with_reducible refine (HRD.out _ B0.out).mono ?_
                  rintro e w2 ⟨A_, c_, rfl, hc_, hF_, hb⟩
                  refine ⟨_, rfl, ?_⟩
                  refine hK.out _ _ ⟨A_, c_, (.tuple #[.slice A_ 256 c_, .int .i64 0]), m13_, m14_, m16_, (by rw [ha.out]; exact putSel_upk 12 hb_ rfl rfl rfl), below_then B0.out B0.out.size hb, fun _ => ⟨hc_, Kd.F_now hF_⟩, fun _ => rfl, fun h0_ => absurd ((hoff 13 (by kernel_rfl)).symm.trans h0_) (by decide), fun h0_ => absurd ((hoff 14 (by kernel_rfl)).symm.trans h0_) (by decide), fun h0_ => absurd ((hoff 16 (by kernel_rfl)).symm.trans h0_) (by decide)⟩
                refine steps_cons ?_ ?_
                · rintro b a w' ⟨Ar, cr, m12_, m13_, m14_, m16_, ha, Q_B0, Q_RD, Q_X12_, Q_X13_, Q_X14_, Q_X16_⟩ hb_ hon hoff
                  refine ⟨_, rfl, fun K hK => ?_⟩
                  have e195 : a.tmps[195]? = some (m12_) := by rw [ha]; exact putSel_on (e := (12, 195, m12_)) 12 rfl rfl (hon 12 (by kernel_rfl)) rfl
                  rw [Q_X12_ (hon 12 (by kernel_rfl))] at e195
                  replace ha := Aside0.mk ha
                  have B0 := Aside0.mk Q_B0
                  have RD := Aside0.mk (Q_RD (hon 12 (by kernel_rfl)))
                  refine value_ (w1 := w') (v := .tuple #[.slice Ar 256 cr, .int .i64 0]) (by rfl) rfl ?_ ?_
                  · go_simp
                    (try simp only [i64_w])
                    try rfl
                  refine hK.out _ _ ⟨Ar, cr, m12_, (.tuple #[.slice Ar 256 cr, .int .i64 0]), m14_, m16_, (by rw [ha.out]; exact putSel_upk 13 hb_ rfl rfl rfl), Q_B0, Q_RD, Q_X12_, fun _ => rfl, fun h0_ => absurd ((hoff 14 (by kernel_rfl)).symm.trans h0_) (by decide), fun h0_ => absurd ((hoff 16 (by kernel_rfl)).symm.trans h0_) (by decide)⟩
                refine steps_cons ?_ ?_
                · rintro b a w' ⟨Ar, cr, m12_, m13_, m14_, m16_, ha, Q_B0, Q_RD, Q_X12_, Q_X13_, Q_X14_, Q_X16_⟩ hb_ hon hoff
                  refine ⟨_, rfl, fun K hK => ?_⟩
                  have e182 : a.tmps[182]? = some (m13_) := by rw [ha]; exact putSel_on (e := (13, 182, m13_)) 13 rfl rfl (hon 13 (by kernel_rfl)) rfl
                  rw [Q_X13_ (hon 13 (by kernel_rfl))] at e182
                  replace ha := Aside0.mk ha
                  have B0 := Aside0.mk Q_B0
                  have RD := Aside0.mk (Q_RD (hon 12 (by kernel_rfl)))
                  refine value_ (w1 := w') (v := .slice Ar 256 cr) (by rfl) rfl ?_ ?_
                  · go_simp
                    (try simp only [i64_w])
                    try rfl
                  refine hK.out _ _ ⟨Ar, cr, m12_, m13_, (.slice Ar 256 cr), m16_, (by rw [ha.out]; exact putSel_upk 14 hb_ rfl rfl rfl), Q_B0, Q_RD, Q_X12_, Q_X13_, fun _ => rfl, fun h0_ => absurd ((hoff 16 (by kernel_rfl)).symm.trans h0_) (by decide)⟩
                refine steps_cons ?_ ?_
                · rintro b a w' ⟨Ar, cr, m12_, m13_, m14_, m16_, ha, Q_B0, Q_RD, Q_X12_, Q_X13_, Q_X14_, Q_X16_⟩ hb_ hon hoff
                  refine ⟨_, rfl, fun K hK => ?_⟩
                  have e182 : a.tmps[182]? = some (m13_) := by rw [ha]; exact putSel_on (e := (13, 182, m13_)) 13 rfl rfl (hon 13 (by kernel_rfl)) rfl
                  rw [Q_X13_ (hon 13 (by kernel_rfl))] at e182
                  replace ha := Aside0.mk ha
                  have B0 := Aside0.mk Q_B0
                  have RD := Aside0.mk (Q_RD (hon 12 (by kernel_rfl)))
                  refine value_ (w1 := w') (v := .int .i64 0) (by rfl) rfl ?_ ?_
                  · go_simp
                    (try simp only [i64_w])
                    try rfl
                  refine hK.out _ _ ⟨Ar, cr, m12_, m13_, m14_, m16_, (by rw [ha.out]; exact putSel_upk 15 hb_ rfl rfl rfl), Q_B0, Q_RD, Q_X12_, Q_X13_, Q_X14_, Q_X16_⟩
                refine steps_cons ?_ ?_
                · rintro b a w' ⟨Ar, cr, m12_, m13_, m14_, m16_, ha, Q_B0, Q_RD, Q_X12_, Q_X13_, Q_X14_, Q_X16_⟩ hb_ hon hoff
                  refine ⟨_, rfl, fun K hK => ?_⟩
                  have e196 : a.tmps[196]? = some (m14_) := by rw [ha]; exact putSel_on (e := (14, 196, m14_)) 14 rfl rfl (hon 14 (by kernel_rfl)) rfl
                  rw [Q_X14_ (hon 14 (by kernel_rfl))] at e196
                  replace ha := Aside0.mk ha
                  have B0 := Aside0.mk Q_B0
                  have RD := Aside0.mk (Q_RD (hon 12 (by kernel_rfl)))
                  refine value_ (w1 := w') (v := .slice Ar 256 cr) (by rfl) rfl ?_ ?_
                  · go_simp
                    (try simp only [i64_w])
                    try rfl
                  refine hK.out _ _ ⟨Ar, cr, m12_, m13_, m14_, (.slice Ar 256 cr), (by rw [ha.out]; exact putSel_upk 16 hb_ rfl rfl rfl), Q_B0, Q_RD, Q_X12_, Q_X13_, Q_X14_, fun _ => rfl⟩
                refine steps_cons ?_ ?_
                · rintro b a w' ⟨Ar, cr, m12_, m13_, m14_, m16_, ha, Q_B0, Q_RD, Q_X12_, Q_X13_, Q_X14_, Q_X16_⟩ hb_ hon hoff
                  refine ⟨_, rfl, fun K hK => ?_⟩
                  have e197 : a.tmps[197]? = some (.int .i64 0) := by rw [ha]; exact putSel_on (e := (15, 197, .int .i64 0)) 15 rfl rfl (hon 15 (by kernel_rfl)) rfl
                  replace ha := Aside0.mk ha
                  have B0 := Aside0.mk Q_B0
                  have RD := Aside0.mk (Q_RD (hon 12 (by kernel_rfl)))
                  refine value_ (w1 := w') (v := .int .i64 0) (by rfl) rfl ?_ ?_
                  · go_simp
                    (try simp only [i64_w])
                    try rfl
                  refine hK.out _ _ ⟨Ar, cr, m12_, m13_, m14_, m16_, (by rw [ha.out]; exact putSel_upk 17 hb_ rfl rfl rfl), Q_B0, Q_RD, Q_X12_, Q_X13_, Q_X14_, Q_X16_⟩
                exact steps_nil
              rintro b a w25 hall ⟨Ar, cr, m12_, m13_, m14_, m16_, ha, Q_B0, Q_RD, Q_X12_, Q_X13_, Q_X14_, Q_X16_⟩
              clear B0
              have hb0_ := hall 0 (by kernel_rfl)
              have hb1_ := hall 1 (by kernel_rfl)
              have hb2_ := hall 2 (by kernel_rfl)
              have hb3_ := hall 3 (by kernel_rfl)
              have hb4_ := hall 4 (by kernel_rfl)
              have hb5_ := hall 5 (by kernel_rfl)
              have hb6_ := hall 6 (by kernel_rfl)
              have hb7_ := hall 7 (by kernel_rfl)
              have hb8_ := hall 8 (by kernel_rfl)
              have hb9_ := hall 9 (by kernel_rfl)
              have hb10_ := hall 10 (by kernel_rfl)
              have hb11_ := hall 11 (by kernel_rfl)
              have hb12_ := hall 12 (by kernel_rfl)
              have hb13_ := hall 13 (by kernel_rfl)
              have hb14_ := hall 14 (by kernel_rfl)
              have hb15_ := hall 15 (by kernel_rfl)
              have hb16_ := hall 16 (by kernel_rfl)
              have hb17_ := hall 17 (by kernel_rfl)
              subst ha
              obtain rfl := Q_X12_ hb12_
              obtain rfl := Q_X13_ hb13_
              obtain rfl := Q_X14_ hb14_
              obtain rfl := Q_X16_ hb16_
              simp only [putSel, hb0_, hb1_, hb2_, hb3_, hb4_, hb5_, hb6_, hb7_, hb8_, hb9_, hb10_, hb11_, hb12_, hb13_, hb14_, hb15_, hb16_, hb17_, if_true, Act.put, List.setIfInBounds_toArray, List.set_cons_zero, List.set_cons_succ]
              have B0 := Aside0.mk Q_B0
              clear Q_B0
              have RD := Aside0.mk (Q_RD hb12_)
              clear Q_RD
              clear hall hb0_ hb1_ hb2_ hb3_ hb4_ hb5_ hb6_ hb7_ hb8_ hb9_ hb10_ hb11_ hb12_ hb13_ hb14_ hb15_ hb16_ hb17_
              have HS25 := Aside0.mk (HS24.out.below B0.out)
              have HWA : Aside0 (Wants pk (ws1.getD k [])) := ⟨by rw [HPK.out]; exact HIV1.out.cov k (by rw [HS25.out.wl]; exact HKK.out.2.2)⟩
              obtain ⟨sw, hsw⟩ : ∃ s, s = strOfNums (ws1.getD k []) := ⟨_, rfl⟩
              have c8 := HS25.out.want.cell (texts_get (k := k) (by rw [HS25.out.wl]; exact HKK.out.2.2))
              rw [← hsw] at c8
              have p1 := eq_true (show (0 : Int) ≤ (k : Int) from Int.natCast_nonneg k)
              have q1 := eq_true (show (k : Int) < (n : Int) from Int.ofNat_lt.2 HKK.out.2.2)
              obtain ⟨hw5, hw6⟩ := wrap_id (x := (i : Int) + 1) (by omega) (by have := HI30.out; omega)
              clear HS24 Z24 HRD B0
              rcases HWA.out with hnil | ⟨hbw, hcv⟩
              · rw [hnil] at hsw
                rw [show sw = ⟨#[]⟩ from hsw] at c8
                clear hsw hnil
                go_wp2_with fail
                go_roundg (gk - 1)
                case measure => have := HI.out; have := HI30.out; omega
                case rel => exact ⟨i + 1, D1.power, ws1, by first | rfl | go_num, ⟨by have := HI30.out; omega, by have := HI.out; have := HI30.out; omega⟩, HS25, ⟨rfl⟩, ⟨inv_power HIV1.out⟩⟩
              · obtain ⟨wk, hwk⟩ : ∃ v, v = ws1.getD k [] := ⟨_, rfl⟩
                rw [← hwk] at hsw hbw hcv
                have HBW := Aside0.mk hbw
                have HRC := Aside0.mk (WC.rcovers_ev pk wk HPO.out.1 hbw.1 (by have := hbw.2; omega))
                have HCV := Aside0.mk hcv
                have hss : sw.size = 256 := by rw [hsw, strOfNums_size]; exact hbw.2
                have hsl : (sw.toList = []) = False := by
                  refine eq_false fun h => ?_
                  have : sw.toList.length = 0 := by rw [h]; rfl
                  rw [ByteArray.toList_eq, Array.length_toList] at this
                  have h2 : sw.data.size = 256 := hss
                  omega
                have kb_ : ∀ W, (convert 9 38 (.string sw)).run Try.prog W = .ok (.slice (some ⟨W.heap.size, 0, none⟩) 256 (grownCap W 256 0 5)) (Lib.bytesWorld W 5 sw) := fun W => by have := print_bytes (P := Try.prog) 9 38 5 Try.underlying9 Try.underlying38 Try.underlying5 sw W; rwa [hss] at this
                have HCO : Aside0 (∀ W', Below w25.heap.size w25 W' → Calls Try.prog 22 #[.slice Ar 256 cr, .slice (some ⟨W'.heap.size, 0, none⟩) 256 (grownCap W' 256 0 5)] (Lib.bytesWorld W' 5 sw) fun e w' => e = .returned (.bool true) ∧ Below w25.heap.size w25 w') := ⟨fun W' hW => by
                  have hbb := bytes_below hW hW.size 5 sw
                  have hC2 : Kd.C (Kd.int .u8) (Lib.bytesWorld W' 5 sw) (some ⟨W'.heap.size, 0, none⟩) 256 wk := by rw [hsw]; exact text_C hbw
                  have hC1 := Kd.C_below RD.out.2 hbb
                  obtain ⟨K, hK⟩ := HRC.out
                  have h0 := hK K (Nat.le_refl _)
                  rw [decide_eq_true HCV.out] at h0
                  have k := wagtailref02_Covers.calls K Ar cr pk (some ⟨W'.heap.size, 0, none⟩) (grownCap W' 256 0 5) wk true _ (by rw [HPO.out.2]; exact hC1) (by rw [HPO.out.2]; exact RD.out.1) (by rw [HBW.out.2]; exact hC2) (by rw [HBW.out.2]; exact grownCap_ge W' 256 0 5) h0
                  rw [HPO.out.2, HBW.out.2] at k
                  exact k.mono fun e w' h => ⟨h.1, below_then hbb hbb.size h.2.below⟩⟩
                have HCOR := Aside0.mk (HCO.out w25 (Below.refl _ _))
                clear hwk hsw hbw hcv hss HCO HRC
                go_wp2_with (go_at_call 22; refine HCOR.out.mono ?_; rintro e w26 ⟨rfl, hb⟩; have HS26 := Aside0.mk (HS25.out.below hb); clear hb c8)
                go_roundg (gk - 1)
                case measure => have := HI.out; have := HI30.out; omega
                case rel => exact ⟨i + 1, D1.power, ws1, by first | rfl | go_num, ⟨by have := HI30.out; omega, by have := HI.out; have := HI30.out; omega⟩, HS26, ⟨rfl⟩, ⟨inv_power HIV1.out⟩⟩
end Go.Proofs.Ytnchdmidaigheaa.ND
namespace Go.Proofs.Ytnchdmidaigheaa.Hp
open Go.RowKit Go.Proofs.YtnchdmidaigheaaW.PrintWords Go.Proofs.YtnchdmidaigheaaW.PrintLast Go.Proofs.YtnchdmidaigheaaW.PrintMore
attribute [local go_sem] max2_int min2_int max_two min_two max_three min_three max_four min_four   -- for this text's walks alone
set_option linter.unusedVariables false
set_option linter.unusedSimpArgs false
open Classical in
noncomputable def wagtaillaw14_NandOneWay.f (p0 p1 p2 : Int) (bad : List Int) (fs : List S65) (l : List S40) : Option Bool := if l.length ≤ 9223372036854775807 ∧ (∀ f ∈ fs, isBytes f.f2) ∧ (∀ x ∈ l, isBytes x.f2) then some true else none
set_option maxHeartbeats 8000000 in
set_option maxRecDepth 100000 in
theorem wagtaillaw14_NandOneWay.calls (a0_0 : Int) (a0_1 : Int) (a0_2 : Int) (A0_3 : Option Addr) (c0_3 : Nat) (l0_3 : List Int) (A0_4 : Option Addr) (c0_4 : Nat) (l0_4 : List (S65)) (A1 : Option Addr) (c1 : Nat) (l1 : List (S40)) (r : Bool) (w : World) (hr0_3 : Kd.C (Kd.int .i64) w A0_3 l0_3.length l0_3) (hc0_3 : l0_3.length ≤ c0_3) (hr0_4 : Kd.C k65 w A0_4 l0_4.length l0_4) (hc0_4 : l0_4.length ≤ c0_4) (hr1 : Kd.C k40 w A1 l1.length l1) (hc1 : l1.length ≤ c1) (h : wagtaillaw14_NandOneWay.f a0_0 a0_1 a0_2 l0_3 l0_4 l1 = some r) :
    Calls Try.prog 3 #[.agg #[.int .i64 a0_0, .int .i64 a0_1, .int .i64 a0_2, .slice A0_3 l0_3.length c0_3, .slice A0_4 l0_4.length c0_4], .slice A1 l1.length c1] w fun e w' => e = .returned (.bool r) ∧ Below w.heap.size w w' := by
  unfold wagtaillaw14_NandOneWay.f at h
  by_cases hc : l1.length ≤ 9223372036854775807 ∧ (∀ f ∈ l0_4, isBytes f.f2) ∧ (∀ x ∈ l1, isBytes x.f2)
  case neg => rw [if_neg hc] at h; cases h
  rw [if_pos hc] at h
  obtain rfl := Option.some.inj h
  exact ND.oneway_calls a0_0 a0_1 a0_2 l0_3 l0_4 l1 A0_3 A0_4 A1 c0_3 c0_4 c1 hr0_3 hc0_3 hr0_4 hc0_4 hr1 hc.2.1 hc.2.2 hc.1
end Go.Proofs.Ytnchdmidaigheaa.Hp
namespace Go.Proofs.Ytnchdmidaigheaa.Hp
open Go.RowKit Go.Proofs.YtnchdmidaigheaaW.PrintWords
def ok23 (x : S23) : Prop := ((Lit.int .i64 x.f0).wf = true) ∧ ((Lit.int .i64 x.f1).wf = true) ∧ ((Lit.int .i64 x.f2).wf = true)
theorem tk23 : Tk Try.prog k23 23 ok23 :=
  Tk.imp (Tk.iso (Tk.struct Try.underlying23 (by kernel_rfl) (Tks.cons (Tk.int Try.underlying3) rfl (by kernel_rfl) (Tks.cons (Tk.int Try.underlying3) rfl (by kernel_rfl) (Tks.last (Tk.int Try.underlying3) rfl (by kernel_rfl))))) (fun x : S23 => (x.f0, x.f1, x.f2)) (fun p => ⟨p.1, p.2.1, p.2.2⟩) (fun _ => rfl)) (fun x h => h)
def ok65 (x : S65) : Prop := ((Lit.int .i64 x.f0).wf = true) ∧ ((Lit.int .i64 x.f1).wf = true) ∧ (x.f2.length ≤ 9223372036854775807 ∧ ∀ x_ ∈ x.f2, (Lit.int .u8 x_).wf = true)
theorem tk65 : Tk Try.prog k65 65 ok65 :=
  Tk.imp (Tk.iso (Tk.struct Try.underlying65 (by kernel_rfl) (Tks.cons (Tk.int Try.underlying3) rfl (by kernel_rfl) (Tks.cons (Tk.int Try.underlying3) rfl (by kernel_rfl) (Tks.last (Tk.slice (Tk.int Try.underlying5) Try.underlying38 (by kernel_rfl)) rfl (by kernel_rfl))))) (fun x : S65 => (x.f0, x.f1, x.f2)) (fun p => ⟨p.1, p.2.1, p.2.2⟩) (fun _ => rfl)) (fun x h => h)
def ok27 (x : S27) : Prop := (ok23 x.f0) ∧ (x.f1.length ≤ 9223372036854775807 ∧ ∀ x_ ∈ x.f1, (Lit.int .i64 x_).wf = true) ∧ (x.f2.length ≤ 9223372036854775807 ∧ ∀ x_ ∈ x.f2, ok65 x_)
theorem tk27 : Tk Try.prog k27 27 ok27 :=
  Tk.imp (Tk.iso (Tk.struct Try.underlying27 (by kernel_rfl) (Tks.cons tk23 rfl (by kernel_rfl) (Tks.cons (Tk.slice (Tk.int Try.underlying3) Try.underlying24 (by kernel_rfl)) rfl (by kernel_rfl) (Tks.last (Tk.slice tk65 Try.underlying25 (by kernel_rfl)) rfl (by kernel_rfl))))) (fun x : S27 => (x.f0, x.f1, x.f2)) (fun p => ⟨p.1, p.2.1, p.2.2⟩) (fun _ => rfl)) (fun x h => h)
def ok37 (x : S37) : Prop := ((Lit.int .i64 x.f0).wf = true) ∧ ((Lit.int .i64 x.f1).wf = true)
theorem tk37 : Tk Try.prog k37 37 ok37 :=
  Tk.imp (Tk.iso (Tk.struct Try.underlying37 (by kernel_rfl) (Tks.cons (Tk.int Try.underlying3) rfl (by kernel_rfl) (Tks.last (Tk.int Try.underlying3) rfl (by kernel_rfl)))) (fun x : S37 => (x.f0, x.f1)) (fun p => ⟨p.1, p.2⟩) (fun _ => rfl)) (fun x h => h)
def ok40 (x : S40) : Prop := ((Lit.int .i64 x.f0).wf = true) ∧ (ok37 x.f1) ∧ (x.f2.length ≤ 9223372036854775807 ∧ ∀ x_ ∈ x.f2, (Lit.int .u8 x_).wf = true)
theorem tk40 : Tk Try.prog k40 40 ok40 :=
  Tk.imp (Tk.iso (Tk.struct Try.underlying40 (by kernel_rfl) (Tks.cons (Tk.int Try.underlying3) rfl (by kernel_rfl) (Tks.cons tk37 rfl (by kernel_rfl) (Tks.last (Tk.slice (Tk.int Try.underlying5) Try.underlying38 (by kernel_rfl)) rfl (by kernel_rfl))))) (fun x : S40 => (x.f0, x.f1, x.f2)) (fun p => ⟨p.1, p.2.1, p.2.2⟩) (fun _ => rfl)) (fun x h => h)
end Go.Proofs.Ytnchdmidaigheaa.Hp
namespace Go.Proofs.Ytnchdmidaigheaa.Hp
open Go.RowKit Go.Proofs.YtnchdmidaigheaaW.PrintWords
def wagtaillaw14_NandOneWay.Pure : Prop := ∀ (x0 : S27) (l1 : List (S40)), (ok27 x0) → (l1.length ≤ 9223372036854775807 ∧ ∀ x_ ∈ l1, ok40 x_) → ∃ _k : Nat, wagtaillaw14_NandOneWay.f x0.f0.f0 x0.f0.f1 x0.f0.f2 x0.f1 x0.f2 l1 = some true
end Go.Proofs.Ytnchdmidaigheaa.Hp
namespace Go.Proofs.Ytnchdmidaigheaa.Pure
set_option linter.unusedVariables false
open Go.RowKit Go.Proofs.Ytnchdmidaigheaa.Hp Go.Proofs.YtnchdmidaigheaaW.PrintWords Go.Proofs.YtnchdmidaigheaaW.PrintLast
theorem NandOneWay : wagtaillaw14_NandOneWay.Pure := by
  intro x l hx hl
  exact ⟨0, if_pos ⟨hl.1, fun f hf y hy => bounds_u8 ((hx.2.2.2 f hf).2.2.2 y hy), fun a ha y hy => bounds_u8 ((hl.2 a ha).2.2.2 y hy)⟩⟩
end Go.Proofs.Ytnchdmidaigheaa.Pure
namespace Go.Proofs.YtnchdmidaigheaaW.PrintWords
open Go.ChangeShapes Go.WideShapes
end Go.Proofs.YtnchdmidaigheaaW.PrintWords
namespace Go.Proofs.Ytnchdmidaigheaa.nandOneWay
open Go.ChangeShapes Go.WideShapes Go.ChangeAt Go.RowKit Go.Proofs.YtnchdmidaigheaaW.PrintWords Go.Proofs.Ytnchdmidaigheaa.Hp
open Go.ChangeMaps (open_string shut_string)
set_option linter.unusedVariables false
set_option linter.unusedSimpArgs false
theorem own : ownKnob Try.prog.godebug = none := by kernel_rfl
theorem laidOut : laidOutB Try.prog = true := by kernel_rfl
set_option maxRecDepth 100000 in
theorem lifted (os : Os) (started : os.Started) (H : Type) (enc : TypeId × Value → H) :
    ReturnsInHanded {} Try.checked os 3 .any (Rows.nandOneWaySpec.pre6 enc Try.prog Try.f3 Rows.nandOneWayRow.domain false) (Rows.nandOneWaySpec.post enc Try.prog Try.f3 false true false false) := by
  refine returnsInHanded_of_change_sized (C := Try.checked) own started (by kernel_rfl) Try.func3
    (ChangeSpec.witness6 (enc := enc) (C := Try.checked) false ⟨#[], #[.agg #[.int .i64 0, .int .i64 0, .int .i64 0, .slice none 0 0, .slice none 0 0], .slice none 0 0], []⟩ 8 (by kernel_rfl) (by kernel_rfl) (by kernel_rfl) (by kernel_rfl)) ?_
  intro W base args ds gs before hval0 hW hcnd hsz0 _
  have hsz : (DataW.weightsEach Try.prog (Try.f3.params.toList ++ Rows.nandOneWaySpec.plain.varTypes Try.prog) (ds ++ gs)).all (· ≤ reachBytes) = true := hsz0
  have hval : ∀ (j : Nat) t v, Try.f3.params[j]? = some t → args[j]? = some v → Value.okWide Try.prog W .any base t v := hval0
  have hW' := hW
  obtain ⟨p, q, hA0, hV, rfl, hfz, hnd⟩ := hW
  have hA : DataW.TrodAll enc Try.prog W 0 (fun _ => true) true Try.f3.params.toList args.toList ds p := hA0
  rw [Try.params3] at hA hval hsz
  obtain ⟨v0, vs0, d0, ds0, p0, q0, hargs, rfl, rfl, h0, r0⟩ := trodAll_cons hA
  obtain ⟨v1, vs1, d1, ds1, p1, q1, rfl, rfl, rfl, h1, r1⟩ := trodAll_cons r0
  obtain ⟨rfl, rfl, rfl⟩ := trodAll_nil r1
  obtain rfl : args = #[v0, v1] := by cases args; simp_all
  obtain ⟨rfl, rfl⟩ := trodVars_none hV
  have k0 := h0
  have lt0 : ∀ x ∈ p0, x.block < W.heap.size := by obtain ⟨m, hm⟩ := k0; exact DataW.trod_lt m _ _ _ hm
  obtain ⟨cs0, rfl, _⟩ := okWide_struct Try.underlying27 (hval 0 27 v0 rfl rfl)
  obtain ⟨x0, z0, g0⟩ := (show ∃ y, k27.K W y cs0.toList ∧ ok27 y from by obtain ⟨fuel, hf⟩ := h0; exact tk27.go hf)
  obtain ⟨A3_0, c3_0, A4_0, c4_0, e0, y0_0, y0_1, y0_2, y0_3⟩ := k27_open z0
  obtain rfl : cs0 = #[.int .i64 x0.f0.f0, .int .i64 x0.f0.f1, .int .i64 x0.f0.f2, .slice A3_0 x0.f1.length c3_0, .slice A4_0 x0.f2.length c4_0] := by cases cs0; simpa using e0
  have k1 := h1
  have lt1 : ∀ x ∈ p1, x.block < W.heap.size := by obtain ⟨m, hm⟩ := k1; exact DataW.trod_lt m _ _ _ hm
  obtain ⟨a1, len1, cap1, rfl⟩ := okWide_slice Try.underlying28 (hval 1 28 v1 rfl rfl)
  obtain ⟨l1, ⟨A1, c1, e1, hc1, hr1⟩, g1⟩ := (show ∃ y, (Kd.slice 40 k40).K W y [.slice a1 len1 cap1] ∧ (y.length ≤ 9223372036854775807 ∧ ∀ x_ ∈ y, ok40 x_) from by obtain ⟨fuel, hf⟩ := h1; exact ((Tk.slice tk40 Try.underlying28 (by kernel_rfl))).go hf)
  injection e1 with e1
  injection e1 with ea1 el1 ec1
  subst ea1 el1 ec1
  clear hA0 hval0 hsz0 hsz
  obtain ⟨kk, hk⟩ := Pure.NandOneWay x0 l1 g0 g1
  refine (wagtaillaw14_NandOneWay.calls x0.f0.f0 x0.f0.f1 x0.f0.f2 A3_0 c3_0 x0.f1 A4_0 c4_0 x0.f2 a1 cap1 l1 true W y0_1 y0_0 y0_3 y0_2 hr1 hc1 hk).mono fun e W' ⟨he, bel0⟩ => ?_
  have bel : Below W.heap.size W W' := bel0
  subst he
  exact ⟨_, rfl, _, _, _, [], _, [], hW', trodAll_mk1 (shut_bool Try.underlying4 _), (trodAll_cons_mk (Below.trod laidOut (by kernel_rfl) (of_decide_eq_true (by kernel_rfl)) k0 bel lt0) (trodAll_cons_mk (Below.trod laidOut (by kernel_rfl) (of_decide_eq_true (by kernel_rfl)) k1 bel lt1) trodAll_mk0)), rfl, bel.frame _, fun h => by cases h⟩
theorem over : Rows.nandOneWayRow.holds Try.pinned (OpenSpec.ofChange Rows.nandOneWaySpec) :=
  OpenClaim.holds_of_wide 3 Try.f3 rfl rfl rfl rfl rfl rfl rfl ⟨rfl, rfl, rfl, rfl, rfl⟩ rfl rfl rfl rfl rfl (by kernel_rfl) Try.func3 (by kernel_rfl)
    (of_decide_eq_true (by kernel_rfl)) (by unfold Func.isWrapper; first | (rw [if_pos (by decide +kernel)]; kernel_rfl) | (rw [if_neg (by decide +kernel)]; exact ⟨rfl, rfl⟩))
    (fun os started H enc _ => lifted os started H enc)
theorem proved : Rows.NandOneWaySaid := over
#print axioms proved
end Go.Proofs.Ytnchdmidaigheaa.nandOneWay
namespace Go.Proofs.Ytnchdmidaigheaa
theorem nandOneWay_holds : Rows.NandOneWaySaid := nandOneWay.proved
end Go.Proofs.Ytnchdmidaigheaa
