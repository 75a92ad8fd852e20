/- Parts of the proof of the statement ScanBlocks, laid together (10 of 10). -/
import Derived.OpenShut
import Derived.SizedLaws
import Derived.ChangeSlices
import Derived.Test.YtnchdmidaigheaaRows
import Derived.WalkKit
import Derived.ProofKit
import Derived.ShutString
import Derived.ChangeOld
import Derived.Below
import Derived.Test.YtnchdmidaigheaaZScanBlocks8
namespace Go.Proofs.Ytnchdmidaigheaa.GS
set_option linter.unusedVariables false
set_option linter.unusedSimpArgs false
open Go.RowKit Go.Proofs.Ytnchdmidaigheaa.Hp Go.Proofs.YtnchdmidaigheaaW.PrintWords Go.Proofs.YtnchdmidaigheaaW.PrintLast Go.Proofs.YtnchdmidaigheaaW.PrintMore
open Go.Proofs.Ytnchdmidaigheaa.QS (Kp)
theorem RowF.C {W : World} {g : Nat} {l : List Fd} (h : RowF W g l) (hl : l.length ≤ 2000) : Kd.C k94 W (some ⟨g, 0, none⟩) l.length l := by
 refine ⟨rfl, by omega, fun h0 => ⟨_, rfl, fun i x hx => ?_⟩⟩; obtain ⟨cs, hz, hc⟩ := h; refine ⟨encF x, rfl, k94_mk W x, fun k u hu => ?_⟩; have hk : k < 9 := (List.getElem?_eq_some_iff.1 hu).1; have e := hc i x hx k hk; rw [add_plain, blk_cell hz, show i * k94.sz + k = i * 9 + k from rfl, e]; exact hu
def ofL (k : Int) (l : List Fd) : List Fd := l.filter fun x => x.f0.f0 == k
theorem kept_of (k : Int) (l : List Fd) : kept (fun x => x.f0.f0 != k) l = ofL k l := by
 unfold kept ofL
 congr 1
 funext x
 cases h : (x.f0.f0 == k) <;> simp [bne, h]
def OfTo (w w' : World) (e : Ending) (l : List Fd) : Prop := ∃ A c, e = .returned (.slice A l.length c) ∧ (l.length ≤ c ∧ Kd.C k94 w' A l.length l) ∧ Below w.heap.size w w'
set_option maxHeartbeats 4000000 in
set_option maxRecDepth 100000 in
theorem of_calls (k : Int) (l : List Fd) (A : Option Addr) (c : Nat) (w : World) (hn : l.length ≤ 2000) (hC : Kd.C k94 w A l.length l) :
  Calls Try.prog 59 #[.slice A l.length c, .int .i64 k] w fun e w' => OfTo w w' e (ofL k l) := by
 have HN := aK hn; have hz := heap_alloc_new w (.cells #[.int .i64 k] 3); have hb := below_alloc (Below.refl w.heap.size w) (.cells #[.int .i64 k] 3); have HCL := aK (fclone_calls A c l _ (by omega) (Kd.C_below hC hb)); obtain ⟨gb, hgb⟩ : ∃ g, g = w.heap.size := ⟨_, rfl⟩; clear hn hC; go_enter Try.func59, Try.ntmps59; go_upto_region 1 with fail; generalize w.alloc (.cells #[.int .i64 k] 3) = W1 at hz hb HCL ⊢; rw [← hgb] at hz ⊢; have HGB := aK hgb; have HZ := aK hz; have HB := aK hb; clear hz hb hgb
 rcases Nat.eq_zero_or_pos l.length with h0 | h0
 ·
  obtain rfl := List.eq_nil_of_length_eq_zero h0; clear h0; have HDN := aK fdel_nil; go_wp2_with (first | (go_at_call 99; refine HCL.out.mono ?_; rintro e w2 ⟨v, rfl, hR, hb⟩; obtain ⟨A2, c2, hv⟩ := Kd.R_slice hR; subst hv; have HB2 := aK (below_then HB.out HB.out.size hb); clear hb hR) | (go_at_call 98; refine (HDN.out _ _ _ _).mono ?_; rintro e w3 ⟨rfl, hb⟩; have HB3 := aK (below_then HB2.out HB2.out.size hb); clear hb)); go_ret; exact ⟨_, _, rfl, ⟨Nat.zero_le _, rfl, Nat.zero_le _, fun h => absurd h (Nat.lt_irrefl _)⟩, HB3.out⟩
 ·
  have HL := aK h0; clear h0; have HFD : Aside0 (∀ (g c2 : Nat) (W2 : World), l.length ≤ c2 → RowF W2 g l → W2.heap[gb]? = some (.cells #[.int .i64 k] 3 (0, 0)) → g ≠ gb → Calls Try.prog 98 #[.slice (some ⟨g, 0, none⟩) l.length c2, .func (.func 100) #[] #[.pointer (some ⟨gb, 0, none⟩)]] W2 fun e w' => e = .returned (.slice (some ⟨g, 0, none⟩) (ofL k l).length c2) ∧ RowF w' g (ofL k l) ∧ Kp g W2 w') := ⟨fun g c2 W2 hc hR hz hne => by
   have k := fdel_calls 100 _ #[.pointer (some ⟨gb, 0, none⟩)] Try.func100 (by kernel_rfl) rfl (fun x => x.f0.f0 != k) l g c2 W2 HN.out hc hR (fun W hW x => of_fn x W (blk_cell ((hW.block gb (blk_lt hz) hne.symm).trans hz) 0))
   rwa [kept_of] at k⟩
  go_wp2_with (first | (go_at_call 99; refine HCL.out.mono ?_; rintro e w2 ⟨v, rfl, hR, hb⟩; obtain ⟨g, c2, hv, hc2, hg, hF⟩ := found_row hR HL.out; subst hv; have HB2 := aK (below_then HB.out HB.out.size hb); have HZ2 := aK (blk_below HZ.out hb); have HF2 := aK (And.intro hc2 (And.intro hg hF)); clear hb hR hc2 hg hF) | (go_at_call 98; refine (HFD.out g c2 _ HF2.out.1 HF2.out.2.2 HZ2.out (by have := blk_lt HZ.out; have := HF2.out.2.1; omega)).mono ?_; rintro e w3 ⟨rfl, hR, hK⟩; have HR3 := aK hR; have HK3 := aK hK; clear hR hK)); go_ret; have hlen : (ofL k l).length ≤ l.length := by unfold ofL; exact List.length_filter_le _ _
  exact ⟨_, _, rfl, ⟨Nat.le_trans hlen HF2.out.1, HR3.out.C (Nat.le_trans hlen HN.out)⟩, HB2.out.trans (HK3.out.to_below (by have := HF2.out.2.1; have := HB.out.size; omega) HB2.out.size)⟩
end Go.Proofs.Ytnchdmidaigheaa.GS
namespace Go.Proofs.Ytnchdmidaigheaa.GS
set_option linter.unusedVariables false
set_option linter.unusedSimpArgs false
open Go.RowKit Go.Proofs.Ytnchdmidaigheaa.Hp Go.Proofs.YtnchdmidaigheaaW.PrintWords Go.Proofs.YtnchdmidaigheaaW.PrintLast Go.Proofs.YtnchdmidaigheaaW.PrintMore
open Go.Proofs.Ytnchdmidaigheaa.ND (Dv DV XV Lay XLay Two xtop_cells lightP rightG Flt own_moved)
open Go.Proofs.Ytnchdmidaigheaa.PG (cls)
theorem ints_loop (l : List Int) (hl : l.length ≤ 100000) : ∀ (d i : Nat), i + d = l.length → Ev (fun k => wagtailref01_Ints.l0 k l l (i : Int)) true
 | 0, i, hd => by
  refine Ev.step (f := fun _ => some true) (fun k => ?_) (Ev.now _); simp only [wagtailref01_Ints.l0]; rw [if_neg (by omega)]
 | d + 1, i, hd => by
  have e2 : wrap64 ((i : Int) + 1) = ((i + 1 : Nat) : Int) := by unfold wrap64; omega
  refine Ev.step (fun k => ?_) (ints_loop l hl d (i + 1) (by omega)); simp only [wagtailref01_Ints.l0]; rw [if_pos (by omega), if_pos (by omega), if_pos (by omega), e2]; simp
theorem ints_same {W : World} {A B : Option Addr} {c d : Nat} {l : List Int} (h1 : l.length ≤ c ∧ Kd.C (Kd.int .i64) W A l.length l) (h2 : l.length ≤ d ∧ Kd.C (Kd.int .i64) W B l.length l) (hl : l.length ≤ 100000) :
  Calls Try.prog 57 #[.slice A l.length c, .slice B l.length d] W fun e w' => e = .returned (.bool true) ∧ Below W.heap.size W w' := by
 obtain ⟨K, hK⟩ := ints_loop l hl l.length 0 (by omega); exact (wagtailref01_Ints.calls K A c l B d l true W h1.2 h1.1 h2.2 h2.1 (by unfold wagtailref01_Ints.f; rw [if_pos rfl]; exact hK K (Nat.le_refl _))).mono fun e w' h => ⟨h.1, h.2.below⟩
theorem class_calls {l : List Int} (hb : isBytes l) (st : ByteArray) (hst : st = strOfNums l) (W : World) :
  Calls Try.prog 56 #[.string st] W fun e w' => e = .returned (.int .i64 (cls l)) ∧ Below W.heap.size W w' := by
 subst hst; obtain ⟨K, hK⟩ := PG.rclass_ev l hb; exact wagtailref15_Class.calls K _ _ W (hK K (Nat.le_refl _))
theorem blank_away {D : Dv} (h : D.Ok) (hd : D.down = false) {b : Int} (hb : D.there b = false) : blankL D b = false := by
 unfold blankL; refine blankTo_no D b (k := 1) ?_ (by have := h.p1; omega); unfold blankTo Dv.read Dv.here; rw [show List.range 1 = [0] from rfl]; simp [hd, hb]
def Rows2 (w : World) (base : Nat) (u v : Value) (l m : List Int) : Prop := (Kd.int .i64).R 3 w base (fun k => base ≤ k) u l ∧ (Kd.int .i64).R 3 w base (fun k => base ≤ k) v m ∧ ∀ k, u.ownBlock = some k → v.ownBlock ≠ some k
theorem Rows2.below {w w' : World} {base : Nat} {u v : Value} {l m : List Int} (h : Rows2 w base u v l m) (hb : Below w.heap.size w w') : Rows2 w' base u v l m := ⟨Kd.R_below h.1 hb, Kd.R_below h.2.1 hb, h.2.2⟩
theorem Rows2.symm {w : World} {base : Nat} {u v : Value} {l m : List Int} (h : Rows2 w base u v l m) : Rows2 w base v u m l := ⟨h.2.1, h.1, fun k hv hu => h.2.2 k hu hv⟩
theorem Rows2.app {w w' : World} {base : Nat} {u u' v : Value} {l l' m : List Int} (h : Rows2 w base u v l m) (hR : (Kd.int .i64).R 3 w' base (fun k => base ≤ k) u' l') (hg : w.grownBy w' u.ownBlock) (hat : u'.ownBlock = u.ownBlock ∨ ∃ b, u'.ownBlock = some b ∧ w.heap.size ≤ b) : Rows2 w' base u' v l' m := by
 refine ⟨hR, Kd.R_of_own (own_moved (Kd.own_of_R h.2.1) fun k hk hlt => hg.block k hlt (fun he => h.2.2 k he.symm hk)) h.2.1.1, fun k hk hv => ?_⟩
 rcases hat with hat | ⟨b, hb, hle⟩
 ·
  exact h.2.2 k (by rw [← hat]; exact hk) hv
 ·
  have := Kd.R_lt h.2.1 k hv; rw [hb] at hk; injection hk with hk; omega
theorem ofL_snoc (k : Int) (l : List Fd) {i : Nat} {x : Fd} (h : l[i]? = some x) : ofL k (l.take (i + 1)) = ofL k (l.take i) ++ (if (x.f0.f0 == k) = true then [x] else []) := by
 unfold ofL; rw [List.take_add_one, h, List.filter_append]
 cases hx : (x.f0.f0 == k) <;> simp [hx]
theorem ofL_len (k : Int) (l : List Fd) (i : Nat) : (ofL k (l.take i)).length ≤ i := by
 unfold ofL; have := List.length_filter_le (fun x : Fd => x.f0.f0 == k) (l.take i); rw [List.length_take] at this; omega
def sb17.T17 : Bool × List (List Nat × List Nat) := (true, [([], []), ([0], [0]), ([1], [1]), ([2], [2]), ([], []), ([], []), ([5], [5]), ([6], [6]), ([4, 7], [4, 7]), ([], []), ([8, 9], [8, 9]), ([3, 10], [3, 10]), ([11], [11]), ([12], [12]), ([13], [13]), ([14, 13, 0, 1, 2, 3, 4, 5, 6, 7, 8, 9, 10, 11, 12, 13, 14], [14])])
def sb17.B17 : List Nat := [0, 1, 3, 7, 0, 0, 32, 96, 240, 0, 1008, 2047, 4095, 8191, 16383, 32767]
theorem sb17.tab17 : rtab .any (opsOf Try.f10 17) = sb17.T17 := by kernel_rfl
theorem sb17.bits17 : waitsOk sb17.T17.2 sb17.B17 = true := by kernel_rfl
set_option maxHeartbeats 4000000 in
set_option maxRecDepth 100000 in
theorem scanBlocks_calls {W : World} (B P C xb : Int) (bad : List Int) (fs : List Flt) (l : List LayT) (Ab Af Al : Option Addr) (cb cf cl : Nat) (hb : Kd.C (Kd.int .i64) W Ab bad.length bad) (hcb : bad.length ≤ cb) (hf : Kd.C k65 W Af fs.length fs) (hcf : fs.length ≤ cf) (hl : Kd.C k132 W Al l.length l)
  (hfm : ∀ f ∈ fs, isBytes f.f2) (hlm : ∀ x ∈ l, 0 ≤ x.f1.f3 ∧ 0 ≤ x.f1.f4) (hll : l.length ≤ 9223372036854775807) :
  Calls Try.prog 10 #[.agg #[.int .i64 B, .int .i64 P, .int .i64 C, .slice Ab bad.length cb, .slice Af fs.length cf], .slice Al l.length cl, .int .i64 xb] W fun e w' => e = .returned (.bool true) ∧ Below W.heap.size W w' := by
 have HIN := aK (And.intro hb (And.intro hcb (And.intro hf (And.intro hcf (And.intro hl (And.intro hfm (And.intro hlm hll))))))); have hz2 := heap_alloc_new W (.cells #[.int .i64 B, .int .i64 P, .int .i64 C, .slice Ab bad.length cb, .slice Af fs.length cf] 27); have hb2 := below_alloc (Below.refl W.heap.size W) (.cells #[.int .i64 B, .int .i64 P, .int .i64 C, .slice Ab bad.length cb, .slice Af fs.length cf] 27); obtain ⟨g2, hg2⟩ : ∃ g, g = W.heap.size := ⟨_, rfl⟩; clear hb hcb hf hcf hl hfm hlm hll; go_enter Try.func10, Try.ntmps10; go_upto_region 1 with fail; generalize W.alloc (.cells #[.int .i64 B, .int .i64 P, .int .i64 C, .slice Ab bad.length cb, .slice Af fs.length cf] 27) = W2 at hz2 hb2 ⊢; rw [← hg2] at hz2 ⊢; have HZ2 := aK hz2; have HB2 := aK hb2; clear hg2 hz2 hb2; go_upto_region 3 with (go_at_call 45; refine (awake18_calls _).mono ?_; rintro e w3 ⟨rfl, hb⟩; have HB3 := aK (below_then HB2.out HB2.out.size hb); have HZ3 := aK (blk_below HZ2.out hb); clear hb); have z0 := blk_cell HZ3.out 0; have z1 := blk_cell HZ3.out 1; have z2 := blk_cell HZ3.out 2; have z3 := blk_cell HZ3.out 3; have z4 := blk_cell HZ3.out 4; have HLC := aK (laid_calls (W := w3) B P C bad fs l Ab Af Al cb cf cl (Kd.C_below HIN.out.1 HB3.out) HIN.out.2.1 (Kd.C_below HIN.out.2.2.1 HB3.out) HIN.out.2.2.2.1 (Kd.C_below HIN.out.2.2.2.2.1 HB3.out) HIN.out.2.2.2.2.2.1 HIN.out.2.2.2.2.2.2.1 HIN.out.2.2.2.2.2.2.2); clear HB2 HZ2; go_upto_region 4 with (go_at_call 50; refine HLC.out.mono ?_; rintro e w4 ⟨hb4, he4⟩; rcases he4 with rfl | ⟨L, X, rfl, hD⟩)
 ·
  have HB4 := aK (below_then HB3.out HB3.out.size hb4); clear hb4 z0 z1 z2 z3 z4; go_wp2_with fail; go_ret; exact ⟨rfl, HB4.out⟩
 obtain ⟨D, hT, hdn, hDB, hDP, hDA⟩ := hD; have HZ4 := aK (blk_below HZ3.out hb4); have HB4 := aK (below_then HB3.out HB3.out.size hb4); have HT4 := aK hT; have HDN := aK hdn; have HOK : Aside0 D.Ok := ⟨by obtain ⟨ok, h⟩ := hT.left; exact h.ok⟩; obtain ⟨Pn, hPn⟩ := Int.eq_ofNat_of_zero_le (show 0 ≤ P by have := HOK.out.p1; omega); obtain ⟨Bn, hBn⟩ := Int.eq_ofNat_of_zero_le (show 0 ≤ B by have := HOK.out.b1; omega); subst hPn hBn; have HPP : Aside0 (D.P = (Pn : Int) ∧ D.B = (Bn : Int) ∧ 4 ≤ Pn ∧ Pn ≤ 32 ∧ 8 ≤ Bn ∧ Bn ≤ 34 ∧ D.bad = bad) := ⟨by have := HOK.out.p1; have := HOK.out.p2; have := HOK.out.b1; have := HOK.out.b2; exact ⟨hDP, hDB, by omega, by omega, by omega, by omega, hDA⟩⟩; have HLB : Aside0 (bad.length ≤ 1000) := ⟨by have := HOK.out.bl; rwa [hDA] at this⟩; obtain ⟨Ln, hLn⟩ : ∃ n, n = w4.heap.size := ⟨_, rfl⟩; clear hT hdn hDB hDP hDA hb4 z0 z1 z2 z3 z4 HLC HZ3 HB3
 go_upto_block 0 with fail
 go_wp2_with fail
 go_loopg [9, 10, 11] (Bn + 1) (fun kq v9 v10 v11 w' => ∃ (i c9 c10 : Nat) (A9 A10 : Option Addr), v9 = .slice A9 (someTo D false i).length c9 ∧ v10 = .slice A10 (someTo D true i).length c10 ∧ v11 = .int .i64 (i : Int) ∧ Aside0 (2 ≤ i ∧ i ≤ Bn ∧ kq + i = Bn + 3) ∧ Aside0 (Rows2 w' w4.heap.size (.slice A9 (someTo D false i).length c9) (.slice A10 (someTo D true i).length c10) (someTo D false i) (someTo D true i)) ∧ Aside0 (Below w4.heap.size w4 w'))
 case atStart => exact ⟨2, 0, 0, none, none, by rw [someTo_two]; rfl, by rw [someTo_two]; rfl, by first | rfl | go_num, ⟨Nat.le_refl _, by have := HPP.out; omega, by omega⟩, ⟨by rw [someTo_two, someTo_two]; exact ⟨Kd.R_nil _ _ _ _ _, Kd.R_nil _ _ _ _ _, fun k hk => by cases hk⟩⟩, ⟨Below.refl _ _⟩⟩
 case round =>
  obtain ⟨i, c9, c10, A9, A10, rfl, rfl, rfl, HI, HR, HB⟩ := hrel; have HZr := aK (blk_below HZ4.out HB.out); have z0 := blk_cell HZr.out 0; by_cases hi : i < Bn
  case neg =>
   have hie : i = Bn := by have := HI.out; omega
   have t1 : decide ((i : Int) < (Bn : Int)) = false := decide_eq_false (by omega); have t2 : decide (i < Bn) = false := decide_eq_false hi; have he1 : someTo D false i = someL D false := by unfold someL; rw [HPP.out.2.1, hie, Int.toNat_natCast]
   have he2 : someTo D true i = someL D true := by unfold someL; rw [HPP.out.2.1, hie, Int.toNat_natCast]
   rw [he1, he2] at HR ⊢; have HLN : Aside0 ((someL D false).length ≤ 1000 ∧ (someL D true).length ≤ 1000) := ⟨by rw [← he1, ← he2]; have := someTo_len D false i; have := someTo_len D true i; have := HPP.out; omega⟩; obtain ⟨gl, hgl⟩ : ∃ l, l = someL D false := ⟨_, rfl⟩; obtain ⟨ml, hml⟩ : ∃ l, l = someL D true := ⟨_, rfl⟩; rw [← hgl, ← hml] at HR HLN ⊢; have HGM := aK (And.intro hgl hml); obtain ⟨w7, hw7⟩ : ∃ w : World, w = wr := ⟨_, rfl⟩; subst hw7; have HB7 := aK (below_then HB4.out HB4.out.size HB.out); have HT7 := aK (HT4.out.below HB.out); have HZ7 := HZr; have HR7 := HR; clear he1 he2 hgl hml hi hie HR HB HZr HT4 HB4 HZ4; go_upto_region 13 with fail; clear t1 t2; obtain ⟨th, hth⟩ : ∃ b, b = D.there xb := ⟨_, rfl⟩; have HTH : Aside0 (th = (decide (0 ≤ xb) && decide (xb < (Bn : Int)))) := ⟨by rw [hth]; unfold Dv.there; rw [HPP.out.2.1]⟩; obtain ⟨bk, hbk⟩ : ∃ b, b = blankL D xb := ⟨_, rfl⟩; have HBK : Aside0 (bk = blankL D xb ∧ bk = (th && blankTo D xb Pn)) := ⟨hbk, by
    rw [hbk, hth]
    cases ht : D.there xb with
    | false => rw [blank_away HOK.out HDN.out ht]; rfl
    | true => unfold blankL; rw [HPP.out.1, Int.toNat_natCast]; rfl⟩
   have HTR := aK hth; clear hth hbk
   go_cut [12] (fun v12 wx => v12 = .bool th ∧ w7 = wx)
   case first =>
    cases a1 : decide (0 ≤ xb) with
    | false =>
     have ht : th = false := by rw [HTH.out, a1]; rfl
     subst ht; go_wp2_with fail
     go_meet
     exact ⟨rfl, rfl⟩
    | true =>
     cases a2 : decide (xb < (Bn : Int)) with
     | false =>
      have ht : th = false := by rw [HTH.out, a1, a2]; rfl
      subst ht; go_wp2_with fail
      go_meet
      exact ⟨rfl, rfl⟩
     | true =>
      have ht : th = true := by rw [HTH.out, a1, a2]; rfl
      subst ht; go_wp2_with fail
      go_meet
      exact ⟨rfl, rfl⟩
   case rest =>
   obtain ⟨rfl, hw⟩ := hcut; subst hw; clear z0
   go_upto_block 2 with fail
   go_cut [12, 13] (fun v12 v13 wx => v12 = .bool bk ∧ Aside0 (Below w7.heap.size w7 wx))
   case first =>
    go_wp2_with fail
    go_loopg [12, 13] (Pn + 1) (fun kq v12 v13 w' => ∃ (k : Nat) (bl : Bool), v12 = .bool bl ∧ v13 = .int .i64 (k : Int) ∧ Aside0 (k ≤ Pn ∧ kq + k = Pn + 1) ∧ Aside0 (bl = (th && blankTo D xb k)) ∧ Aside0 (Below w7.heap.size w7 w'))
    case atStart => exact ⟨0, th, rfl, by first | rfl | go_num, ⟨Nat.zero_le _, by omega⟩, ⟨by unfold blankTo; simp⟩, ⟨Below.refl _ _⟩⟩
    case round =>
     obtain ⟨k, bl, rfl, rfl, HI, HE, HB⟩ := hrel; have HZr := aK (blk_below HZ7.out HB.out); have z1 := blk_cell HZr.out 1; by_cases hk : k < Pn
     case neg =>
      have hke : k = Pn := by have := HI.out; omega
      have t1 : decide ((k : Int) < (Pn : Int)) = false := decide_eq_false (by omega); have t2 : decide (k < Pn) = false := decide_eq_false hk; have HF : Aside0 (Value.bool bl = .bool bk) := ⟨by rw [HE.out, HBK.out.2, hke]⟩; clear hk hke; go_wp2_with fail
      go_meet
      exact ⟨HF.out, HB⟩
     case pos =>
      have t1 : decide ((k : Int) < (Pn : Int)) = true := decide_eq_true (by omega); have t2 : decide (k < Pn) = true := decide_eq_true hk
      cases bl with
      | false =>
       have HF : Aside0 (Value.bool false = .bool bk) := ⟨by
        have h := HE.out; rw [HBK.out.2]
        cases th with
        | false => rfl
        | true => rw [Bool.true_and] at h ⊢; rw [blankTo_no D xb h.symm (Nat.le_of_lt hk)]⟩
       clear hk; go_wp2_with fail
       go_meet
       exact ⟨HF.out, HB⟩
      | true =>
       have hth : th = true := by have h := HE.out; cases th with | true => rfl | false => cases h
       have hbt : blankTo D xb k = true := by have h := HE.out; rw [hth, Bool.true_and] at h; exact h.symm
       have hthr : D.there xb = true := by rw [← HTR.out]; exact hth
       have hxr := ND.there_iff.1 hthr; obtain ⟨xn, hxn⟩ := Int.eq_ofNat_of_zero_le hxr.1; have hpp := HPP.out; have hxB : xn ≤ 34 := by omega
       have hh : D.here xb (k : Int) = true := ND.here_iff.2 ⟨hxr, by omega, by rw [HPP.out.1]; omega⟩; have hix := HOK.out.idx hh; obtain ⟨ix, hi⟩ : ∃ j, j = xn * Pn + k := ⟨_, rfl⟩; have hidx : D.idx xb (k : Int) = ix := by
        unfold Dv.idx; rw [HPP.out.1, hxn, show (xn : Int) * (Pn : Int) + (k : Int) = ((xn * Pn + k : Nat) : Int) by push_cast; rfl, Int.toNat_natCast, hi]
       rw [hidx] at hix; have hrd : D.read xb (k : Int) = (D.pages.getD ix [], 0) := by
        unfold Dv.read; rw [if_neg (by rw [HDN.out]; decide), if_neg (by rw [hh]; decide), hidx]
       have hpo := ND.page_ok HOK.out hix.2; obtain ⟨pl, hpl⟩ : ∃ p, p = D.pages.getD ix [] := ⟨_, rfl⟩; rw [← hpl] at hrd hpo; obtain ⟨st, hst⟩ : ∃ y, y = strOfNums pl := ⟨_, rfl⟩; obtain ⟨cn, hcn⟩ : ∃ c, c = cls pl := ⟨_, rfl⟩; obtain ⟨cz, hcz⟩ : ∃ c, c = (cn == 0) := ⟨_, rfl⟩; have HCC : Aside0 (∀ W', Calls Try.prog 56 #[.string st] W' fun e w' => e = .returned (.int .i64 cn) ∧ Below W'.heap.size W' w') := ⟨fun W' => by rw [hcn]; exact class_calls hpo.1 st hst W'⟩; have HWX := aK (idx_wrap xn k Pn ix hxB (by omega) (by omega) hi); have HPG : Aside0 (∀ w', Below w7.heap.size w7 w' → w'.cell? ⟨X.g, 4, none⟩ = some (.slice (some ⟨X.gp, 0, none⟩) D.pages.length X.cp) ∧ w'.cell? ⟨X.gp, ix, none⟩ = some (.string st)) := ⟨fun w' hw => by
        obtain ⟨okx, hX⟩ := (HT7.out.below hw).right; refine ⟨(xtop_cells hX).2.2.2.2.1, ?_⟩; rw [hst, hpl]; exact hX.pg.cell (by exact ND.texts_at hix.2)⟩
       have HLT := aK hix.2; have HN : Aside0 (cz = (th && blankTo D xb (k + 1))) := ⟨by rw [hth, Bool.true_and, blankTo_succ, hbt, hrd, Bool.true_and, hcz, hcn]; rfl⟩; have HK2 := aK hk; have HCZ := aK hcz; have hw9 : IntKind.i64.wrap ((k : Int) + 1) = (k : Int) + 1 := (ND.wrap_id (by omega) (by omega)).1; have HW9 := aK hw9; subst hxn; clear hth hbt hthr hxr hpp hxB hh hi hidx hix hrd hpo hpl hst hcn hcz hk hw9; have B0 := aK (below_drew1 (Below.refl wr.heap.size wr)); go_upto_region 17 with fail; refine start_ (n := 16) (S := fun w' => True) (ds := []) #[false, false, false, false, false, false, false, false, false, false, false, false, false, false, false, false] (by kernel_rfl) rfl rfl trivial (fun hHeld => ?_); refine with_tabW sb17.tab17 sb17.bits17 (fun HT_ HW_ => ?_); generalize wr.drew = wz at B0 hHeld ⊢; refine inv_at [0, 1, 2, 3, 4, 5, 6, 7, 8, 9, 10, 11, 12, 13, 14, 15] (fun a0_ b a w' => a = putSel a0_ b [(0, 69, .pointer (some ⟨X.g, 0, none⟩)), (1, 70, .pointer (some ⟨X.g, 0, none⟩)), (2, 71, .pointer (some ⟨X.g, 4, none⟩)), (3, 72, .slice (some ⟨X.gp, 0, none⟩) D.pages.length X.cp), (4, 73, .int .i64 (xn : Int)), (5, 74, .pointer (some ⟨g2, 0, none⟩)), (6, 75, .pointer (some ⟨g2, 1, none⟩)), (7, 76, .int .i64 (Pn : Int)), (8, 77, .int .i64 ((xn : Int) * (Pn : Int))), (9, 78, .int .i64 (k : Int)), (10, 79, .int .i64 (ix : Int)), (11, 80, .pointer (some ⟨X.gp, ix, none⟩)), (12, 81, .string st), (13, 82, .int .i64 cn), (14, 83, .bool cz), (15, 12, .bool cz)] ∧ (Below wr.heap.size wr w')) HT_.out HW_.out (by kernel_rfl) (by kernel_rfl) ?_ ?_ ?_
       ·
        exact ⟨by simp only [putSel, Bool.false_eq_true, if_false], B0.out⟩
       ·
        skip
        clear B0; refine steps_cons ?_ ?_; rintro b a w' ⟨ha, Q_B0⟩ hb_ hon hoff; refine ⟨_, rfl, fun K hK => ?_⟩; have e8 := q_f ha 8 rfl rfl; replace ha := aK ha; have B0 := aK Q_B0; refine q_v (.pointer (some ⟨X.g, 0, none⟩)) (by rfl) rfl ?_ ?_; (· (go_simp; (try simp only [i64_w]); try rfl)); refine hK.out _ _ ⟨q_u ha 0 hb_ rfl rfl rfl, Q_B0⟩; refine steps_cons ?_ ?_; rintro b a w' ⟨ha, Q_B0⟩ hb_ hon hoff; refine ⟨_, rfl, fun K hK => ?_⟩; have e69 := q_n ha hon 69 0 0 rfl; replace ha := aK ha; have B0 := aK Q_B0; refine q_v (.pointer (some ⟨X.g, 0, none⟩)) (by rfl) rfl ?_ ?_; (· (go_simp; (try simp only [i64_w]); try rfl)); refine hK.out _ _ ⟨q_u ha 1 hb_ rfl rfl rfl, Q_B0⟩; refine steps_cons ?_ ?_; rintro b a w' ⟨ha, Q_B0⟩ hb_ hon hoff; refine ⟨_, rfl, fun K hK => ?_⟩; have e70 := q_n ha hon 70 1 1 rfl; replace ha := aK ha; have B0 := aK Q_B0; refine q_v (.pointer (some ⟨X.g, 4, none⟩)) (by rfl) rfl ?_ ?_; (· (go_simp; (try simp only [i64_w]); try rfl)); refine hK.out _ _ ⟨q_u ha 2 hb_ rfl rfl rfl, Q_B0⟩; refine steps_cons ?_ ?_; rintro b a w' ⟨ha, Q_B0⟩ hb_ hon hoff; refine ⟨_, rfl, fun K hK => ?_⟩; have e71 := q_n ha hon 71 2 2 rfl; replace ha := aK ha; have B0 := aK Q_B0; have c_ := (HPG.out w' (below_then HB.out HB.out.size B0.out)).1; refine q_v (.slice (some ⟨X.gp, 0, none⟩) D.pages.length X.cp) (by rfl) rfl ?_ ?_; (· (go_simp; (try simp only [i64_w]); try rfl)); refine hK.out _ _ ⟨q_u ha 3 hb_ rfl rfl rfl, Q_B0⟩; refine steps_cons ?_ ?_; rintro b a w' ⟨ha, Q_B0⟩ hb_ hon hoff; refine ⟨_, rfl, fun K hK => ?_⟩; have e2 := q_f ha 2 rfl rfl; replace ha := aK ha; have B0 := aK Q_B0; refine q_v (.int .i64 (xn : Int)) (by rfl) rfl ?_ ?_; (· (go_simp; (try simp only [i64_w]); try rfl)); refine hK.out _ _ ⟨q_u ha 4 hb_ rfl rfl rfl, Q_B0⟩; refine steps_cons ?_ ?_; rintro b a w' ⟨ha, Q_B0⟩ hb_ hon hoff; refine ⟨_, rfl, fun K hK => ?_⟩; have e3 := q_f ha 3 rfl rfl; replace ha := aK ha; have B0 := aK Q_B0; refine q_v (.pointer (some ⟨g2, 0, none⟩)) (by rfl) rfl ?_ ?_; (· (go_simp; (try simp only [i64_w]); try rfl)); refine hK.out _ _ ⟨q_u ha 5 hb_ rfl rfl rfl, Q_B0⟩; refine steps_cons ?_ ?_; rintro b a w' ⟨ha, Q_B0⟩ hb_ hon hoff; refine ⟨_, rfl, fun K hK => ?_⟩; have e74 := q_n ha hon 74 5 5 rfl; replace ha := aK ha; have B0 := aK Q_B0; refine q_v (.pointer (some ⟨g2, 1, none⟩)) (by rfl) rfl ?_ ?_; (· (go_simp; (try simp only [i64_w]); try rfl)); refine hK.out _ _ ⟨q_u ha 6 hb_ rfl rfl rfl, Q_B0⟩; refine steps_cons ?_ ?_; rintro b a w' ⟨ha, Q_B0⟩ hb_ hon hoff; refine ⟨_, rfl, fun K hK => ?_⟩; have e75 := q_n ha hon 75 6 6 rfl; replace ha := aK ha; have B0 := aK Q_B0; have c0_ := blk_cell (blk_below HZr.out B0.out) 1; refine q_v (.int .i64 (Pn : Int)) (by rfl) rfl ?_ ?_; (· (go_simp; (try simp only [i64_w]); try rfl)); refine hK.out _ _ ⟨q_u ha 7 hb_ rfl rfl rfl, Q_B0⟩; refine steps_cons ?_ ?_; rintro b a w' ⟨ha, Q_B0⟩ hb_ hon hoff; refine ⟨_, rfl, fun K hK => ?_⟩; have e73 := q_n ha hon 73 4 4 rfl; have e76 := q_n ha hon 76 7 7 rfl; replace ha := aK ha; have B0 := aK Q_B0; have q0_ := HWX.out.1; have q1_ := HWX.out.2.1; refine q_v (.int .i64 ((xn : Int) * (Pn : Int))) (by rfl) rfl ?_ ?_; (· (go_simp; (try simp only [i64_w]); try rfl)); refine hK.out _ _ ⟨q_u ha 8 hb_ rfl rfl rfl, Q_B0⟩; refine steps_cons ?_ ?_; rintro b a w' ⟨ha, Q_B0⟩ hb_ hon hoff; refine ⟨_, rfl, fun K hK => ?_⟩; have e13 := q_f ha 13 rfl rfl; replace ha := aK ha; have B0 := aK Q_B0; refine q_v (.int .i64 (k : Int)) (by rfl) rfl ?_ ?_; (· (go_simp; (try simp only [i64_w]); try rfl)); refine hK.out _ _ ⟨q_u ha 9 hb_ rfl rfl rfl, Q_B0⟩; refine steps_cons ?_ ?_; rintro b a w' ⟨ha, Q_B0⟩ hb_ hon hoff; refine ⟨_, rfl, fun K hK => ?_⟩; have e77 := q_n ha hon 77 8 8 rfl; have e78 := q_n ha hon 78 9 9 rfl; replace ha := aK ha; have B0 := aK Q_B0; have q0_ := HWX.out.2.2.1; have q1_ := HWX.out.2.2.2; refine q_v (.int .i64 (ix : Int)) (by rfl) rfl ?_ ?_
        (· (go_simp; (try simp only [i64_w]); try rfl)); refine hK.out _ _ ⟨q_u ha 10 hb_ rfl rfl rfl, Q_B0⟩; refine steps_cons ?_ ?_; rintro b a w' ⟨ha, Q_B0⟩ hb_ hon hoff; refine ⟨_, rfl, fun K hK => ?_⟩; have e72 := q_n ha hon 72 3 3 rfl; have e79 := q_n ha hon 79 10 10 rfl; replace ha := aK ha; have B0 := aK Q_B0; have q0_ := eq_true (Int.natCast_nonneg ix); have q1_ := eq_true (Int.ofNat_lt.2 HLT.out); have q2_ := eq_true HLT.out; refine q_v (.pointer (some ⟨X.gp, ix, none⟩)) (by rfl) rfl ?_ ?_; (· (go_simp; (try simp only [i64_w]); try rfl)); refine hK.out _ _ ⟨q_u ha 11 hb_ rfl rfl rfl, Q_B0⟩; refine steps_cons ?_ ?_; rintro b a w' ⟨ha, Q_B0⟩ hb_ hon hoff; refine ⟨_, rfl, fun K hK => ?_⟩; have e80 := q_n ha hon 80 11 11 rfl; replace ha := aK ha; have B0 := aK Q_B0; have c_ := (HPG.out w' (below_then HB.out HB.out.size B0.out)).2; refine q_v (.string st) (by rfl) rfl ?_ ?_; (· (go_simp; (try simp only [i64_w]); try rfl)); refine hK.out _ _ ⟨q_u ha 12 hb_ rfl rfl rfl, Q_B0⟩; refine steps_cons ?_ ?_; rintro b a w' ⟨ha, Q_B0⟩ hb_ hon hoff; refine ⟨_, rfl, fun K hK => ?_⟩; have e81 := q_n ha hon 81 12 12 rfl; replace ha := aK ha; have B0 := aK Q_B0; refine goes_ Try.func56 (by kernel_rfl) rfl #[.string st] (by rfl) rfl rfl (by (simp only [List.map_toArray, List.map_cons, List.map_nil, Act.eval, Array.getD_eq_getD_getElem?, Option.getD_some, e81]) <;> rfl) ?_; (with_reducible refine (HCC.out _).mono ?_); rintro e w2 ⟨rfl, hb⟩; refine ⟨_, rfl, ?_⟩; refine hK.out _ _ ⟨q_u ha 13 hb_ rfl rfl rfl, below_then B0.out B0.out.size hb⟩; refine steps_cons ?_ ?_; rintro b a w' ⟨ha, Q_B0⟩ hb_ hon hoff; refine ⟨_, rfl, fun K hK => ?_⟩; have e82 := q_n ha hon 82 13 13 rfl; replace ha := aK ha; have B0 := aK Q_B0; have q_ := HCZ.out; refine q_v (.bool cz) (by rfl) rfl ?_ ?_; (· (go_simp; (try simp only [i64_w]); try rfl)); refine hK.out _ _ ⟨q_u ha 14 hb_ rfl rfl rfl, Q_B0⟩; refine steps_cons ?_ ?_; rintro b a w' ⟨ha, Q_B0⟩ hb_ hon hoff; refine ⟨_, rfl, fun K hK => ?_⟩; have e83 := q_n ha hon 83 14 14 rfl; replace ha := aK ha; have B0 := aK Q_B0; refine q_v (.bool cz) (by rfl) rfl ?_ ?_; (· (go_simp; (try simp only [i64_w]); try rfl)); refine hK.out _ _ ⟨q_u ha 15 hb_ rfl rfl rfl, Q_B0⟩; exact steps_nil
       rintro b a w17 hall ⟨ha, Q_B0⟩; clear B0; subst ha; rw [q_a hall]; rotate_left
       ·
        kernel_rfl
       simp only [List.foldl_cons, List.foldl_nil, Act.put, List.setIfInBounds_toArray, List.set_cons_zero, List.set_cons_succ]; have B0 := aK Q_B0; clear Q_B0; clear hall; have HB2 := aK (below_then HB.out HB.out.size B0.out); have hw9 := HW9.out; go_wp2_with fail; go_roundg (Pn - k)
       case measure => have := HI.out; have := HK2.out; omega
       case rel => exact ⟨k + 1, cz, rfl, by first | rfl | go_num, ⟨by have := HK2.out; omega, by have := HI.out; have := HK2.out; omega⟩, HN, HB2⟩
   case rest =>
   obtain ⟨rfl, HB8⟩ := hcut; obtain ⟨w8, hw8⟩ : ∃ w : World, w = wc := ⟨_, rfl⟩; subst hw8; have HT8 := aK (HT7.out.below HB8.out); have HR8 := aK (HR7.out.below HB8.out); have HBB8 := aK (below_then HB7.out HB7.out.size HB8.out); obtain ⟨okx, hXV⟩ := HT8.out.right; have HXC := aK (xall_calls hXV HDN.out); clear hXV HT7 HR7 HB7 HZ7; go_upto_region 19 with (go_at_call 51; refine HXC.out.mono ?_; rintro e w9 ⟨v9, rfl, hR, hb⟩; obtain ⟨Aa, ca, hva, hla, hCa⟩ := Kd.R_reads hR; subst hva; have HA9 := aK (And.intro hla hCa); have HT9 := aK (HT8.out.below hb); have HR9 := aK (HR8.out.below hb); have HB9 := aK (below_then HBB8.out HBB8.out.size hb); clear hb hR hla hCa); have HLA : Aside0 ((allL D).length ≤ 2000) := ⟨by have := allTo_len HOK.out D.B.toNat; have := HOK.out.b2; unfold allL; omega⟩; obtain ⟨al, hal⟩ : ∃ l, l = allL D := ⟨_, rfl⟩; rw [← hal] at HA9 HLA ⊢; clear hal HXC HT8 HR8 HBB8 HB8
   go_upto_block 4 with fail
   go_wp2_with fail
   go_loopg [15, 16] (al.length + 1) (fun kq v15 v16 w' => ∃ (i c : Nat) (A : Option Addr), v15 = .slice A (ofL xb (al.take i)).length c ∧ v16 = .int .i64 (i : Int) ∧ Aside0 (i ≤ al.length ∧ kq + i = al.length + 1) ∧ Aside0 (k94.R 94 w' w9.heap.size (fun k => w9.heap.size ≤ k) (.slice A (ofL xb (al.take i)).length c) (ofL xb (al.take i))) ∧ Aside0 (Below w9.heap.size w9 w'))
   case atStart => exact ⟨0, 0, none, by first | rfl | simp [ofL], by first | rfl | go_num, ⟨Nat.zero_le _, by omega⟩, ⟨by rw [List.take_zero]; exact Kd.R_nil _ _ _ _ _⟩, ⟨Below.refl _ _⟩⟩
   case round =>
    obtain ⟨i, c, A, rfl, rfl, HI, HO, HB⟩ := hrel; by_cases hi : i < al.length
    case neg =>
     have hie : i = al.length := by have := HI.out; omega
     have t1 : decide ((i : Int) < ((al.length : Nat) : Int)) = false := decide_eq_false (by omega); have t2 : decide (i < al.length) = false := decide_eq_false hi; have hot : ofL xb (al.take i) = ofL xb al := by rw [hie, List.take_length]
     rw [hot] at HO ⊢; have HLO : Aside0 ((ofL xb al).length ≤ 2000) := ⟨by have := ofL_len xb al al.length; rw [List.take_length] at this; have := HLA.out; omega⟩; obtain ⟨oo, hoo⟩ : ∃ l, l = ofL xb al := ⟨_, rfl⟩; rw [← hoo] at HO HLO ⊢; have HOO := aK hoo; have HTr := aK (HT9.out.below HB.out); have HRr := aK (HR9.out.below HB.out); have HBr := aK (below_then HB9.out HB9.out.size HB.out); have HGC : Aside0 (∀ w', Below wr.heap.size wr w' → (gl.length ≤ c9 ∧ Kd.C (Kd.int .i64) w' A9 gl.length gl) ∧ (ml.length ≤ c10 ∧ Kd.C (Kd.int .i64) w' A10 ml.length ml) ∧ (oo.length ≤ c ∧ Kd.C k94 w' A oo.length oo) ∧ (al.length ≤ ca ∧ Kd.C k94 w' Aa al.length al)) := ⟨fun w' hw => by
      obtain ⟨B1, b1, h1, h2, h3⟩ := Kd.R_reads (HRr.out.below hw).1; obtain ⟨B2, b2, h4, h5, h6⟩ := Kd.R_reads (HRr.out.below hw).2.1; obtain ⟨B3, b3, h7, h8, h9⟩ := Kd.R_reads (Kd.R_below HO.out hw); injection h1 with e1 e2 e3; injection h4 with e4 e5 e6; injection h7 with e7 e8 e9; subst e1 e3 e4 e6 e7 e9; exact ⟨⟨h2, h3⟩, ⟨h5, h6⟩, ⟨h8, h9⟩, HA9.out.1, Kd.C_below HA9.out.2 (below_then HB.out HB.out.size hw)⟩⟩
     have HBC : Aside0 (∀ w', Below wr.heap.size wr w' → Calls Try.prog 49 #[.pointer (some ⟨L.g, 0, none⟩)] w' fun e w2 => RowTo w' w2 e gl) := ⟨fun w' hw => by
      obtain ⟨ok, hD⟩ := (HTr.out.below hw).left; rw [HGM.out.1]; exact blocks_calls hD⟩
     have HMC : Aside0 (∀ w', Below wr.heap.size wr w' → Calls Try.prog 58 #[.pointer (some ⟨L.g, 0, none⟩)] w' fun e w2 => RowTo w' w2 e ml) := ⟨fun w' hw => by
      obtain ⟨ok, hD⟩ := (HTr.out.below hw).left; rw [HGM.out.2]; exact marked_calls hD⟩
     have HKC : Aside0 (∀ w', Below wr.heap.size wr w' → Calls Try.prog 48 #[.pointer (some ⟨L.g, 0, none⟩), .int .i64 xb] w' fun e w2 => e = .returned (.bool bk) ∧ Below w'.heap.size w' w2) := ⟨fun w' hw => by
      obtain ⟨ok, hD⟩ := (HTr.out.below hw).left; rw [HBK.out.1]; exact blank_calls hD xb⟩
     have HOC : Aside0 (∀ w', Below wr.heap.size wr w' → Calls Try.prog 59 #[.slice Aa al.length ca, .int .i64 xb] w' fun e w2 => OfTo w' w2 e oo) := ⟨fun w' hw => by
      rw [HOO.out]; exact of_calls xb al Aa ca w' HLA.out (HGC.out w' hw).2.2.2.2⟩
     have HIG : Aside0 (∀ w' B b, Below wr.heap.size wr w' → gl.length ≤ b ∧ Kd.C (Kd.int .i64) w' B gl.length gl → Calls Try.prog 57 #[.slice B gl.length b, .slice A9 gl.length c9] w' fun e w2 => e = .returned (.bool true) ∧ Below w'.heap.size w' w2) := ⟨fun w' B b hw h => ints_same h (HGC.out w' hw).1 (by have := HLN.out; omega)⟩; have HIM : Aside0 (∀ w' B b, Below wr.heap.size wr w' → ml.length ≤ b ∧ Kd.C (Kd.int .i64) w' B ml.length ml → Calls Try.prog 57 #[.slice B ml.length b, .slice A10 ml.length c10] w' fun e w2 => e = .returned (.bool true) ∧ Below w'.heap.size w' w2) := ⟨fun w' B b hw h => ints_same h (HGC.out w' hw).2.1 (by have := HLN.out; omega)⟩; have HSC : Aside0 (∀ w' B b, Below wr.heap.size wr w' → oo.length ≤ b ∧ Kd.C k94 w' B oo.length oo → Calls Try.prog 52 #[.slice B oo.length b, .slice A oo.length c] w' fun e w2 => e = .returned (.bool true) ∧ Below w'.heap.size w' w2) := ⟨fun w' B b hw h => same_calls18 h.2 h.1 (HGC.out w' hw).2.2.1.2 (HGC.out w' hw).2.2.1.1 (by have := HLO.out; omega)⟩; clear hi hie hot hoo; go_upto_region 25 with fail; clear t1 t2; go_wp2_with (first | (go_at_call 49; refine (HBC.out _ (Below.refl _ _)).mono ?_; rintro e w21 ⟨v, rfl, hR, hb⟩; obtain ⟨B1, b1, hv, hl, hC⟩ := Kd.R_reads hR; subst hv; have HB21 := aK hb; have HC21 := aK (And.intro hl hC); clear hb hR hl hC) | (go_at_call 58; refine (HMC.out _ HB22.out).mono ?_; rintro e w23 ⟨v, rfl, hR, hb⟩; obtain ⟨B2, b2, hv, hl, hC⟩ := Kd.R_reads hR; subst hv; have HB23 := aK (below_then HB22.out HB22.out.size hb); have HC23 := aK (And.intro hl hC); clear hb hR hl hC) | (go_at_call 48; refine (HKC.out _ HB24.out).mono ?_; rintro e w25 ⟨rfl, hb⟩; have HB25 := aK (below_then HB24.out HB24.out.size hb); clear hb) | (go_at_call 59; refine (HOC.out _ HB25.out).mono ?_; rintro e w26 ⟨B3, b3, rfl, hC, hb⟩; have HB26 := aK (below_then HB25.out HB25.out.size hb); have HC26 := aK hC; clear hb hC) | (go_at_call 52; refine (HSC.out _ _ _ HB26.out HC26.out).mono ?_; rintro e w27 ⟨rfl, hb⟩; have HB27 := aK (below_then HB26.out HB26.out.size hb); clear hb) | (go_at_call 57; (with_reducible refine (HIM.out _ _ _ HB23.out HC23.out).mono ?_); rintro e w24 ⟨rfl, hb⟩; have HB24 := aK (below_then HB23.out HB23.out.size hb); clear hb) | (go_at_call 57; (with_reducible refine (HIG.out _ _ _ HB21.out HC21.out).mono ?_); rintro e w22 ⟨rfl, hb⟩; have HB22 := aK (below_then HB21.out HB21.out.size hb); clear hb)); go_ret; exact ⟨by first | rfl | simp, below_then HBr.out HBr.out.size HB27.out⟩
    case pos =>
     have t1 : decide ((i : Int) < ((al.length : Nat) : Int)) = true := decide_eq_true (by omega); have t2 : decide (i < al.length) = true := decide_eq_true hi; have q0 := eq_true (show (0 : Int) ≤ (i : Int) by omega); have q1 := eq_true (show (i : Int) < ((al.length : Nat) : Int) by omega); have q2 := eq_true hi; have hw9 : IntKind.i64.wrap ((i : Int) + 1) = (i : Int) + 1 := (ND.wrap_id (by omega) (by have := HLA.out; omega)).1; obtain ⟨x, hx⟩ : ∃ x, x = rd_T94 al (i : Int) := ⟨_, rfl⟩; have hxi : al[i]? = some x := by
      rw [hx]; unfold rd_T94; rw [Int.toNat_natCast, List.getD_eq_getElem?_getD, List.getElem?_eq_getElem hi]; rfl
     obtain ⟨ad, rfl, x0, x1, x2, x3, x4, x5, x6, x7, x8⟩ := at_T94 (Kd.C_below HA9.out.2 HB.out) (i : Int) (by omega) (by omega); rw [← hx, Int.toNat_natCast] at x0 x1 x2 x3 x4 x5 x6 x7 x8; have HSN := aK (ofL_snoc xb al hxi); have HLL : Aside0 ((ofL xb (al.take i)).length ≤ 2000) := ⟨by have := ofL_len xb al i; have := HLA.out; omega⟩; have HI2 := aK hi; clear hx hxi hi
     cases hq : (x.f0.f0 == xb) with
     | false =>
      have HN : Aside0 (ofL xb (al.take (i + 1)) = ofL xb (al.take i)) := ⟨by rw [HSN.out, hq]; simp⟩; go_wp2_with fail; go_roundg (al.length - i)
      case measure => have := HI.out; have := HI2.out; omega
      case rel => exact ⟨i + 1, c, A, by rw [HN.out], by first | rfl | go_num, ⟨by have := HI2.out; omega, by have := HI.out; have := HI2.out; omega⟩, ⟨by rw [HN.out]; exact HO.out⟩, HB⟩
     | true =>
      have HN : Aside0 (ofL xb (al.take (i + 1)) = ofL xb (al.take i) ++ [x]) := ⟨by rw [HSN.out, hq]; simp⟩; have HMK := aK (k94_mkM wr w9.heap.size (fun _ => False) x); go_wp2_with (at_builtin; (refine Kd.R_append k94 w9.heap.size rfl _ _ 77 94 _ 72 rfl Try.underlying77 inf_fd rfl (by decide) (by decide) (.slice A (ofL xb (al.take i)).length c) _ x [.int .i64 x.f0.f0, .int .i64 x.f0.f1, .int .i64 x.f1.f0, .int .i64 x.f1.f1, .int .i64 x.f1.f2, .int .u64 x.f1.f3, .int .u64 x.f1.f4, .int .i64 x.f1.f5, .int .i64 x.f1.f6] (fun k => w9.heap.size ≤ k) (fun _ => False) rfl rfl HMK.out (fun k hk => hk.elim) (fun k hk => Nat.le_trans HB.out.size hk) HO.out HB.out HB.out.size (Nat.le_trans (Nat.mul_le_mul_right 72 (Nat.succ_le_succ HLL.out)) (by decide)) ?_); intro v1 w5 ho5 hb5 hg5 hat5; obtain ⟨A1, c1, hv1⟩ := Kd.R_slice ho5; subst hv1; replace ho5 := aK ho5; replace hb5 := aK hb5; clear hg5 hat5); go_roundg (al.length - i)
      case measure => have := HI.out; have := HI2.out; omega
      case rel => exact ⟨i + 1, c1, A1, by rw [HN.out, List.length_append]; rfl, by first | rfl | go_num, ⟨by have := HI2.out; omega, by have := HI.out; have := HI2.out; omega⟩, ⟨by rw [HN.out]; exact ho5.out⟩, hb5⟩
  case pos =>
   have t1 : decide ((i : Int) < (Bn : Int)) = true := decide_eq_true (by omega); have t2 : decide (i < Bn) = true := decide_eq_true hi; have z3 := blk_cell HZr.out 3; have hw9 : IntKind.i64.wrap ((i : Int) + 1) = (i : Int) + 1 := (ND.wrap_id (by omega) (by have := HPP.out; omega)).1; obtain ⟨mk, hmk⟩ : ∃ m, m = D.mark (i : Int) := ⟨_, rfl⟩; have HHC : Aside0 (Calls Try.prog 44 #[.slice Ab bad.length cb, .int .i64 (i : Int)] wr fun e w' => e = .returned (.bool mk) ∧ Below wr.heap.size wr w') := ⟨by
    have k := ND.has_calls (i : Int) (Kd.C_below HIN.out.1 (below_then HB4.out HB4.out.size HB.out)) HIN.out.2.1 (by have := HLB.out; omega); rw [hmk]; unfold Dv.mark; rw [HPP.out.2.2.2.2.2.2]; exact k⟩
   have hsf := someTo_succ D false HI.out.1; have hst := someTo_succ D true HI.out.1; rw [← hmk] at hsf hst; have HSS := aK (And.intro hsf hst); have HLN : Aside0 ((someTo D false i).length ≤ 1000 ∧ (someTo D true i).length ≤ 1000) := ⟨by have := someTo_len D false i; have := someTo_len D true i; have := HPP.out; omega⟩; have HI2 := aK hi; clear hi hmk hsf hst
   go_upto_if 41 with (go_at_call 44; refine HHC.out.mono ?_; rintro e w8 ⟨rfl, hb⟩; have HB8 := aK (below_then HB.out HB.out.size hb); have HR8 := aK (HR.out.below hb); clear hb z0 z3)
   cases mk with
   | true =>
    have HN : Aside0 (someTo D false (i + 1) = someTo D false i ∧ someTo D true (i + 1) = someTo D true i ++ [(i : Int)]) := ⟨by rw [HSS.out.1, HSS.out.2]; simp⟩; go_wp2_with (at_builtin; (refine Kd.R_append (Kd.int .i64) w4.heap.size rfl _ _ 24 3 _ 8 rfl Try.underlying24 inf_int rfl (by decide) (by decide) (.slice A10 (someTo D true i).length c10) _ (i : Int) [.int .i64 (i : Int)] (fun k => w4.heap.size ≤ k) (fun _ => False) rfl rfl rfl (fun k hk => hk.elim) (fun k hk => Nat.le_trans HB8.out.size hk) HR8.out.2.1 HB8.out HB8.out.size (Nat.le_trans (Nat.mul_le_mul_right 8 (Nat.succ_le_succ HLN.out.2)) (by decide)) ?_); intro v1 w5 ho5 hb5 hg5 hat5; obtain ⟨A1, c1, hv1⟩ := Kd.R_slice ho5; subst hv1; have HR5 := aK (HR8.out.symm.app ho5 hg5 hat5).symm; replace hb5 := aK hb5; clear hg5 hat5 ho5); go_roundg (gk - 1)
    case measure => have := HI.out; have := HI2.out; omega
    case rel => exact ⟨i + 1, c9, c1, A9, A1, by rw [HN.out.1], by rw [HN.out.2, List.length_append]; rfl, by first | rfl | go_num, ⟨by have := HI.out; omega, by have := HI2.out; omega, by have := HI.out; have := HI2.out; omega⟩, ⟨by rw [HN.out.1, HN.out.2]; exact HR5.out⟩, hb5⟩
   | false =>
    have HN : Aside0 (someTo D false (i + 1) = someTo D false i ++ [(i : Int)] ∧ someTo D true (i + 1) = someTo D true i) := ⟨by rw [HSS.out.1, HSS.out.2]; simp⟩; go_wp2_with (at_builtin; (refine Kd.R_append (Kd.int .i64) w4.heap.size rfl _ _ 24 3 _ 8 rfl Try.underlying24 inf_int rfl (by decide) (by decide) (.slice A9 (someTo D false i).length c9) _ (i : Int) [.int .i64 (i : Int)] (fun k => w4.heap.size ≤ k) (fun _ => False) rfl rfl rfl (fun k hk => hk.elim) (fun k hk => Nat.le_trans HB8.out.size hk) HR8.out.1 HB8.out HB8.out.size (Nat.le_trans (Nat.mul_le_mul_right 8 (Nat.succ_le_succ HLN.out.1)) (by decide)) ?_); intro v1 w5 ho5 hb5 hg5 hat5; obtain ⟨A1, c1, hv1⟩ := Kd.R_slice ho5; subst hv1; have HR5 := aK (HR8.out.app ho5 hg5 hat5); replace hb5 := aK hb5; clear hg5 hat5 ho5); go_roundg (gk - 1)
    case measure => have := HI.out; have := HI2.out; omega
    case rel => exact ⟨i + 1, c1, c10, A1, A10, by rw [HN.out.1, List.length_append]; rfl, by rw [HN.out.2], by first | rfl | go_num, ⟨by have := HI.out; omega, by have := HI2.out; omega, by have := HI.out; have := HI2.out; omega⟩, ⟨by rw [HN.out.1, HN.out.2]; exact HR5.out⟩, hb5⟩
end Go.Proofs.Ytnchdmidaigheaa.GS
namespace Go.Proofs.Ytnchdmidaigheaa.Hp
open Go.RowKit Go.Proofs.YtnchdmidaigheaaW.PrintWords Go.Proofs.YtnchdmidaigheaaW.PrintLast Go.Proofs.YtnchdmidaigheaaW.PrintMore
attribute [local go_sem] max2_int min2_int max_two min_two max_three min_three max_four min_four   -- for this text's walks alone
set_option linter.unusedVariables false
set_option linter.unusedSimpArgs false
open Classical in
noncomputable def wagtaillaw18_ScanBlocks.f (p0 p1 p2 : Int) (bad : List Int) (fs : List S65) (l : List S132) (b : Int) : Option Bool := if l.length ≤ 9223372036854775807 ∧ (∀ f ∈ fs, isBytes f.f2) ∧ (∀ x ∈ l, 0 ≤ x.f1.f3 ∧ 0 ≤ x.f1.f4) then some true else none
set_option maxHeartbeats 8000000 in
set_option maxRecDepth 100000 in
theorem wagtaillaw18_ScanBlocks.calls (a0_0 : Int) (a0_1 : Int) (a0_2 : Int) (A0_3 : Option Addr) (c0_3 : Nat) (l0_3 : List Int) (A0_4 : Option Addr) (c0_4 : Nat) (l0_4 : List (S65)) (A1 : Option Addr) (c1 : Nat) (l1 : List (S132)) (a2 : Int) (r : Bool) (w : World) (hr0_3 : Kd.C (Kd.int .i64) w A0_3 l0_3.length l0_3) (hc0_3 : l0_3.length ≤ c0_3) (hr0_4 : Kd.C k65 w A0_4 l0_4.length l0_4) (hc0_4 : l0_4.length ≤ c0_4) (hr1 : Kd.C k132 w A1 l1.length l1) (hc1 : l1.length ≤ c1) (h : wagtaillaw18_ScanBlocks.f a0_0 a0_1 a0_2 l0_3 l0_4 l1 a2 = some r) :
  Calls Try.prog 10 #[.agg #[.int .i64 a0_0, .int .i64 a0_1, .int .i64 a0_2, .slice A0_3 l0_3.length c0_3, .slice A0_4 l0_4.length c0_4], .slice A1 l1.length c1, .int .i64 a2] w fun e w' => e = .returned (.bool r) ∧ Below w.heap.size w w' := by
 unfold wagtaillaw18_ScanBlocks.f at h; by_cases hc : l1.length ≤ 9223372036854775807 ∧ (∀ f ∈ l0_4, isBytes f.f2) ∧ (∀ x ∈ l1, 0 ≤ x.f1.f3 ∧ 0 ≤ x.f1.f4)
 case neg => rw [if_neg hc] at h; cases h
 rw [if_pos hc] at h; obtain rfl := Option.some.inj h; exact GS.scanBlocks_calls a0_0 a0_1 a0_2 a2 l0_3 l0_4 l1 A0_3 A0_4 A1 c0_3 c0_4 c1 hr0_3 hc0_3 hr0_4 hc0_4 hr1 hc.2.1 hc.2.2 hc.1
end Go.Proofs.Ytnchdmidaigheaa.Hp
namespace Go.Proofs.Ytnchdmidaigheaa.Hp
open Go.RowKit Go.Proofs.YtnchdmidaigheaaW.PrintWords
def ok23 (x : S23) : Prop := ((Lit.int .i64 x.f0).wf = true) ∧ ((Lit.int .i64 x.f1).wf = true) ∧ ((Lit.int .i64 x.f2).wf = true)
theorem tk23 : Tk Try.prog k23 23 ok23 :=
 Tk.imp (Tk.iso (Tk.struct Try.underlying23 (by kernel_rfl) (Tks.cons (Tk.int Try.underlying3) rfl (by kernel_rfl) (Tks.cons (Tk.int Try.underlying3) rfl (by kernel_rfl) (Tks.last (Tk.int Try.underlying3) rfl (by kernel_rfl))))) (fun x : S23 => (x.f0, x.f1, x.f2)) (fun p => ⟨p.1, p.2.1, p.2.2⟩) (fun _ => rfl)) (fun x h => h)
def ok65 (x : S65) : Prop := ((Lit.int .i64 x.f0).wf = true) ∧ ((Lit.int .i64 x.f1).wf = true) ∧ (x.f2.length ≤ 9223372036854775807 ∧ ∀ x_ ∈ x.f2, (Lit.int .u8 x_).wf = true)
theorem tk65 : Tk Try.prog k65 65 ok65 :=
 Tk.imp (Tk.iso (Tk.struct Try.underlying65 (by kernel_rfl) (Tks.cons (Tk.int Try.underlying3) rfl (by kernel_rfl) (Tks.cons (Tk.int Try.underlying3) rfl (by kernel_rfl) (Tks.last (Tk.slice (Tk.int Try.underlying5) Try.underlying38 (by kernel_rfl)) rfl (by kernel_rfl))))) (fun x : S65 => (x.f0, x.f1, x.f2)) (fun p => ⟨p.1, p.2.1, p.2.2⟩) (fun _ => rfl)) (fun x h => h)
def ok27 (x : S27) : Prop := (ok23 x.f0) ∧ (x.f1.length ≤ 9223372036854775807 ∧ ∀ x_ ∈ x.f1, (Lit.int .i64 x_).wf = true) ∧ (x.f2.length ≤ 9223372036854775807 ∧ ∀ x_ ∈ x.f2, ok65 x_)
theorem tk27 : Tk Try.prog k27 27 ok27 :=
 Tk.imp (Tk.iso (Tk.struct Try.underlying27 (by kernel_rfl) (Tks.cons tk23 rfl (by kernel_rfl) (Tks.cons (Tk.slice (Tk.int Try.underlying3) Try.underlying24 (by kernel_rfl)) rfl (by kernel_rfl) (Tks.last (Tk.slice tk65 Try.underlying25 (by kernel_rfl)) rfl (by kernel_rfl))))) (fun x : S27 => (x.f0, x.f1, x.f2)) (fun p => ⟨p.1, p.2.1, p.2.2⟩) (fun _ => rfl)) (fun x h => h)
def ok82 (x : S82) : Prop := ((Lit.int .i64 x.f0).wf = true) ∧ ((Lit.int .i64 x.f1).wf = true) ∧ ((Lit.int .i64 x.f2).wf = true) ∧ ((Lit.int .u64 x.f3).wf = true) ∧ ((Lit.int .u64 x.f4).wf = true) ∧ ((Lit.int .i64 x.f5).wf = true) ∧ ((Lit.int .i64 x.f6).wf = true)
theorem tk82 : Tk Try.prog k82 82 ok82 :=
 Tk.imp (Tk.iso (Tk.struct Try.underlying82 (by kernel_rfl) (Tks.cons (Tk.int Try.underlying3) rfl (by kernel_rfl) (Tks.cons (Tk.int Try.underlying3) rfl (by kernel_rfl) (Tks.cons (Tk.int Try.underlying3) rfl (by kernel_rfl) (Tks.cons (Tk.int Try.underlying80) rfl (by kernel_rfl) (Tks.cons (Tk.int Try.underlying80) rfl (by kernel_rfl) (Tks.cons (Tk.int Try.underlying3) rfl (by kernel_rfl) (Tks.last (Tk.int Try.underlying3) rfl (by kernel_rfl))))))))) (fun x : S82 => (x.f0, x.f1, x.f2, x.f3, x.f4, x.f5, x.f6)) (fun p => ⟨p.1, p.2.1, p.2.2.1, p.2.2.2.1, p.2.2.2.2.1, p.2.2.2.2.2.1, p.2.2.2.2.2.2⟩) (fun _ => rfl)) (fun x h => h)
def ok132 (x : S132) : Prop := ((Lit.int .i64 x.f0).wf = true) ∧ (ok82 x.f1) ∧ (x.f2.size ≤ 9223372036854775807) ∧ (True)
theorem tk132 : Tk Try.prog k132 132 ok132 :=
 Tk.imp (Tk.iso (Tk.struct Try.underlying132 (by kernel_rfl) (Tks.cons (Tk.int Try.underlying3) rfl (by kernel_rfl) (Tks.cons tk82 rfl (by kernel_rfl) (Tks.cons (Tk.string Try.underlying9) rfl (by kernel_rfl) (Tks.last (Tk.bool Try.underlying4) rfl (by kernel_rfl)))))) (fun x : S132 => (x.f0, x.f1, x.f2, x.f3)) (fun p => ⟨p.1, p.2.1, p.2.2.1, p.2.2.2⟩) (fun _ => rfl)) (fun x h => h)
end Go.Proofs.Ytnchdmidaigheaa.Hp
namespace Go.Proofs.Ytnchdmidaigheaa.Hp
open Go.RowKit Go.Proofs.YtnchdmidaigheaaW.PrintWords
def wagtaillaw18_ScanBlocks.Pure : Prop := ∀ (x0 : S27) (l1 : List (S132)) (a2 : Int), (ok27 x0) → (l1.length ≤ 9223372036854775807 ∧ ∀ x_ ∈ l1, ok132 x_) → ((Lit.int .i64 a2).wf = true) → ∃ _k : Nat, wagtaillaw18_ScanBlocks.f x0.f0.f0 x0.f0.f1 x0.f0.f2 x0.f1 x0.f2 l1 a2 = some true
end Go.Proofs.Ytnchdmidaigheaa.Hp
namespace Go.Proofs.Ytnchdmidaigheaa.Pure
set_option linter.unusedVariables false
open Go.RowKit Go.Proofs.Ytnchdmidaigheaa.Hp Go.Proofs.YtnchdmidaigheaaW.PrintWords Go.Proofs.YtnchdmidaigheaaW.PrintLast
theorem ScanBlocks : wagtaillaw18_ScanBlocks.Pure := by
 intro x l b hx hl _; exact ⟨0, if_pos ⟨hl.1, fun f hf y hy => bounds_u8 ((hx.2.2.2 f hf).2.2.2 y hy), fun a ha => ⟨(bounds_u64 (hl.2 a ha).2.1.2.2.2.1).1, (bounds_u64 (hl.2 a ha).2.1.2.2.2.2.1).1⟩⟩⟩
end Go.Proofs.Ytnchdmidaigheaa.Pure
namespace Go.Proofs.YtnchdmidaigheaaW.PrintWords
open Go.ChangeShapes Go.WideShapes
end Go.Proofs.YtnchdmidaigheaaW.PrintWords
namespace Go.Proofs.Ytnchdmidaigheaa.scanBlocks
open Go.ChangeShapes Go.WideShapes Go.ChangeAt Go.RowKit Go.Proofs.YtnchdmidaigheaaW.PrintWords Go.Proofs.Ytnchdmidaigheaa.Hp
open Go.ChangeMaps (open_string shut_string)
set_option linter.unusedVariables false
set_option linter.unusedSimpArgs false
theorem own : ownKnob Try.prog.godebug = none := by kernel_rfl
theorem laidOut : laidOutB Try.prog = true := by kernel_rfl
set_option maxRecDepth 100000 in
theorem lifted (os : Os) (started : os.Started) (H : Type) (enc : TypeId × Value → H) :
  ReturnsInHanded {} Try.checked os 10 .any (Rows.scanBlocksSpec.pre6 enc Try.prog Try.f10 Rows.scanBlocksRow.domain false) (Rows.scanBlocksSpec.post enc Try.prog Try.f10 false true false false) := by
 refine returnsInHanded_of_change_sized (C := Try.checked) own started (by kernel_rfl) Try.func10
  (ChangeSpec.witness6 (enc := enc) (C := Try.checked) false ⟨#[], #[.agg #[.int .i64 0, .int .i64 0, .int .i64 0, .slice none 0 0, .slice none 0 0], .slice none 0 0, .int .i64 0], []⟩ 8 (by kernel_rfl) (by kernel_rfl) (by kernel_rfl) (by kernel_rfl)) ?_
 intro W base args ds gs before hval0 hW hcnd hsz0 _; have hsz : (DataW.weightsEach Try.prog (Try.f10.params.toList ++ Rows.scanBlocksSpec.plain.varTypes Try.prog) (ds ++ gs)).all (· ≤ reachBytes) = true := hsz0; have hval : ∀ (j : Nat) t v, Try.f10.params[j]? = some t → args[j]? = some v → Value.okWide Try.prog W .any base t v := hval0; have hW' := hW; obtain ⟨p, q, hA0, hV, rfl, hfz, hnd⟩ := hW; have hA : DataW.TrodAll enc Try.prog W 0 (fun _ => true) true Try.f10.params.toList args.toList ds p := hA0; rw [Try.params10] at hA hval hsz; obtain ⟨v0, vs0, d0, ds0, p0, q0, hargs, rfl, rfl, h0, r0⟩ := trodAll_cons hA; obtain ⟨v1, vs1, d1, ds1, p1, q1, rfl, rfl, rfl, h1, r1⟩ := trodAll_cons r0; obtain ⟨v2, vs2, d2, ds2, p2, q2, rfl, rfl, rfl, h2, r2⟩ := trodAll_cons r1; obtain ⟨rfl, rfl, rfl⟩ := trodAll_nil r2; obtain rfl : args = #[v0, v1, v2] := by cases args; simp_all
 obtain ⟨rfl, rfl⟩ := trodVars_none hV; have k0 := h0; have lt0 : ∀ x ∈ p0, x.block < W.heap.size := by obtain ⟨m, hm⟩ := k0; exact DataW.trod_lt m _ _ _ hm
 obtain ⟨cs0, rfl, _⟩ := okWide_struct Try.underlying27 (hval 0 27 v0 rfl rfl); obtain ⟨x0, z0, g0⟩ := (show ∃ y, k27.K W y cs0.toList ∧ ok27 y from by obtain ⟨fuel, hf⟩ := h0; exact tk27.go hf); obtain ⟨A3_0, c3_0, A4_0, c4_0, e0, y0_0, y0_1, y0_2, y0_3⟩ := k27_open z0; obtain rfl : cs0 = #[.int .i64 x0.f0.f0, .int .i64 x0.f0.f1, .int .i64 x0.f0.f2, .slice A3_0 x0.f1.length c3_0, .slice A4_0 x0.f2.length c4_0] := by cases cs0; simpa using e0
 have k1 := h1; have lt1 : ∀ x ∈ p1, x.block < W.heap.size := by obtain ⟨m, hm⟩ := k1; exact DataW.trod_lt m _ _ _ hm
 obtain ⟨a1, len1, cap1, rfl⟩ := okWide_slice Try.underlying88 (hval 1 88 v1 rfl rfl); obtain ⟨l1, ⟨A1, c1, e1, hc1, hr1⟩, g1⟩ := (show ∃ y, (Kd.slice 132 k132).K W y [.slice a1 len1 cap1] ∧ (y.length ≤ 9223372036854775807 ∧ ∀ x_ ∈ y, ok132 x_) from by obtain ⟨fuel, hf⟩ := h1; exact ((Tk.slice tk132 Try.underlying88 (by kernel_rfl))).go hf); injection e1 with e1; injection e1 with ea1 el1 ec1; subst ea1 el1 ec1; have k2 := h2; have lt2 : ∀ x ∈ p2, x.block < W.heap.size := by obtain ⟨m, hm⟩ := k2; exact DataW.trod_lt m _ _ _ hm
 obtain ⟨a2, rfl, _, _, g2⟩ := open_int Try.underlying3 (hval 2 3 v2 rfl rfl) h2; clear hA0 hval0 hsz0 hsz; obtain ⟨kk, hk⟩ := Pure.ScanBlocks x0 l1 a2 g0 g1 g2; refine (wagtaillaw18_ScanBlocks.calls x0.f0.f0 x0.f0.f1 x0.f0.f2 A3_0 c3_0 x0.f1 A4_0 c4_0 x0.f2 a1 cap1 l1 a2 true W y0_1 y0_0 y0_3 y0_2 hr1 hc1 hk).mono fun e W' ⟨he, bel0⟩ => ?_; have bel : Below W.heap.size W W' := bel0; subst he; exact ⟨_, rfl, _, _, _, [], _, [], hW', trodAll_mk1 (shut_bool Try.underlying4 _), (trodAll_cons_mk (Below.trod laidOut (by kernel_rfl) (of_decide_eq_true (by kernel_rfl)) k0 bel lt0) (trodAll_cons_mk (Below.trod laidOut (by kernel_rfl) (of_decide_eq_true (by kernel_rfl)) k1 bel lt1) (trodAll_cons_mk (Below.trod laidOut (by kernel_rfl) (of_decide_eq_true (by kernel_rfl)) k2 bel lt2) trodAll_mk0))), rfl, bel.frame _, fun h => by cases h⟩
theorem over : Rows.scanBlocksRow.holds Try.pinned (OpenSpec.ofChange Rows.scanBlocksSpec) :=
 OpenClaim.holds_of_wide 10 Try.f10 rfl rfl rfl rfl rfl rfl rfl ⟨rfl, rfl, rfl, rfl, rfl⟩ rfl rfl rfl rfl rfl (by kernel_rfl) Try.func10 (by kernel_rfl)
  (of_decide_eq_true (by kernel_rfl)) (by unfold Func.isWrapper; first | (rw [if_pos (by decide +kernel)]; kernel_rfl) | (rw [if_neg (by decide +kernel)]; exact ⟨rfl, rfl⟩))
  (fun os started H enc _ => lifted os started H enc)
theorem proved : Rows.ScanBlocksSaid := over
#print axioms proved
end Go.Proofs.Ytnchdmidaigheaa.scanBlocks
namespace Go.Proofs.Ytnchdmidaigheaa
theorem scanBlocks_holds : Rows.ScanBlocksSaid := scanBlocks.proved
end Go.Proofs.Ytnchdmidaigheaa
